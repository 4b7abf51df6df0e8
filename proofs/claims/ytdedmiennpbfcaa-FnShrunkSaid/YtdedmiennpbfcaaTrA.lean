/- Motions, contacts and trails: contracts. -/
import Derived.Test.YtdedmiennpbfcaaNum
import Derived.Test.YtdedmiennpbfcaaBox
namespace Go.Proofs.Ytdedmiennpbfcaa
open Go.RowKit
set_option linter.unusedVariables false
set_option linter.unusedSimpArgs false

def coB (x y : Int) : Bool := inB x (-100000) 100000 && inB y (-100000) 100000
def moB (x y p q s : Int) : Bool := coB x y && (inB p (-1000) 1000 && (inB q (-1000) 1000 && inB s 0 10000))
def staB (t h m : Int) : Bool :=
  if t = 0 then inB m 0 1 && decide (h < 3) else if t = 1 then inB m 0 3 && decide (3 ≤ h) else if t = 2 then inB m 0 4 else false
def trB (x y p q s t h m : Int) : Bool := moB x y p q s && (inB h 1 1000 && staB t h m)
end Go.Proofs.Ytdedmiennpbfcaa
