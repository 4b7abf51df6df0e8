/-
  No cell of these rows narrows 'for every input' (looked for: loops, veiled, ifaces, maps, wideKeys, modest, calm, conditions, laid).
  DERIVED. THE GIVEN ROWS OF THIS SEAT. 4 by the template 'for every input the law returns true; each argument reads behind the call as it read before'; 0 by the template 'total and deterministic' (their statements: YtpanignlpcemnaaTotals.lean).
  GIVEN WITH THE SEED: the statements are not yours to turn. If you find one false, say at which input.
  Laid BY PROGRAM, IN A SANDBOX (cutbox-rows.mjs): the forced cells as the released guide's own fill.sh prints them over the translation 47c152429202f998… (all of the seat's roots in one cut). By AI agents, Wed Nov 11 2026. No macro, syntax, notation, axiom, sorry.
-/
import Derived.Test.YtpanignlpcemnaaChecked
import GoSem.Claim
import GoSem.ClaimJoined
import GoSem.ClaimMapViews
import Derived.JoinedTies
import Derived.KernelRfl
namespace Go.Proofs.Ytpanignlpcemnaa
/- THE CELL 'sum', in the pinned program and in every row, IS THE sha256 OF THE DUMP (.gsa) THAT YtpanignlpcemnaaProg.lean LOADS. Nothing in Lean hashes anything: it is a label: what it is worth is what the hold of that sum in a sandbox is worth. -/
noncomputable def Try.pinned : Pinned := { name := "ytpanignlpcemnaa", sum := "47c152429202f998e4a293209429b011b61a4d8cb0c5abec02fbcae3b8063615", checked := Try.checked }
namespace Rows
def none {H : Type} : Left H := { results := [], args := [] }

/-- 'laws.FnMotions': WHATEVER THE INPUT: true; the input reads as it did. -/
def fnMotionsSpec : ChangeSpec := { name := "fnMotions", fn := fun _ => fun
  | [d] => { results := [.lit (.bool true)], args := [d] }
  | _ => none }
def fnMotionsRow : OpenClaim := { program := "ytpanignlpcemnaa", sum := "47c152429202f998e4a293209429b011b61a4d8cb0c5abec02fbcae3b8063615", func := "loop.example/g00915/laws.FnMotions", spec := "fnMotions", unfollowed := true, recurses := true, apart := false }
def FnMotionsSaid : Prop := fnMotionsRow.holds Try.pinned (OpenSpec.ofChange fnMotionsSpec)

/-- ITS FALSE NEIGHBOUR: 'it returns false'. Refute it at one input. -/
def fnMotionsWrong : ChangeSpec := { name := "fnMotions", fn := fun _ => fun
  | [d] => { results := [.lit (.bool false)], args := [d] }
  | _ => none }
def FnMotionsWrongFalsely : Prop := fnMotionsRow.holds Try.pinned (OpenSpec.ofChange fnMotionsWrong)

/-- 'laws.FnGates': WHATEVER THE INPUT: true; the input reads as it did. -/
def fnGatesSpec : ChangeSpec := { name := "fnGates", fn := fun _ => fun
  | [d] => { results := [.lit (.bool true)], args := [d] }
  | _ => none }
def fnGatesRow : OpenClaim := { program := "ytpanignlpcemnaa", sum := "47c152429202f998e4a293209429b011b61a4d8cb0c5abec02fbcae3b8063615", func := "loop.example/g00915/laws.FnGates", spec := "fnGates", unfollowed := true, recurses := true, apart := false }
def FnGatesSaid : Prop := fnGatesRow.holds Try.pinned (OpenSpec.ofChange fnGatesSpec)

/-- ITS FALSE NEIGHBOUR: 'it returns false'. Refute it at one input. -/
def fnGatesWrong : ChangeSpec := { name := "fnGates", fn := fun _ => fun
  | [d] => { results := [.lit (.bool false)], args := [d] }
  | _ => none }
def FnGatesWrongFalsely : Prop := fnGatesRow.holds Try.pinned (OpenSpec.ofChange fnGatesWrong)

/-- 'laws.FnGateTables': WHATEVER THE INPUT: true; the input reads as it did. -/
def fnGateTablesSpec : ChangeSpec := { name := "fnGateTables", fn := fun _ => fun
  | [d] => { results := [.lit (.bool true)], args := [d] }
  | _ => none }
def fnGateTablesRow : OpenClaim := { program := "ytpanignlpcemnaa", sum := "47c152429202f998e4a293209429b011b61a4d8cb0c5abec02fbcae3b8063615", func := "loop.example/g00915/laws.FnGateTables", spec := "fnGateTables", unfollowed := true, recurses := true, apart := false }
def FnGateTablesSaid : Prop := fnGateTablesRow.holds Try.pinned (OpenSpec.ofChange fnGateTablesSpec)

/-- ITS FALSE NEIGHBOUR: 'it returns false'. Refute it at one input. -/
def fnGateTablesWrong : ChangeSpec := { name := "fnGateTables", fn := fun _ => fun
  | [d] => { results := [.lit (.bool false)], args := [d] }
  | _ => none }
def FnGateTablesWrongFalsely : Prop := fnGateTablesRow.holds Try.pinned (OpenSpec.ofChange fnGateTablesWrong)

/-- 'laws.FnShrunk': WHATEVER THE INPUT: true; the input reads as it did. -/
def fnShrunkSpec : ChangeSpec := { name := "fnShrunk", fn := fun _ => fun
  | [d] => { results := [.lit (.bool true)], args := [d] }
  | _ => none }
def fnShrunkRow : OpenClaim := { program := "ytpanignlpcemnaa", sum := "47c152429202f998e4a293209429b011b61a4d8cb0c5abec02fbcae3b8063615", func := "loop.example/g00915/laws.FnShrunk", spec := "fnShrunk", apart := false }
def FnShrunkSaid : Prop := fnShrunkRow.holds Try.pinned (OpenSpec.ofChange fnShrunkSpec)

/-- ITS FALSE NEIGHBOUR: 'it returns false'. Refute it at one input. -/
def fnShrunkWrong : ChangeSpec := { name := "fnShrunk", fn := fun _ => fun
  | [d] => { results := [.lit (.bool false)], args := [d] }
  | _ => none }
def FnShrunkWrongFalsely : Prop := fnShrunkRow.holds Try.pinned (OpenSpec.ofChange fnShrunkWrong)

/- THE SECOND FORM. 'bulk': how many values and letters a reading holds, each counted each time it is reached (what is shared counts as often as it is met; a slice's spare places count too). A statement '..UptoSaid' is the law's where the arguments, and the package variables that the reading takes, are together of bulk at most 1048576: NARROWER than '..Said'. Prove '..Said' where nothing that the law and all that it calls make is longer than what came in: it says more and counts as full. Else prove '..UptoSaid'. A law counts once. -/
mutual
def uptoBulk {H : Type} : DataW H → Nat
  | .lit (.string bytes) => bytes.length + 1
  | .lit _ => 1
  | .nil => 1
  | .ptr d => uptoBulk d + 1
  | .slice elems spare => uptoBulkAll elems + uptoBulkAll spare + 1
  | .agg parts => uptoBulkAll parts + 1
  | .iface _ d => uptoBulk d + 1
  | .map entries => uptoBulkEntries entries + 1
  | .held _ => 1
def uptoBulkAll {H : Type} : List (DataW H) → Nat
  | [] => 0
  | d :: r => uptoBulk d + uptoBulkAll r
def uptoBulkEntries {H : Type} : List (Lit × DataW H) → Nat
  | [] => 0
  | x :: r => uptoBulkEntry x + uptoBulkEntries r
def uptoBulkEntry {H : Type} : Lit × DataW H → Nat
  | (.string bytes, d) => bytes.length + uptoBulk d + 1
  | (_, d) => uptoBulk d + 1
 end
def uptoSmall : (H : Type) → List (DataW H) → Bool := fun _ ds => decide (uptoBulkAll ds ≤ 1048576)
def OpenSpec.upto (s : _root_.Go.ChangeSpec) : _root_.Go.OpenSpec := { _root_.Go.OpenSpec.ofChange s with cond := some uptoSmall }

/-- 'laws.FnMotions', WHERE WHAT IT READS IS OF BULK AT MOST 1048576: true; the input reads as it did. -/
def fnMotionsUptoRow : OpenClaim := { program := "ytpanignlpcemnaa", sum := "47c152429202f998e4a293209429b011b61a4d8cb0c5abec02fbcae3b8063615", func := "loop.example/g00915/laws.FnMotions", spec := "fnMotions", unfollowed := true, recurses := true, apart := false, narrowed := true }
def FnMotionsUptoSaid : Prop := fnMotionsUptoRow.holds Try.pinned (OpenSpec.upto fnMotionsSpec)

/-- 'laws.FnGates', WHERE WHAT IT READS IS OF BULK AT MOST 1048576: true; the input reads as it did. -/
def fnGatesUptoRow : OpenClaim := { program := "ytpanignlpcemnaa", sum := "47c152429202f998e4a293209429b011b61a4d8cb0c5abec02fbcae3b8063615", func := "loop.example/g00915/laws.FnGates", spec := "fnGates", unfollowed := true, recurses := true, apart := false, narrowed := true }
def FnGatesUptoSaid : Prop := fnGatesUptoRow.holds Try.pinned (OpenSpec.upto fnGatesSpec)

/-- 'laws.FnGateTables', WHERE WHAT IT READS IS OF BULK AT MOST 1048576: true; the input reads as it did. -/
def fnGateTablesUptoRow : OpenClaim := { program := "ytpanignlpcemnaa", sum := "47c152429202f998e4a293209429b011b61a4d8cb0c5abec02fbcae3b8063615", func := "loop.example/g00915/laws.FnGateTables", spec := "fnGateTables", unfollowed := true, recurses := true, apart := false, narrowed := true }
def FnGateTablesUptoSaid : Prop := fnGateTablesUptoRow.holds Try.pinned (OpenSpec.upto fnGateTablesSpec)

/-- 'laws.FnShrunk', WHERE WHAT IT READS IS OF BULK AT MOST 1048576: true; the input reads as it did. -/
def fnShrunkUptoRow : OpenClaim := { program := "ytpanignlpcemnaa", sum := "47c152429202f998e4a293209429b011b61a4d8cb0c5abec02fbcae3b8063615", func := "loop.example/g00915/laws.FnShrunk", spec := "fnShrunk", apart := false, narrowed := true }
def FnShrunkUptoSaid : Prop := fnShrunkUptoRow.holds Try.pinned (OpenSpec.upto fnShrunkSpec)

end Rows
end Go.Proofs.Ytpanignlpcemnaa
