/-
  No cell of these rows narrows 'for every input' (looked for: loops, veiled, ifaces, maps, wideKeys, modest, calm, conditions, laid).
  DERIVED. THE GIVEN ROWS OF THIS SEAT. 10 by the template 'for every input the law returns true; each argument reads behind the call as it read before'; 0 by the template 'total and deterministic' (their statements: YtmojjdflihakkaaTotals.lean).
  GIVEN WITH THE SEED: the statements are not yours to turn. If you find one false, say at which input.
  Laid BY PROGRAM, IN A SANDBOX (cutbox-rows.mjs): the forced cells as the released guide's own fill.sh prints them over the translation 4cf3f36a9701be92… (all of the seat's roots in one cut). By AI agents, Wed Nov 11 2026. No macro, syntax, notation, axiom, sorry.
-/
import Derived.Test.YtmojjdflihakkaaChecked
import GoSem.Claim
import GoSem.ClaimJoined
import GoSem.ClaimMapViews
import Derived.JoinedTies
import Derived.KernelRfl
namespace Go.Proofs.Ytmojjdflihakkaa
/- THE CELL 'sum', in the pinned program and in every row, IS THE sha256 OF THE DUMP (.gsa) THAT YtmojjdflihakkaaProg.lean LOADS. Nothing in Lean hashes anything: it is a label: what it is worth is what the hold of that sum in a sandbox is worth. -/
noncomputable def Try.pinned : Pinned := { name := "ytmojjdflihakkaa", sum := "4cf3f36a9701be92e7d1f0ae1aae7eaab94e92c895ece6e122af7ca8c36cead9", checked := Try.checked }
namespace Rows
def none {H : Type} : Left H := { results := [], args := [] }

/-- 'laws.FnExactRunTrail': WHATEVER THE INPUT: true; the input reads as it did. -/
def fnExactRunTrailSpec : ChangeSpec := { name := "fnExactRunTrail", fn := fun _ => fun
  | [d1, d2] => { results := [.lit (.bool true)], args := [d1, d2] }
  | _ => none }
def fnExactRunTrailRow : OpenClaim := { program := "ytmojjdflihakkaa", sum := "4cf3f36a9701be92e7d1f0ae1aae7eaab94e92c895ece6e122af7ca8c36cead9", func := "loop.example/g00915/laws.FnExactRunTrail", spec := "fnExactRunTrail", unfollowed := true, recurses := true, apart := false }
def FnExactRunTrailSaid : Prop := fnExactRunTrailRow.holds Try.pinned (OpenSpec.ofChange fnExactRunTrailSpec)

/-- ITS FALSE NEIGHBOUR: 'it returns false'. Refute it at one input. -/
def fnExactRunTrailWrong : ChangeSpec := { name := "fnExactRunTrail", fn := fun _ => fun
  | [d1, d2] => { results := [.lit (.bool false)], args := [d1, d2] }
  | _ => none }
def FnExactRunTrailWrongFalsely : Prop := fnExactRunTrailRow.holds Try.pinned (OpenSpec.ofChange fnExactRunTrailWrong)

/-- 'laws.FnTrails': WHATEVER THE INPUT: true; the input reads as it did. -/
def fnTrailsSpec : ChangeSpec := { name := "fnTrails", fn := fun _ => fun
  | [d] => { results := [.lit (.bool true)], args := [d] }
  | _ => none }
def fnTrailsRow : OpenClaim := { program := "ytmojjdflihakkaa", sum := "4cf3f36a9701be92e7d1f0ae1aae7eaab94e92c895ece6e122af7ca8c36cead9", func := "loop.example/g00915/laws.FnTrails", spec := "fnTrails", apart := false }
def FnTrailsSaid : Prop := fnTrailsRow.holds Try.pinned (OpenSpec.ofChange fnTrailsSpec)

/-- ITS FALSE NEIGHBOUR: 'it returns false'. Refute it at one input. -/
def fnTrailsWrong : ChangeSpec := { name := "fnTrails", fn := fun _ => fun
  | [d] => { results := [.lit (.bool false)], args := [d] }
  | _ => none }
def FnTrailsWrongFalsely : Prop := fnTrailsRow.holds Try.pinned (OpenSpec.ofChange fnTrailsWrong)

/-- 'laws.FnConfirmed': WHATEVER THE INPUT: true; the input reads as it did. -/
def fnConfirmedSpec : ChangeSpec := { name := "fnConfirmed", fn := fun _ => fun
  | [d] => { results := [.lit (.bool true)], args := [d] }
  | _ => none }
def fnConfirmedRow : OpenClaim := { program := "ytmojjdflihakkaa", sum := "4cf3f36a9701be92e7d1f0ae1aae7eaab94e92c895ece6e122af7ca8c36cead9", func := "loop.example/g00915/laws.FnConfirmed", spec := "fnConfirmed", unfollowed := true, recurses := true, apart := false }
def FnConfirmedSaid : Prop := fnConfirmedRow.holds Try.pinned (OpenSpec.ofChange fnConfirmedSpec)

/-- ITS FALSE NEIGHBOUR: 'it returns false'. Refute it at one input. -/
def fnConfirmedWrong : ChangeSpec := { name := "fnConfirmed", fn := fun _ => fun
  | [d] => { results := [.lit (.bool false)], args := [d] }
  | _ => none }
def FnConfirmedWrongFalsely : Prop := fnConfirmedRow.holds Try.pinned (OpenSpec.ofChange fnConfirmedWrong)

/-- 'laws.FnExactIsPicture': WHATEVER THE INPUT: true; the input reads as it did. -/
def fnExactIsPictureSpec : ChangeSpec := { name := "fnExactIsPicture", fn := fun _ => fun
  | [d] => { results := [.lit (.bool true)], args := [d] }
  | _ => none }
def fnExactIsPictureRow : OpenClaim := { program := "ytmojjdflihakkaa", sum := "4cf3f36a9701be92e7d1f0ae1aae7eaab94e92c895ece6e122af7ca8c36cead9", func := "loop.example/g00915/laws.FnExactIsPicture", spec := "fnExactIsPicture", unfollowed := true, recurses := true, apart := false }
def FnExactIsPictureSaid : Prop := fnExactIsPictureRow.holds Try.pinned (OpenSpec.ofChange fnExactIsPictureSpec)

/-- ITS FALSE NEIGHBOUR: 'it returns false'. Refute it at one input. -/
def fnExactIsPictureWrong : ChangeSpec := { name := "fnExactIsPicture", fn := fun _ => fun
  | [d] => { results := [.lit (.bool false)], args := [d] }
  | _ => none }
def FnExactIsPictureWrongFalsely : Prop := fnExactIsPictureRow.holds Try.pinned (OpenSpec.ofChange fnExactIsPictureWrong)

/-- 'laws.FnExactConfirmedIn': WHATEVER THE INPUT: true; the input reads as it did. -/
def fnExactConfirmedInSpec : ChangeSpec := { name := "fnExactConfirmedIn", fn := fun _ => fun
  | [d] => { results := [.lit (.bool true)], args := [d] }
  | _ => none }
def fnExactConfirmedInRow : OpenClaim := { program := "ytmojjdflihakkaa", sum := "4cf3f36a9701be92e7d1f0ae1aae7eaab94e92c895ece6e122af7ca8c36cead9", func := "loop.example/g00915/laws.FnExactConfirmedIn", spec := "fnExactConfirmedIn", unfollowed := true, recurses := true, apart := false }
def FnExactConfirmedInSaid : Prop := fnExactConfirmedInRow.holds Try.pinned (OpenSpec.ofChange fnExactConfirmedInSpec)

/-- ITS FALSE NEIGHBOUR: 'it returns false'. Refute it at one input. -/
def fnExactConfirmedInWrong : ChangeSpec := { name := "fnExactConfirmedIn", fn := fun _ => fun
  | [d] => { results := [.lit (.bool false)], args := [d] }
  | _ => none }
def FnExactConfirmedInWrongFalsely : Prop := fnExactConfirmedInRow.holds Try.pinned (OpenSpec.ofChange fnExactConfirmedInWrong)

/-- 'laws.FnExactPairsIn': WHATEVER THE INPUT: true; the input reads as it did. -/
def fnExactPairsInSpec : ChangeSpec := { name := "fnExactPairsIn", fn := fun _ => fun
  | [d1, d2] => { results := [.lit (.bool true)], args := [d1, d2] }
  | _ => none }
def fnExactPairsInRow : OpenClaim := { program := "ytmojjdflihakkaa", sum := "4cf3f36a9701be92e7d1f0ae1aae7eaab94e92c895ece6e122af7ca8c36cead9", func := "loop.example/g00915/laws.FnExactPairsIn", spec := "fnExactPairsIn", unfollowed := true, recurses := true, apart := false }
def FnExactPairsInSaid : Prop := fnExactPairsInRow.holds Try.pinned (OpenSpec.ofChange fnExactPairsInSpec)

/-- ITS FALSE NEIGHBOUR: 'it returns false'. Refute it at one input. -/
def fnExactPairsInWrong : ChangeSpec := { name := "fnExactPairsIn", fn := fun _ => fun
  | [d1, d2] => { results := [.lit (.bool false)], args := [d1, d2] }
  | _ => none }
def FnExactPairsInWrongFalsely : Prop := fnExactPairsInRow.holds Try.pinned (OpenSpec.ofChange fnExactPairsInWrong)

/-- 'laws.FnExactNewIn': WHATEVER THE INPUT: true; the input reads as it did. -/
def fnExactNewInSpec : ChangeSpec := { name := "fnExactNewIn", fn := fun _ => fun
  | [d1, d2] => { results := [.lit (.bool true)], args := [d1, d2] }
  | _ => none }
def fnExactNewInRow : OpenClaim := { program := "ytmojjdflihakkaa", sum := "4cf3f36a9701be92e7d1f0ae1aae7eaab94e92c895ece6e122af7ca8c36cead9", func := "loop.example/g00915/laws.FnExactNewIn", spec := "fnExactNewIn", unfollowed := true, recurses := true, apart := false }
def FnExactNewInSaid : Prop := fnExactNewInRow.holds Try.pinned (OpenSpec.ofChange fnExactNewInSpec)

/-- ITS FALSE NEIGHBOUR: 'it returns false'. Refute it at one input. -/
def fnExactNewInWrong : ChangeSpec := { name := "fnExactNewIn", fn := fun _ => fun
  | [d1, d2] => { results := [.lit (.bool false)], args := [d1, d2] }
  | _ => none }
def FnExactNewInWrongFalsely : Prop := fnExactNewInRow.holds Try.pinned (OpenSpec.ofChange fnExactNewInWrong)

/-- 'laws.FnExactRunPicture': WHATEVER THE INPUT: true; the input reads as it did. -/
def fnExactRunPictureSpec : ChangeSpec := { name := "fnExactRunPicture", fn := fun _ => fun
  | [d] => { results := [.lit (.bool true)], args := [d] }
  | _ => none }
def fnExactRunPictureRow : OpenClaim := { program := "ytmojjdflihakkaa", sum := "4cf3f36a9701be92e7d1f0ae1aae7eaab94e92c895ece6e122af7ca8c36cead9", func := "loop.example/g00915/laws.FnExactRunPicture", spec := "fnExactRunPicture", unfollowed := true, recurses := true, apart := false }
def FnExactRunPictureSaid : Prop := fnExactRunPictureRow.holds Try.pinned (OpenSpec.ofChange fnExactRunPictureSpec)

/-- ITS FALSE NEIGHBOUR: 'it returns false'. Refute it at one input. -/
def fnExactRunPictureWrong : ChangeSpec := { name := "fnExactRunPicture", fn := fun _ => fun
  | [d] => { results := [.lit (.bool false)], args := [d] }
  | _ => none }
def FnExactRunPictureWrongFalsely : Prop := fnExactRunPictureRow.holds Try.pinned (OpenSpec.ofChange fnExactRunPictureWrong)

/-- 'laws.FnExactStepPicture': WHATEVER THE INPUT: true; the input reads as it did. -/
def fnExactStepPictureSpec : ChangeSpec := { name := "fnExactStepPicture", fn := fun _ => fun
  | [d1, d2] => { results := [.lit (.bool true)], args := [d1, d2] }
  | _ => none }
def fnExactStepPictureRow : OpenClaim := { program := "ytmojjdflihakkaa", sum := "4cf3f36a9701be92e7d1f0ae1aae7eaab94e92c895ece6e122af7ca8c36cead9", func := "loop.example/g00915/laws.FnExactStepPicture", spec := "fnExactStepPicture", unfollowed := true, recurses := true, apart := false }
def FnExactStepPictureSaid : Prop := fnExactStepPictureRow.holds Try.pinned (OpenSpec.ofChange fnExactStepPictureSpec)

/-- ITS FALSE NEIGHBOUR: 'it returns false'. Refute it at one input. -/
def fnExactStepPictureWrong : ChangeSpec := { name := "fnExactStepPicture", fn := fun _ => fun
  | [d1, d2] => { results := [.lit (.bool false)], args := [d1, d2] }
  | _ => none }
def FnExactStepPictureWrongFalsely : Prop := fnExactStepPictureRow.holds Try.pinned (OpenSpec.ofChange fnExactStepPictureWrong)

/-- 'laws.FnPictures': WHATEVER THE INPUT: true; the input reads as it did. -/
def fnPicturesSpec : ChangeSpec := { name := "fnPictures", fn := fun _ => fun
  | [d] => { results := [.lit (.bool true)], args := [d] }
  | _ => none }
def fnPicturesRow : OpenClaim := { program := "ytmojjdflihakkaa", sum := "4cf3f36a9701be92e7d1f0ae1aae7eaab94e92c895ece6e122af7ca8c36cead9", func := "loop.example/g00915/laws.FnPictures", spec := "fnPictures", unfollowed := true, recurses := true, apart := false }
def FnPicturesSaid : Prop := fnPicturesRow.holds Try.pinned (OpenSpec.ofChange fnPicturesSpec)

/-- ITS FALSE NEIGHBOUR: 'it returns false'. Refute it at one input. -/
def fnPicturesWrong : ChangeSpec := { name := "fnPictures", fn := fun _ => fun
  | [d] => { results := [.lit (.bool false)], args := [d] }
  | _ => none }
def FnPicturesWrongFalsely : Prop := fnPicturesRow.holds Try.pinned (OpenSpec.ofChange fnPicturesWrong)

/- THE SECOND FORM. 'bulk': how many values and letters a reading holds, each counted each time it is reached (what is shared counts as often as it is met; a slice's spare places count too). A statement '..UptoSaid' is the law's where the arguments, and the package variables that the reading takes, are together of bulk at most 1048576: NARROWER than '..Said'. Prove '..Said' where nothing that the law and all that it calls make is longer than what came in: it says more and counts as full. Else prove '..UptoSaid'. A law counts once. -/
mutual
def uptoBulk {H : Type} : DataW H → Nat
  | .lit (.string bytes) => bytes.length + 1
  | .lit _ => 1
  | .nil => 1
  | .ptr d => uptoBulk d + 1
  | .slice elems spare => uptoBulkAll elems + uptoBulkAll spare + 1
  | .agg parts => uptoBulkAll parts + 1
  | .iface _ d => uptoBulk d + 1
  | .map entries => uptoBulkEntries entries + 1
  | .held _ => 1
def uptoBulkAll {H : Type} : List (DataW H) → Nat
  | [] => 0
  | d :: r => uptoBulk d + uptoBulkAll r
def uptoBulkEntries {H : Type} : List (Lit × DataW H) → Nat
  | [] => 0
  | x :: r => uptoBulkEntry x + uptoBulkEntries r
def uptoBulkEntry {H : Type} : Lit × DataW H → Nat
  | (.string bytes, d) => bytes.length + uptoBulk d + 1
  | (_, d) => uptoBulk d + 1
 end
def uptoSmall : (H : Type) → List (DataW H) → Bool := fun _ ds => decide (uptoBulkAll ds ≤ 1048576)
def OpenSpec.upto (s : _root_.Go.ChangeSpec) : _root_.Go.OpenSpec := { _root_.Go.OpenSpec.ofChange s with cond := some uptoSmall }

/-- 'laws.FnExactRunTrail', WHERE WHAT IT READS IS OF BULK AT MOST 1048576: true; the input reads as it did. -/
def fnExactRunTrailUptoRow : OpenClaim := { program := "ytmojjdflihakkaa", sum := "4cf3f36a9701be92e7d1f0ae1aae7eaab94e92c895ece6e122af7ca8c36cead9", func := "loop.example/g00915/laws.FnExactRunTrail", spec := "fnExactRunTrail", unfollowed := true, recurses := true, apart := false, narrowed := true }
def FnExactRunTrailUptoSaid : Prop := fnExactRunTrailUptoRow.holds Try.pinned (OpenSpec.upto fnExactRunTrailSpec)

/-- 'laws.FnTrails', WHERE WHAT IT READS IS OF BULK AT MOST 1048576: true; the input reads as it did. -/
def fnTrailsUptoRow : OpenClaim := { program := "ytmojjdflihakkaa", sum := "4cf3f36a9701be92e7d1f0ae1aae7eaab94e92c895ece6e122af7ca8c36cead9", func := "loop.example/g00915/laws.FnTrails", spec := "fnTrails", apart := false, narrowed := true }
def FnTrailsUptoSaid : Prop := fnTrailsUptoRow.holds Try.pinned (OpenSpec.upto fnTrailsSpec)

/-- 'laws.FnConfirmed', WHERE WHAT IT READS IS OF BULK AT MOST 1048576: true; the input reads as it did. -/
def fnConfirmedUptoRow : OpenClaim := { program := "ytmojjdflihakkaa", sum := "4cf3f36a9701be92e7d1f0ae1aae7eaab94e92c895ece6e122af7ca8c36cead9", func := "loop.example/g00915/laws.FnConfirmed", spec := "fnConfirmed", unfollowed := true, recurses := true, apart := false, narrowed := true }
def FnConfirmedUptoSaid : Prop := fnConfirmedUptoRow.holds Try.pinned (OpenSpec.upto fnConfirmedSpec)

/-- 'laws.FnExactIsPicture', WHERE WHAT IT READS IS OF BULK AT MOST 1048576: true; the input reads as it did. -/
def fnExactIsPictureUptoRow : OpenClaim := { program := "ytmojjdflihakkaa", sum := "4cf3f36a9701be92e7d1f0ae1aae7eaab94e92c895ece6e122af7ca8c36cead9", func := "loop.example/g00915/laws.FnExactIsPicture", spec := "fnExactIsPicture", unfollowed := true, recurses := true, apart := false, narrowed := true }
def FnExactIsPictureUptoSaid : Prop := fnExactIsPictureUptoRow.holds Try.pinned (OpenSpec.upto fnExactIsPictureSpec)

/-- 'laws.FnExactConfirmedIn', WHERE WHAT IT READS IS OF BULK AT MOST 1048576: true; the input reads as it did. -/
def fnExactConfirmedInUptoRow : OpenClaim := { program := "ytmojjdflihakkaa", sum := "4cf3f36a9701be92e7d1f0ae1aae7eaab94e92c895ece6e122af7ca8c36cead9", func := "loop.example/g00915/laws.FnExactConfirmedIn", spec := "fnExactConfirmedIn", unfollowed := true, recurses := true, apart := false, narrowed := true }
def FnExactConfirmedInUptoSaid : Prop := fnExactConfirmedInUptoRow.holds Try.pinned (OpenSpec.upto fnExactConfirmedInSpec)

/-- 'laws.FnExactPairsIn', WHERE WHAT IT READS IS OF BULK AT MOST 1048576: true; the input reads as it did. -/
def fnExactPairsInUptoRow : OpenClaim := { program := "ytmojjdflihakkaa", sum := "4cf3f36a9701be92e7d1f0ae1aae7eaab94e92c895ece6e122af7ca8c36cead9", func := "loop.example/g00915/laws.FnExactPairsIn", spec := "fnExactPairsIn", unfollowed := true, recurses := true, apart := false, narrowed := true }
def FnExactPairsInUptoSaid : Prop := fnExactPairsInUptoRow.holds Try.pinned (OpenSpec.upto fnExactPairsInSpec)

/-- 'laws.FnExactNewIn', WHERE WHAT IT READS IS OF BULK AT MOST 1048576: true; the input reads as it did. -/
def fnExactNewInUptoRow : OpenClaim := { program := "ytmojjdflihakkaa", sum := "4cf3f36a9701be92e7d1f0ae1aae7eaab94e92c895ece6e122af7ca8c36cead9", func := "loop.example/g00915/laws.FnExactNewIn", spec := "fnExactNewIn", unfollowed := true, recurses := true, apart := false, narrowed := true }
def FnExactNewInUptoSaid : Prop := fnExactNewInUptoRow.holds Try.pinned (OpenSpec.upto fnExactNewInSpec)

/-- 'laws.FnExactRunPicture', WHERE WHAT IT READS IS OF BULK AT MOST 1048576: true; the input reads as it did. -/
def fnExactRunPictureUptoRow : OpenClaim := { program := "ytmojjdflihakkaa", sum := "4cf3f36a9701be92e7d1f0ae1aae7eaab94e92c895ece6e122af7ca8c36cead9", func := "loop.example/g00915/laws.FnExactRunPicture", spec := "fnExactRunPicture", unfollowed := true, recurses := true, apart := false, narrowed := true }
def FnExactRunPictureUptoSaid : Prop := fnExactRunPictureUptoRow.holds Try.pinned (OpenSpec.upto fnExactRunPictureSpec)

/-- 'laws.FnExactStepPicture', WHERE WHAT IT READS IS OF BULK AT MOST 1048576: true; the input reads as it did. -/
def fnExactStepPictureUptoRow : OpenClaim := { program := "ytmojjdflihakkaa", sum := "4cf3f36a9701be92e7d1f0ae1aae7eaab94e92c895ece6e122af7ca8c36cead9", func := "loop.example/g00915/laws.FnExactStepPicture", spec := "fnExactStepPicture", unfollowed := true, recurses := true, apart := false, narrowed := true }
def FnExactStepPictureUptoSaid : Prop := fnExactStepPictureUptoRow.holds Try.pinned (OpenSpec.upto fnExactStepPictureSpec)

/-- 'laws.FnPictures', WHERE WHAT IT READS IS OF BULK AT MOST 1048576: true; the input reads as it did. -/
def fnPicturesUptoRow : OpenClaim := { program := "ytmojjdflihakkaa", sum := "4cf3f36a9701be92e7d1f0ae1aae7eaab94e92c895ece6e122af7ca8c36cead9", func := "loop.example/g00915/laws.FnPictures", spec := "fnPictures", unfollowed := true, recurses := true, apart := false, narrowed := true }
def FnPicturesUptoSaid : Prop := fnPicturesUptoRow.holds Try.pinned (OpenSpec.upto fnPicturesSpec)

end Rows
end Go.Proofs.Ytmojjdflihakkaa
