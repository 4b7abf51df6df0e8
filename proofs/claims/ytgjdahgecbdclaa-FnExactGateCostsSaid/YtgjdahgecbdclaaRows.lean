/-
  No cell of these rows narrows 'for every input' (looked for: loops, veiled, ifaces, maps, wideKeys, modest, calm, conditions, laid).
  DERIVED. THE GIVEN ROWS OF THIS SEAT. 12 by the template 'for every input the law returns true; each argument reads behind the call as it read before'; 0 by the template 'total and deterministic' (their statements: YtgjdahgecbdclaaTotals.lean).
  GIVEN WITH THE SEED: the statements are not yours to turn. If you find one false, say at which input.
  Laid BY PROGRAM, IN A SANDBOX (cutbox-rows.mjs): the forced cells as the released guide's own fill.sh prints them over the translation 5180598d82b1ed20… (all of the seat's roots in one cut). By AI agents, Wed Nov 11 2026. No macro, syntax, notation, axiom, sorry.
-/
import Derived.Test.YtgjdahgecbdclaaChecked
import GoSem.Claim
import GoSem.ClaimJoined
import GoSem.ClaimMapViews
import Derived.JoinedTies
import Derived.KernelRfl
namespace Go.Proofs.Ytgjdahgecbdclaa
/- THE CELL 'sum', in the pinned program and in every row, IS THE sha256 OF THE DUMP (.gsa) THAT YtgjdahgecbdclaaProg.lean LOADS. Nothing in Lean hashes anything: it is a label: what it is worth is what the hold of that sum in a sandbox is worth. -/
noncomputable def Try.pinned : Pinned := { name := "ytgjdahgecbdclaa", sum := "5180598d82b1ed206c1ea9bce2eff1cd7ecaa19467c6f1b8cc3a343e7748bb96", checked := Try.checked }
namespace Rows
def none {H : Type} : Left H := { results := [], args := [] }

/-- 'laws.FnExactIsTrail': WHATEVER THE INPUT: true; the input reads as it did. -/
def fnExactIsTrailSpec : ChangeSpec := { name := "fnExactIsTrail", fn := fun _ => fun
  | [d] => { results := [.lit (.bool true)], args := [d] }
  | _ => none }
def fnExactIsTrailRow : OpenClaim := { program := "ytgjdahgecbdclaa", sum := "5180598d82b1ed206c1ea9bce2eff1cd7ecaa19467c6f1b8cc3a343e7748bb96", func := "loop.example/g00915/laws.FnExactIsTrail", spec := "fnExactIsTrail", apart := false }
def FnExactIsTrailSaid : Prop := fnExactIsTrailRow.holds Try.pinned (OpenSpec.ofChange fnExactIsTrailSpec)

/-- ITS FALSE NEIGHBOUR: 'it returns false'. Refute it at one input. -/
def fnExactIsTrailWrong : ChangeSpec := { name := "fnExactIsTrail", fn := fun _ => fun
  | [d] => { results := [.lit (.bool false)], args := [d] }
  | _ => none }
def FnExactIsTrailWrongFalsely : Prop := fnExactIsTrailRow.holds Try.pinned (OpenSpec.ofChange fnExactIsTrailWrong)

/-- 'laws.FnExactFirstTrail': WHATEVER THE INPUT: true; the input reads as it did. -/
def fnExactFirstTrailSpec : ChangeSpec := { name := "fnExactFirstTrail", fn := fun _ => fun
  | [d] => { results := [.lit (.bool true)], args := [d] }
  | _ => none }
def fnExactFirstTrailRow : OpenClaim := { program := "ytgjdahgecbdclaa", sum := "5180598d82b1ed206c1ea9bce2eff1cd7ecaa19467c6f1b8cc3a343e7748bb96", func := "loop.example/g00915/laws.FnExactFirstTrail", spec := "fnExactFirstTrail", apart := false }
def FnExactFirstTrailSaid : Prop := fnExactFirstTrailRow.holds Try.pinned (OpenSpec.ofChange fnExactFirstTrailSpec)

/-- ITS FALSE NEIGHBOUR: 'it returns false'. Refute it at one input. -/
def fnExactFirstTrailWrong : ChangeSpec := { name := "fnExactFirstTrail", fn := fun _ => fun
  | [d] => { results := [.lit (.bool false)], args := [d] }
  | _ => none }
def FnExactFirstTrailWrongFalsely : Prop := fnExactFirstTrailRow.holds Try.pinned (OpenSpec.ofChange fnExactFirstTrailWrong)

/-- 'laws.FnExactHitsMissing': WHATEVER THE INPUT: true; the input reads as it did. -/
def fnExactHitsMissingSpec : ChangeSpec := { name := "fnExactHitsMissing", fn := fun _ => fun
  | [d] => { results := [.lit (.bool true)], args := [d] }
  | _ => none }
def fnExactHitsMissingRow : OpenClaim := { program := "ytgjdahgecbdclaa", sum := "5180598d82b1ed206c1ea9bce2eff1cd7ecaa19467c6f1b8cc3a343e7748bb96", func := "loop.example/g00915/laws.FnExactHitsMissing", spec := "fnExactHitsMissing", apart := false }
def FnExactHitsMissingSaid : Prop := fnExactHitsMissingRow.holds Try.pinned (OpenSpec.ofChange fnExactHitsMissingSpec)

/-- ITS FALSE NEIGHBOUR: 'it returns false'. Refute it at one input. -/
def fnExactHitsMissingWrong : ChangeSpec := { name := "fnExactHitsMissing", fn := fun _ => fun
  | [d] => { results := [.lit (.bool false)], args := [d] }
  | _ => none }
def FnExactHitsMissingWrongFalsely : Prop := fnExactHitsMissingRow.holds Try.pinned (OpenSpec.ofChange fnExactHitsMissingWrong)

/-- 'laws.FnExactNearestIn': WHATEVER THE INPUT: true; the input reads as it did. -/
def fnExactNearestInSpec : ChangeSpec := { name := "fnExactNearestIn", fn := fun _ => fun
  | [d1, d2] => { results := [.lit (.bool true)], args := [d1, d2] }
  | _ => none }
def fnExactNearestInRow : OpenClaim := { program := "ytgjdahgecbdclaa", sum := "5180598d82b1ed206c1ea9bce2eff1cd7ecaa19467c6f1b8cc3a343e7748bb96", func := "loop.example/g00915/laws.FnExactNearestIn", spec := "fnExactNearestIn", unfollowed := true, recurses := true, apart := false }
def FnExactNearestInSaid : Prop := fnExactNearestInRow.holds Try.pinned (OpenSpec.ofChange fnExactNearestInSpec)

/-- ITS FALSE NEIGHBOUR: 'it returns false'. Refute it at one input. -/
def fnExactNearestInWrong : ChangeSpec := { name := "fnExactNearestIn", fn := fun _ => fun
  | [d1, d2] => { results := [.lit (.bool false)], args := [d1, d2] }
  | _ => none }
def FnExactNearestInWrongFalsely : Prop := fnExactNearestInRow.holds Try.pinned (OpenSpec.ofChange fnExactNearestInWrong)

/-- 'laws.FnExactContactsIn': WHATEVER THE INPUT: true; the input reads as it did. -/
def fnExactContactsInSpec : ChangeSpec := { name := "fnExactContactsIn", fn := fun _ => fun
  | [d1, d2] => { results := [.lit (.bool true)], args := [d1, d2] }
  | _ => none }
def fnExactContactsInRow : OpenClaim := { program := "ytgjdahgecbdclaa", sum := "5180598d82b1ed206c1ea9bce2eff1cd7ecaa19467c6f1b8cc3a343e7748bb96", func := "loop.example/g00915/laws.FnExactContactsIn", spec := "fnExactContactsIn", unfollowed := true, recurses := true, apart := false }
def FnExactContactsInSaid : Prop := fnExactContactsInRow.holds Try.pinned (OpenSpec.ofChange fnExactContactsInSpec)

/-- ITS FALSE NEIGHBOUR: 'it returns false'. Refute it at one input. -/
def fnExactContactsInWrong : ChangeSpec := { name := "fnExactContactsIn", fn := fun _ => fun
  | [d1, d2] => { results := [.lit (.bool false)], args := [d1, d2] }
  | _ => none }
def FnExactContactsInWrongFalsely : Prop := fnExactContactsInRow.holds Try.pinned (OpenSpec.ofChange fnExactContactsInWrong)

/-- 'laws.FnExactGateCosts': WHATEVER THE INPUT: true; the input reads as it did. -/
def fnExactGateCostsSpec : ChangeSpec := { name := "fnExactGateCosts", fn := fun _ => fun
  | [d1, d2] => { results := [.lit (.bool true)], args := [d1, d2] }
  | _ => none }
def fnExactGateCostsRow : OpenClaim := { program := "ytgjdahgecbdclaa", sum := "5180598d82b1ed206c1ea9bce2eff1cd7ecaa19467c6f1b8cc3a343e7748bb96", func := "loop.example/g00915/laws.FnExactGateCosts", spec := "fnExactGateCosts", unfollowed := true, recurses := true, apart := false }
def FnExactGateCostsSaid : Prop := fnExactGateCostsRow.holds Try.pinned (OpenSpec.ofChange fnExactGateCostsSpec)

/-- ITS FALSE NEIGHBOUR: 'it returns false'. Refute it at one input. -/
def fnExactGateCostsWrong : ChangeSpec := { name := "fnExactGateCosts", fn := fun _ => fun
  | [d1, d2] => { results := [.lit (.bool false)], args := [d1, d2] }
  | _ => none }
def FnExactGateCostsWrongFalsely : Prop := fnExactGateCostsRow.holds Try.pinned (OpenSpec.ofChange fnExactGateCostsWrong)

/-- 'laws.FnMotions': WHATEVER THE INPUT: true; the input reads as it did. -/
def fnMotionsSpec : ChangeSpec := { name := "fnMotions", fn := fun _ => fun
  | [d] => { results := [.lit (.bool true)], args := [d] }
  | _ => none }
def fnMotionsRow : OpenClaim := { program := "ytgjdahgecbdclaa", sum := "5180598d82b1ed206c1ea9bce2eff1cd7ecaa19467c6f1b8cc3a343e7748bb96", func := "loop.example/g00915/laws.FnMotions", spec := "fnMotions", unfollowed := true, recurses := true, apart := false }
def FnMotionsSaid : Prop := fnMotionsRow.holds Try.pinned (OpenSpec.ofChange fnMotionsSpec)

/-- ITS FALSE NEIGHBOUR: 'it returns false'. Refute it at one input. -/
def fnMotionsWrong : ChangeSpec := { name := "fnMotions", fn := fun _ => fun
  | [d] => { results := [.lit (.bool false)], args := [d] }
  | _ => none }
def FnMotionsWrongFalsely : Prop := fnMotionsRow.holds Try.pinned (OpenSpec.ofChange fnMotionsWrong)

/-- 'laws.FnGates': WHATEVER THE INPUT: true; the input reads as it did. -/
def fnGatesSpec : ChangeSpec := { name := "fnGates", fn := fun _ => fun
  | [d] => { results := [.lit (.bool true)], args := [d] }
  | _ => none }
def fnGatesRow : OpenClaim := { program := "ytgjdahgecbdclaa", sum := "5180598d82b1ed206c1ea9bce2eff1cd7ecaa19467c6f1b8cc3a343e7748bb96", func := "loop.example/g00915/laws.FnGates", spec := "fnGates", unfollowed := true, recurses := true, apart := false }
def FnGatesSaid : Prop := fnGatesRow.holds Try.pinned (OpenSpec.ofChange fnGatesSpec)

/-- ITS FALSE NEIGHBOUR: 'it returns false'. Refute it at one input. -/
def fnGatesWrong : ChangeSpec := { name := "fnGates", fn := fun _ => fun
  | [d] => { results := [.lit (.bool false)], args := [d] }
  | _ => none }
def FnGatesWrongFalsely : Prop := fnGatesRow.holds Try.pinned (OpenSpec.ofChange fnGatesWrong)

/-- 'laws.FnGateTables': WHATEVER THE INPUT: true; the input reads as it did. -/
def fnGateTablesSpec : ChangeSpec := { name := "fnGateTables", fn := fun _ => fun
  | [d] => { results := [.lit (.bool true)], args := [d] }
  | _ => none }
def fnGateTablesRow : OpenClaim := { program := "ytgjdahgecbdclaa", sum := "5180598d82b1ed206c1ea9bce2eff1cd7ecaa19467c6f1b8cc3a343e7748bb96", func := "loop.example/g00915/laws.FnGateTables", spec := "fnGateTables", unfollowed := true, recurses := true, apart := false }
def FnGateTablesSaid : Prop := fnGateTablesRow.holds Try.pinned (OpenSpec.ofChange fnGateTablesSpec)

/-- ITS FALSE NEIGHBOUR: 'it returns false'. Refute it at one input. -/
def fnGateTablesWrong : ChangeSpec := { name := "fnGateTables", fn := fun _ => fun
  | [d] => { results := [.lit (.bool false)], args := [d] }
  | _ => none }
def FnGateTablesWrongFalsely : Prop := fnGateTablesRow.holds Try.pinned (OpenSpec.ofChange fnGateTablesWrong)

/-- 'laws.FnExactCoastsFor': WHATEVER THE INPUT: true; the input reads as it did. -/
def fnExactCoastsForSpec : ChangeSpec := { name := "fnExactCoastsFor", fn := fun _ => fun
  | [d] => { results := [.lit (.bool true)], args := [d] }
  | _ => none }
def fnExactCoastsForRow : OpenClaim := { program := "ytgjdahgecbdclaa", sum := "5180598d82b1ed206c1ea9bce2eff1cd7ecaa19467c6f1b8cc3a343e7748bb96", func := "loop.example/g00915/laws.FnExactCoastsFor", spec := "fnExactCoastsFor", apart := false }
def FnExactCoastsForSaid : Prop := fnExactCoastsForRow.holds Try.pinned (OpenSpec.ofChange fnExactCoastsForSpec)

/-- ITS FALSE NEIGHBOUR: 'it returns false'. Refute it at one input. -/
def fnExactCoastsForWrong : ChangeSpec := { name := "fnExactCoastsFor", fn := fun _ => fun
  | [d] => { results := [.lit (.bool false)], args := [d] }
  | _ => none }
def FnExactCoastsForWrongFalsely : Prop := fnExactCoastsForRow.holds Try.pinned (OpenSpec.ofChange fnExactCoastsForWrong)

/-- 'laws.FnExactMissTrail': WHATEVER THE INPUT: true; the input reads as it did. -/
def fnExactMissTrailSpec : ChangeSpec := { name := "fnExactMissTrail", fn := fun _ => fun
  | [d] => { results := [.lit (.bool true)], args := [d] }
  | _ => none }
def fnExactMissTrailRow : OpenClaim := { program := "ytgjdahgecbdclaa", sum := "5180598d82b1ed206c1ea9bce2eff1cd7ecaa19467c6f1b8cc3a343e7748bb96", func := "loop.example/g00915/laws.FnExactMissTrail", spec := "fnExactMissTrail", apart := false }
def FnExactMissTrailSaid : Prop := fnExactMissTrailRow.holds Try.pinned (OpenSpec.ofChange fnExactMissTrailSpec)

/-- ITS FALSE NEIGHBOUR: 'it returns false'. Refute it at one input. -/
def fnExactMissTrailWrong : ChangeSpec := { name := "fnExactMissTrail", fn := fun _ => fun
  | [d] => { results := [.lit (.bool false)], args := [d] }
  | _ => none }
def FnExactMissTrailWrongFalsely : Prop := fnExactMissTrailRow.holds Try.pinned (OpenSpec.ofChange fnExactMissTrailWrong)

/-- 'laws.FnExactHitTrail': WHATEVER THE INPUT: true; the input reads as it did. -/
def fnExactHitTrailSpec : ChangeSpec := { name := "fnExactHitTrail", fn := fun _ => fun
  | [d1, d2] => { results := [.lit (.bool true)], args := [d1, d2] }
  | _ => none }
def fnExactHitTrailRow : OpenClaim := { program := "ytgjdahgecbdclaa", sum := "5180598d82b1ed206c1ea9bce2eff1cd7ecaa19467c6f1b8cc3a343e7748bb96", func := "loop.example/g00915/laws.FnExactHitTrail", spec := "fnExactHitTrail", apart := false }
def FnExactHitTrailSaid : Prop := fnExactHitTrailRow.holds Try.pinned (OpenSpec.ofChange fnExactHitTrailSpec)

/-- ITS FALSE NEIGHBOUR: 'it returns false'. Refute it at one input. -/
def fnExactHitTrailWrong : ChangeSpec := { name := "fnExactHitTrail", fn := fun _ => fun
  | [d1, d2] => { results := [.lit (.bool false)], args := [d1, d2] }
  | _ => none }
def FnExactHitTrailWrongFalsely : Prop := fnExactHitTrailRow.holds Try.pinned (OpenSpec.ofChange fnExactHitTrailWrong)

/- THE SECOND FORM. 'bulk': how many values and letters a reading holds, each counted each time it is reached (what is shared counts as often as it is met; a slice's spare places count too). A statement '..UptoSaid' is the law's where the arguments, and the package variables that the reading takes, are together of bulk at most 1048576: NARROWER than '..Said'. Prove '..Said' where nothing that the law and all that it calls make is longer than what came in: it says more and counts as full. Else prove '..UptoSaid'. A law counts once. -/
mutual
def uptoBulk {H : Type} : DataW H → Nat
  | .lit (.string bytes) => bytes.length + 1
  | .lit _ => 1
  | .nil => 1
  | .ptr d => uptoBulk d + 1
  | .slice elems spare => uptoBulkAll elems + uptoBulkAll spare + 1
  | .agg parts => uptoBulkAll parts + 1
  | .iface _ d => uptoBulk d + 1
  | .map entries => uptoBulkEntries entries + 1
  | .held _ => 1
def uptoBulkAll {H : Type} : List (DataW H) → Nat
  | [] => 0
  | d :: r => uptoBulk d + uptoBulkAll r
def uptoBulkEntries {H : Type} : List (Lit × DataW H) → Nat
  | [] => 0
  | x :: r => uptoBulkEntry x + uptoBulkEntries r
def uptoBulkEntry {H : Type} : Lit × DataW H → Nat
  | (.string bytes, d) => bytes.length + uptoBulk d + 1
  | (_, d) => uptoBulk d + 1
 end
def uptoSmall : (H : Type) → List (DataW H) → Bool := fun _ ds => decide (uptoBulkAll ds ≤ 1048576)
def OpenSpec.upto (s : _root_.Go.ChangeSpec) : _root_.Go.OpenSpec := { _root_.Go.OpenSpec.ofChange s with cond := some uptoSmall }

/-- 'laws.FnExactIsTrail', WHERE WHAT IT READS IS OF BULK AT MOST 1048576: true; the input reads as it did. -/
def fnExactIsTrailUptoRow : OpenClaim := { program := "ytgjdahgecbdclaa", sum := "5180598d82b1ed206c1ea9bce2eff1cd7ecaa19467c6f1b8cc3a343e7748bb96", func := "loop.example/g00915/laws.FnExactIsTrail", spec := "fnExactIsTrail", apart := false, narrowed := true }
def FnExactIsTrailUptoSaid : Prop := fnExactIsTrailUptoRow.holds Try.pinned (OpenSpec.upto fnExactIsTrailSpec)

/-- 'laws.FnExactFirstTrail', WHERE WHAT IT READS IS OF BULK AT MOST 1048576: true; the input reads as it did. -/
def fnExactFirstTrailUptoRow : OpenClaim := { program := "ytgjdahgecbdclaa", sum := "5180598d82b1ed206c1ea9bce2eff1cd7ecaa19467c6f1b8cc3a343e7748bb96", func := "loop.example/g00915/laws.FnExactFirstTrail", spec := "fnExactFirstTrail", apart := false, narrowed := true }
def FnExactFirstTrailUptoSaid : Prop := fnExactFirstTrailUptoRow.holds Try.pinned (OpenSpec.upto fnExactFirstTrailSpec)

/-- 'laws.FnExactHitsMissing', WHERE WHAT IT READS IS OF BULK AT MOST 1048576: true; the input reads as it did. -/
def fnExactHitsMissingUptoRow : OpenClaim := { program := "ytgjdahgecbdclaa", sum := "5180598d82b1ed206c1ea9bce2eff1cd7ecaa19467c6f1b8cc3a343e7748bb96", func := "loop.example/g00915/laws.FnExactHitsMissing", spec := "fnExactHitsMissing", apart := false, narrowed := true }
def FnExactHitsMissingUptoSaid : Prop := fnExactHitsMissingUptoRow.holds Try.pinned (OpenSpec.upto fnExactHitsMissingSpec)

/-- 'laws.FnExactNearestIn', WHERE WHAT IT READS IS OF BULK AT MOST 1048576: true; the input reads as it did. -/
def fnExactNearestInUptoRow : OpenClaim := { program := "ytgjdahgecbdclaa", sum := "5180598d82b1ed206c1ea9bce2eff1cd7ecaa19467c6f1b8cc3a343e7748bb96", func := "loop.example/g00915/laws.FnExactNearestIn", spec := "fnExactNearestIn", unfollowed := true, recurses := true, apart := false, narrowed := true }
def FnExactNearestInUptoSaid : Prop := fnExactNearestInUptoRow.holds Try.pinned (OpenSpec.upto fnExactNearestInSpec)

/-- 'laws.FnExactContactsIn', WHERE WHAT IT READS IS OF BULK AT MOST 1048576: true; the input reads as it did. -/
def fnExactContactsInUptoRow : OpenClaim := { program := "ytgjdahgecbdclaa", sum := "5180598d82b1ed206c1ea9bce2eff1cd7ecaa19467c6f1b8cc3a343e7748bb96", func := "loop.example/g00915/laws.FnExactContactsIn", spec := "fnExactContactsIn", unfollowed := true, recurses := true, apart := false, narrowed := true }
def FnExactContactsInUptoSaid : Prop := fnExactContactsInUptoRow.holds Try.pinned (OpenSpec.upto fnExactContactsInSpec)

/-- 'laws.FnExactGateCosts', WHERE WHAT IT READS IS OF BULK AT MOST 1048576: true; the input reads as it did. -/
def fnExactGateCostsUptoRow : OpenClaim := { program := "ytgjdahgecbdclaa", sum := "5180598d82b1ed206c1ea9bce2eff1cd7ecaa19467c6f1b8cc3a343e7748bb96", func := "loop.example/g00915/laws.FnExactGateCosts", spec := "fnExactGateCosts", unfollowed := true, recurses := true, apart := false, narrowed := true }
def FnExactGateCostsUptoSaid : Prop := fnExactGateCostsUptoRow.holds Try.pinned (OpenSpec.upto fnExactGateCostsSpec)

/-- 'laws.FnMotions', WHERE WHAT IT READS IS OF BULK AT MOST 1048576: true; the input reads as it did. -/
def fnMotionsUptoRow : OpenClaim := { program := "ytgjdahgecbdclaa", sum := "5180598d82b1ed206c1ea9bce2eff1cd7ecaa19467c6f1b8cc3a343e7748bb96", func := "loop.example/g00915/laws.FnMotions", spec := "fnMotions", unfollowed := true, recurses := true, apart := false, narrowed := true }
def FnMotionsUptoSaid : Prop := fnMotionsUptoRow.holds Try.pinned (OpenSpec.upto fnMotionsSpec)

/-- 'laws.FnGates', WHERE WHAT IT READS IS OF BULK AT MOST 1048576: true; the input reads as it did. -/
def fnGatesUptoRow : OpenClaim := { program := "ytgjdahgecbdclaa", sum := "5180598d82b1ed206c1ea9bce2eff1cd7ecaa19467c6f1b8cc3a343e7748bb96", func := "loop.example/g00915/laws.FnGates", spec := "fnGates", unfollowed := true, recurses := true, apart := false, narrowed := true }
def FnGatesUptoSaid : Prop := fnGatesUptoRow.holds Try.pinned (OpenSpec.upto fnGatesSpec)

/-- 'laws.FnGateTables', WHERE WHAT IT READS IS OF BULK AT MOST 1048576: true; the input reads as it did. -/
def fnGateTablesUptoRow : OpenClaim := { program := "ytgjdahgecbdclaa", sum := "5180598d82b1ed206c1ea9bce2eff1cd7ecaa19467c6f1b8cc3a343e7748bb96", func := "loop.example/g00915/laws.FnGateTables", spec := "fnGateTables", unfollowed := true, recurses := true, apart := false, narrowed := true }
def FnGateTablesUptoSaid : Prop := fnGateTablesUptoRow.holds Try.pinned (OpenSpec.upto fnGateTablesSpec)

/-- 'laws.FnExactCoastsFor', WHERE WHAT IT READS IS OF BULK AT MOST 1048576: true; the input reads as it did. -/
def fnExactCoastsForUptoRow : OpenClaim := { program := "ytgjdahgecbdclaa", sum := "5180598d82b1ed206c1ea9bce2eff1cd7ecaa19467c6f1b8cc3a343e7748bb96", func := "loop.example/g00915/laws.FnExactCoastsFor", spec := "fnExactCoastsFor", apart := false, narrowed := true }
def FnExactCoastsForUptoSaid : Prop := fnExactCoastsForUptoRow.holds Try.pinned (OpenSpec.upto fnExactCoastsForSpec)

/-- 'laws.FnExactMissTrail', WHERE WHAT IT READS IS OF BULK AT MOST 1048576: true; the input reads as it did. -/
def fnExactMissTrailUptoRow : OpenClaim := { program := "ytgjdahgecbdclaa", sum := "5180598d82b1ed206c1ea9bce2eff1cd7ecaa19467c6f1b8cc3a343e7748bb96", func := "loop.example/g00915/laws.FnExactMissTrail", spec := "fnExactMissTrail", apart := false, narrowed := true }
def FnExactMissTrailUptoSaid : Prop := fnExactMissTrailUptoRow.holds Try.pinned (OpenSpec.upto fnExactMissTrailSpec)

/-- 'laws.FnExactHitTrail', WHERE WHAT IT READS IS OF BULK AT MOST 1048576: true; the input reads as it did. -/
def fnExactHitTrailUptoRow : OpenClaim := { program := "ytgjdahgecbdclaa", sum := "5180598d82b1ed206c1ea9bce2eff1cd7ecaa19467c6f1b8cc3a343e7748bb96", func := "loop.example/g00915/laws.FnExactHitTrail", spec := "fnExactHitTrail", apart := false, narrowed := true }
def FnExactHitTrailUptoSaid : Prop := fnExactHitTrailUptoRow.holds Try.pinned (OpenSpec.upto fnExactHitTrailSpec)

end Rows
end Go.Proofs.Ytgjdahgecbdclaa
