/-
  No cell of these rows narrows 'for every input' (looked for: loops, veiled, ifaces, maps, wideKeys, modest, calm, conditions, laid).
  DERIVED. THE GIVEN ROWS OF THIS SEAT. 9 by the template 'for every input the law returns true; each argument reads behind the call as it read before'; 0 by the template 'total and deterministic' (their statements: YthnnnhjhgjbmcaaTotals.lean).
  GIVEN WITH THE SEED: the statements are not yours to turn. If you find one false, say at which input.
  Laid BY PROGRAM, IN A SANDBOX (cutbox-rows.mjs): the forced cells as the released guide's own fill.sh prints them over the translation acc6bbff22beac1d… (all of the seat's roots in one cut). By AI agents, Wed Nov 11 2026. No macro, syntax, notation, axiom, sorry.
-/
import Derived.Test.YthnnnhjhgjbmcaaChecked
import GoSem.Claim
import GoSem.ClaimJoined
import GoSem.ClaimMapViews
import Derived.JoinedTies
import Derived.KernelRfl
namespace Go.Proofs.Ythnnnhjhgjbmcaa
/- THE CELL 'sum', in the pinned program and in every row, IS THE sha256 OF THE DUMP (.gsa) THAT YthnnnhjhgjbmcaaProg.lean LOADS. Nothing in Lean hashes anything: it is a label: what it is worth is what the hold of that sum in a sandbox is worth. -/
noncomputable def Try.pinned : Pinned := { name := "ythnnnhjhgjbmcaa", sum := "acc6bbff22beac1d42518adb70f55428daf02d5e8e1699103829af8e02cd8670", checked := Try.checked }
namespace Rows
def none {H : Type} : Left H := { results := [], args := [] }

/-- 'laws.FnExactIsMosaic': WHATEVER THE INPUT: true; the input reads as it did. -/
def fnExactIsMosaicSpec : ChangeSpec := { name := "fnExactIsMosaic", fn := fun _ => fun
  | [d] => { results := [.lit (.bool true)], args := [d] }
  | _ => none }
def fnExactIsMosaicRow : OpenClaim := { program := "ythnnnhjhgjbmcaa", sum := "acc6bbff22beac1d42518adb70f55428daf02d5e8e1699103829af8e02cd8670", func := "loop.example/g00915/laws.FnExactIsMosaic", spec := "fnExactIsMosaic", apart := false }
def FnExactIsMosaicSaid : Prop := fnExactIsMosaicRow.holds Try.pinned (OpenSpec.ofChange fnExactIsMosaicSpec)

/-- ITS FALSE NEIGHBOUR: 'it returns false'. Refute it at one input. -/
def fnExactIsMosaicWrong : ChangeSpec := { name := "fnExactIsMosaic", fn := fun _ => fun
  | [d] => { results := [.lit (.bool false)], args := [d] }
  | _ => none }
def FnExactIsMosaicWrongFalsely : Prop := fnExactIsMosaicRow.holds Try.pinned (OpenSpec.ofChange fnExactIsMosaicWrong)

/-- 'laws.FnExactCountKnown': WHATEVER THE INPUT: true; the input reads as it did. -/
def fnExactCountKnownSpec : ChangeSpec := { name := "fnExactCountKnown", fn := fun _ => fun
  | [d] => { results := [.lit (.bool true)], args := [d] }
  | _ => none }
def fnExactCountKnownRow : OpenClaim := { program := "ythnnnhjhgjbmcaa", sum := "acc6bbff22beac1d42518adb70f55428daf02d5e8e1699103829af8e02cd8670", func := "loop.example/g00915/laws.FnExactCountKnown", spec := "fnExactCountKnown", apart := false }
def FnExactCountKnownSaid : Prop := fnExactCountKnownRow.holds Try.pinned (OpenSpec.ofChange fnExactCountKnownSpec)

/-- ITS FALSE NEIGHBOUR: 'it returns false'. Refute it at one input. -/
def fnExactCountKnownWrong : ChangeSpec := { name := "fnExactCountKnown", fn := fun _ => fun
  | [d] => { results := [.lit (.bool false)], args := [d] }
  | _ => none }
def FnExactCountKnownWrongFalsely : Prop := fnExactCountKnownRow.holds Try.pinned (OpenSpec.ofChange fnExactCountKnownWrong)

/-- 'laws.FnExactNewMosaic': WHATEVER THE INPUT: true; the input reads as it did. -/
def fnExactNewMosaicSpec : ChangeSpec := { name := "fnExactNewMosaic", fn := fun _ => fun
  | [d1, d2] => { results := [.lit (.bool true)], args := [d1, d2] }
  | _ => none }
def fnExactNewMosaicRow : OpenClaim := { program := "ythnnnhjhgjbmcaa", sum := "acc6bbff22beac1d42518adb70f55428daf02d5e8e1699103829af8e02cd8670", func := "loop.example/g00915/laws.FnExactNewMosaic", spec := "fnExactNewMosaic", apart := false }
def FnExactNewMosaicSaid : Prop := fnExactNewMosaicRow.holds Try.pinned (OpenSpec.ofChange fnExactNewMosaicSpec)

/-- ITS FALSE NEIGHBOUR: 'it returns false'. Refute it at one input. -/
def fnExactNewMosaicWrong : ChangeSpec := { name := "fnExactNewMosaic", fn := fun _ => fun
  | [d1, d2] => { results := [.lit (.bool false)], args := [d1, d2] }
  | _ => none }
def FnExactNewMosaicWrongFalsely : Prop := fnExactNewMosaicRow.holds Try.pinned (OpenSpec.ofChange fnExactNewMosaicWrong)

/-- 'laws.FnExactShrinkMosaic': WHATEVER THE INPUT: true; the input reads as it did. -/
def fnExactShrinkMosaicSpec : ChangeSpec := { name := "fnExactShrinkMosaic", fn := fun _ => fun
  | [d1, d2] => { results := [.lit (.bool true)], args := [d1, d2] }
  | _ => none }
def fnExactShrinkMosaicRow : OpenClaim := { program := "ythnnnhjhgjbmcaa", sum := "acc6bbff22beac1d42518adb70f55428daf02d5e8e1699103829af8e02cd8670", func := "loop.example/g00915/laws.FnExactShrinkMosaic", spec := "fnExactShrinkMosaic", apart := false }
def FnExactShrinkMosaicSaid : Prop := fnExactShrinkMosaicRow.holds Try.pinned (OpenSpec.ofChange fnExactShrinkMosaicSpec)

/-- ITS FALSE NEIGHBOUR: 'it returns false'. Refute it at one input. -/
def fnExactShrinkMosaicWrong : ChangeSpec := { name := "fnExactShrinkMosaic", fn := fun _ => fun
  | [d1, d2] => { results := [.lit (.bool false)], args := [d1, d2] }
  | _ => none }
def FnExactShrinkMosaicWrongFalsely : Prop := fnExactShrinkMosaicRow.holds Try.pinned (OpenSpec.ofChange fnExactShrinkMosaicWrong)

/-- 'laws.FnShrunk': WHATEVER THE INPUT: true; the input reads as it did. -/
def fnShrunkSpec : ChangeSpec := { name := "fnShrunk", fn := fun _ => fun
  | [d] => { results := [.lit (.bool true)], args := [d] }
  | _ => none }
def fnShrunkRow : OpenClaim := { program := "ythnnnhjhgjbmcaa", sum := "acc6bbff22beac1d42518adb70f55428daf02d5e8e1699103829af8e02cd8670", func := "loop.example/g00915/laws.FnShrunk", spec := "fnShrunk", apart := false }
def FnShrunkSaid : Prop := fnShrunkRow.holds Try.pinned (OpenSpec.ofChange fnShrunkSpec)

/-- ITS FALSE NEIGHBOUR: 'it returns false'. Refute it at one input. -/
def fnShrunkWrong : ChangeSpec := { name := "fnShrunk", fn := fun _ => fun
  | [d] => { results := [.lit (.bool false)], args := [d] }
  | _ => none }
def FnShrunkWrongFalsely : Prop := fnShrunkRow.holds Try.pinned (OpenSpec.ofChange fnShrunkWrong)

/-- 'laws.FnExactLevelSpan': WHATEVER THE INPUT: true; the input reads as it did. -/
def fnExactLevelSpanSpec : ChangeSpec := { name := "fnExactLevelSpan", fn := fun _ => fun
  | [d] => { results := [.lit (.bool true)], args := [d] }
  | _ => none }
def fnExactLevelSpanRow : OpenClaim := { program := "ythnnnhjhgjbmcaa", sum := "acc6bbff22beac1d42518adb70f55428daf02d5e8e1699103829af8e02cd8670", func := "loop.example/g00915/laws.FnExactLevelSpan", spec := "fnExactLevelSpan", apart := false }
def FnExactLevelSpanSaid : Prop := fnExactLevelSpanRow.holds Try.pinned (OpenSpec.ofChange fnExactLevelSpanSpec)

/-- ITS FALSE NEIGHBOUR: 'it returns false'. Refute it at one input. -/
def fnExactLevelSpanWrong : ChangeSpec := { name := "fnExactLevelSpan", fn := fun _ => fun
  | [d] => { results := [.lit (.bool false)], args := [d] }
  | _ => none }
def FnExactLevelSpanWrongFalsely : Prop := fnExactLevelSpanRow.holds Try.pinned (OpenSpec.ofChange fnExactLevelSpanWrong)

/-- 'laws.FnExactHighWaters': WHATEVER THE INPUT: true; the input reads as it did. -/
def fnExactHighWatersSpec : ChangeSpec := { name := "fnExactHighWaters", fn := fun _ => fun
  | [d] => { results := [.lit (.bool true)], args := [d] }
  | _ => none }
def fnExactHighWatersRow : OpenClaim := { program := "ythnnnhjhgjbmcaa", sum := "acc6bbff22beac1d42518adb70f55428daf02d5e8e1699103829af8e02cd8670", func := "loop.example/g00915/laws.FnExactHighWaters", spec := "fnExactHighWaters", apart := false }
def FnExactHighWatersSaid : Prop := fnExactHighWatersRow.holds Try.pinned (OpenSpec.ofChange fnExactHighWatersSpec)

/-- ITS FALSE NEIGHBOUR: 'it returns false'. Refute it at one input. -/
def fnExactHighWatersWrong : ChangeSpec := { name := "fnExactHighWaters", fn := fun _ => fun
  | [d] => { results := [.lit (.bool false)], args := [d] }
  | _ => none }
def FnExactHighWatersWrongFalsely : Prop := fnExactHighWatersRow.holds Try.pinned (OpenSpec.ofChange fnExactHighWatersWrong)

/-- 'laws.FnExactLayerOf': WHATEVER THE INPUT: true; the input reads as it did. -/
def fnExactLayerOfSpec : ChangeSpec := { name := "fnExactLayerOf", fn := fun _ => fun
  | [d1, d2] => { results := [.lit (.bool true)], args := [d1, d2] }
  | _ => none }
def fnExactLayerOfRow : OpenClaim := { program := "ythnnnhjhgjbmcaa", sum := "acc6bbff22beac1d42518adb70f55428daf02d5e8e1699103829af8e02cd8670", func := "loop.example/g00915/laws.FnExactLayerOf", spec := "fnExactLayerOf", unfollowed := true, recurses := true, apart := false }
def FnExactLayerOfSaid : Prop := fnExactLayerOfRow.holds Try.pinned (OpenSpec.ofChange fnExactLayerOfSpec)

/-- ITS FALSE NEIGHBOUR: 'it returns false'. Refute it at one input. -/
def fnExactLayerOfWrong : ChangeSpec := { name := "fnExactLayerOf", fn := fun _ => fun
  | [d1, d2] => { results := [.lit (.bool false)], args := [d1, d2] }
  | _ => none }
def FnExactLayerOfWrongFalsely : Prop := fnExactLayerOfRow.holds Try.pinned (OpenSpec.ofChange fnExactLayerOfWrong)

/-- 'laws.FnExactIsGauge': WHATEVER THE INPUT: true; the input reads as it did. -/
def fnExactIsGaugeSpec : ChangeSpec := { name := "fnExactIsGauge", fn := fun _ => fun
  | [d] => { results := [.lit (.bool true)], args := [d] }
  | _ => none }
def fnExactIsGaugeRow : OpenClaim := { program := "ythnnnhjhgjbmcaa", sum := "acc6bbff22beac1d42518adb70f55428daf02d5e8e1699103829af8e02cd8670", func := "loop.example/g00915/laws.FnExactIsGauge", spec := "fnExactIsGauge", apart := false }
def FnExactIsGaugeSaid : Prop := fnExactIsGaugeRow.holds Try.pinned (OpenSpec.ofChange fnExactIsGaugeSpec)

/-- ITS FALSE NEIGHBOUR: 'it returns false'. Refute it at one input. -/
def fnExactIsGaugeWrong : ChangeSpec := { name := "fnExactIsGauge", fn := fun _ => fun
  | [d] => { results := [.lit (.bool false)], args := [d] }
  | _ => none }
def FnExactIsGaugeWrongFalsely : Prop := fnExactIsGaugeRow.holds Try.pinned (OpenSpec.ofChange fnExactIsGaugeWrong)

/- THE SECOND FORM. 'bulk': how many values and letters a reading holds, each counted each time it is reached (what is shared counts as often as it is met; a slice's spare places count too). A statement '..UptoSaid' is the law's where the arguments, and the package variables that the reading takes, are together of bulk at most 1048576: NARROWER than '..Said'. Prove '..Said' where nothing that the law and all that it calls make is longer than what came in: it says more and counts as full. Else prove '..UptoSaid'. A law counts once. -/
mutual
def uptoBulk {H : Type} : DataW H → Nat
  | .lit (.string bytes) => bytes.length + 1
  | .lit _ => 1
  | .nil => 1
  | .ptr d => uptoBulk d + 1
  | .slice elems spare => uptoBulkAll elems + uptoBulkAll spare + 1
  | .agg parts => uptoBulkAll parts + 1
  | .iface _ d => uptoBulk d + 1
  | .map entries => uptoBulkEntries entries + 1
  | .held _ => 1
def uptoBulkAll {H : Type} : List (DataW H) → Nat
  | [] => 0
  | d :: r => uptoBulk d + uptoBulkAll r
def uptoBulkEntries {H : Type} : List (Lit × DataW H) → Nat
  | [] => 0
  | x :: r => uptoBulkEntry x + uptoBulkEntries r
def uptoBulkEntry {H : Type} : Lit × DataW H → Nat
  | (.string bytes, d) => bytes.length + uptoBulk d + 1
  | (_, d) => uptoBulk d + 1
 end
def uptoSmall : (H : Type) → List (DataW H) → Bool := fun _ ds => decide (uptoBulkAll ds ≤ 1048576)
def OpenSpec.upto (s : _root_.Go.ChangeSpec) : _root_.Go.OpenSpec := { _root_.Go.OpenSpec.ofChange s with cond := some uptoSmall }

/-- 'laws.FnExactIsMosaic', WHERE WHAT IT READS IS OF BULK AT MOST 1048576: true; the input reads as it did. -/
def fnExactIsMosaicUptoRow : OpenClaim := { program := "ythnnnhjhgjbmcaa", sum := "acc6bbff22beac1d42518adb70f55428daf02d5e8e1699103829af8e02cd8670", func := "loop.example/g00915/laws.FnExactIsMosaic", spec := "fnExactIsMosaic", apart := false, narrowed := true }
def FnExactIsMosaicUptoSaid : Prop := fnExactIsMosaicUptoRow.holds Try.pinned (OpenSpec.upto fnExactIsMosaicSpec)

/-- 'laws.FnExactCountKnown', WHERE WHAT IT READS IS OF BULK AT MOST 1048576: true; the input reads as it did. -/
def fnExactCountKnownUptoRow : OpenClaim := { program := "ythnnnhjhgjbmcaa", sum := "acc6bbff22beac1d42518adb70f55428daf02d5e8e1699103829af8e02cd8670", func := "loop.example/g00915/laws.FnExactCountKnown", spec := "fnExactCountKnown", apart := false, narrowed := true }
def FnExactCountKnownUptoSaid : Prop := fnExactCountKnownUptoRow.holds Try.pinned (OpenSpec.upto fnExactCountKnownSpec)

/-- 'laws.FnExactNewMosaic', WHERE WHAT IT READS IS OF BULK AT MOST 1048576: true; the input reads as it did. -/
def fnExactNewMosaicUptoRow : OpenClaim := { program := "ythnnnhjhgjbmcaa", sum := "acc6bbff22beac1d42518adb70f55428daf02d5e8e1699103829af8e02cd8670", func := "loop.example/g00915/laws.FnExactNewMosaic", spec := "fnExactNewMosaic", apart := false, narrowed := true }
def FnExactNewMosaicUptoSaid : Prop := fnExactNewMosaicUptoRow.holds Try.pinned (OpenSpec.upto fnExactNewMosaicSpec)

/-- 'laws.FnExactShrinkMosaic', WHERE WHAT IT READS IS OF BULK AT MOST 1048576: true; the input reads as it did. -/
def fnExactShrinkMosaicUptoRow : OpenClaim := { program := "ythnnnhjhgjbmcaa", sum := "acc6bbff22beac1d42518adb70f55428daf02d5e8e1699103829af8e02cd8670", func := "loop.example/g00915/laws.FnExactShrinkMosaic", spec := "fnExactShrinkMosaic", apart := false, narrowed := true }
def FnExactShrinkMosaicUptoSaid : Prop := fnExactShrinkMosaicUptoRow.holds Try.pinned (OpenSpec.upto fnExactShrinkMosaicSpec)

/-- 'laws.FnShrunk', WHERE WHAT IT READS IS OF BULK AT MOST 1048576: true; the input reads as it did. -/
def fnShrunkUptoRow : OpenClaim := { program := "ythnnnhjhgjbmcaa", sum := "acc6bbff22beac1d42518adb70f55428daf02d5e8e1699103829af8e02cd8670", func := "loop.example/g00915/laws.FnShrunk", spec := "fnShrunk", apart := false, narrowed := true }
def FnShrunkUptoSaid : Prop := fnShrunkUptoRow.holds Try.pinned (OpenSpec.upto fnShrunkSpec)

/-- 'laws.FnExactLevelSpan', WHERE WHAT IT READS IS OF BULK AT MOST 1048576: true; the input reads as it did. -/
def fnExactLevelSpanUptoRow : OpenClaim := { program := "ythnnnhjhgjbmcaa", sum := "acc6bbff22beac1d42518adb70f55428daf02d5e8e1699103829af8e02cd8670", func := "loop.example/g00915/laws.FnExactLevelSpan", spec := "fnExactLevelSpan", apart := false, narrowed := true }
def FnExactLevelSpanUptoSaid : Prop := fnExactLevelSpanUptoRow.holds Try.pinned (OpenSpec.upto fnExactLevelSpanSpec)

/-- 'laws.FnExactHighWaters', WHERE WHAT IT READS IS OF BULK AT MOST 1048576: true; the input reads as it did. -/
def fnExactHighWatersUptoRow : OpenClaim := { program := "ythnnnhjhgjbmcaa", sum := "acc6bbff22beac1d42518adb70f55428daf02d5e8e1699103829af8e02cd8670", func := "loop.example/g00915/laws.FnExactHighWaters", spec := "fnExactHighWaters", apart := false, narrowed := true }
def FnExactHighWatersUptoSaid : Prop := fnExactHighWatersUptoRow.holds Try.pinned (OpenSpec.upto fnExactHighWatersSpec)

/-- 'laws.FnExactLayerOf', WHERE WHAT IT READS IS OF BULK AT MOST 1048576: true; the input reads as it did. -/
def fnExactLayerOfUptoRow : OpenClaim := { program := "ythnnnhjhgjbmcaa", sum := "acc6bbff22beac1d42518adb70f55428daf02d5e8e1699103829af8e02cd8670", func := "loop.example/g00915/laws.FnExactLayerOf", spec := "fnExactLayerOf", unfollowed := true, recurses := true, apart := false, narrowed := true }
def FnExactLayerOfUptoSaid : Prop := fnExactLayerOfUptoRow.holds Try.pinned (OpenSpec.upto fnExactLayerOfSpec)

/-- 'laws.FnExactIsGauge', WHERE WHAT IT READS IS OF BULK AT MOST 1048576: true; the input reads as it did. -/
def fnExactIsGaugeUptoRow : OpenClaim := { program := "ythnnnhjhgjbmcaa", sum := "acc6bbff22beac1d42518adb70f55428daf02d5e8e1699103829af8e02cd8670", func := "loop.example/g00915/laws.FnExactIsGauge", spec := "fnExactIsGauge", apart := false, narrowed := true }
def FnExactIsGaugeUptoSaid : Prop := fnExactIsGaugeUptoRow.holds Try.pinned (OpenSpec.upto fnExactIsGaugeSpec)

end Rows
end Go.Proofs.Ythnnnhjhgjbmcaa
