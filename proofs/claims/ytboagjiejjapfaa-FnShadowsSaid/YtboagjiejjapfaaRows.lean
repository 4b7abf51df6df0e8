/-
  No cell of these rows narrows 'for every input' (looked for: loops, veiled, ifaces, maps, wideKeys, modest, calm, conditions, laid).
  DERIVED. THE GIVEN ROWS OF THIS SEAT. 12 by the template 'for every input the law returns true; each argument reads behind the call as it read before'; 0 by the template 'total and deterministic' (their statements: YtboagjiejjapfaaTotals.lean).
  GIVEN WITH THE SEED: the statements are not yours to turn. If you find one false, say at which input.
  Laid BY PROGRAM, IN A SANDBOX (cutbox-rows.mjs): the forced cells as the released guide's own fill.sh prints them over the translation 49362fa48d982310… (all of the seat's roots in one cut). By AI agents, Wed Nov 11 2026. No macro, syntax, notation, axiom, sorry.
-/
import Derived.Test.YtboagjiejjapfaaChecked
import GoSem.Claim
import GoSem.ClaimJoined
import GoSem.ClaimMapViews
import Derived.JoinedTies
import Derived.KernelRfl
namespace Go.Proofs.Ytboagjiejjapfaa
/- THE CELL 'sum', in the pinned program and in every row, IS THE sha256 OF THE DUMP (.gsa) THAT YtboagjiejjapfaaProg.lean LOADS. Nothing in Lean hashes anything: it is a label: what it is worth is what the hold of that sum in a sandbox is worth. -/
noncomputable def Try.pinned : Pinned := { name := "ytboagjiejjapfaa", sum := "49362fa48d982310a9c9073419300ea78f426d8f6f5b619f0e444e73315c88ea", checked := Try.checked }
namespace Rows
def none {H : Type} : Left H := { results := [], args := [] }

/-- 'laws.FnExactBlindSamples': WHATEVER THE INPUT: true; the input reads as it did. -/
def fnExactBlindSamplesSpec : ChangeSpec := { name := "fnExactBlindSamples", fn := fun _ => fun
  | [d1, d2] => { results := [.lit (.bool true)], args := [d1, d2] }
  | _ => none }
def fnExactBlindSamplesRow : OpenClaim := { program := "ytboagjiejjapfaa", sum := "49362fa48d982310a9c9073419300ea78f426d8f6f5b619f0e444e73315c88ea", func := "loop.example/g00915/laws.FnExactBlindSamples", spec := "fnExactBlindSamples", apart := false }
def FnExactBlindSamplesSaid : Prop := fnExactBlindSamplesRow.holds Try.pinned (OpenSpec.ofChange fnExactBlindSamplesSpec)

/-- ITS FALSE NEIGHBOUR: 'it returns false'. Refute it at one input. -/
def fnExactBlindSamplesWrong : ChangeSpec := { name := "fnExactBlindSamples", fn := fun _ => fun
  | [d1, d2] => { results := [.lit (.bool false)], args := [d1, d2] }
  | _ => none }
def FnExactBlindSamplesWrongFalsely : Prop := fnExactBlindSamplesRow.holds Try.pinned (OpenSpec.ofChange fnExactBlindSamplesWrong)

/-- 'laws.FnExactNearestRoot': WHATEVER THE INPUT: true; the input reads as it did. -/
def fnExactNearestRootSpec : ChangeSpec := { name := "fnExactNearestRoot", fn := fun _ => fun
  | [d] => { results := [.lit (.bool true)], args := [d] }
  | _ => none }
def fnExactNearestRootRow : OpenClaim := { program := "ytboagjiejjapfaa", sum := "49362fa48d982310a9c9073419300ea78f426d8f6f5b619f0e444e73315c88ea", func := "loop.example/g00915/laws.FnExactNearestRoot", spec := "fnExactNearestRoot", apart := false }
def FnExactNearestRootSaid : Prop := fnExactNearestRootRow.holds Try.pinned (OpenSpec.ofChange fnExactNearestRootSpec)

/-- ITS FALSE NEIGHBOUR: 'it returns false'. Refute it at one input. -/
def fnExactNearestRootWrong : ChangeSpec := { name := "fnExactNearestRoot", fn := fun _ => fun
  | [d] => { results := [.lit (.bool false)], args := [d] }
  | _ => none }
def FnExactNearestRootWrongFalsely : Prop := fnExactNearestRootRow.holds Try.pinned (OpenSpec.ofChange fnExactNearestRootWrong)

/-- 'laws.FnExactBottomSample': WHATEVER THE INPUT: true; the input reads as it did. -/
def fnExactBottomSampleSpec : ChangeSpec := { name := "fnExactBottomSample", fn := fun _ => fun
  | [d1, d2] => { results := [.lit (.bool true)], args := [d1, d2] }
  | _ => none }
def fnExactBottomSampleRow : OpenClaim := { program := "ytboagjiejjapfaa", sum := "49362fa48d982310a9c9073419300ea78f426d8f6f5b619f0e444e73315c88ea", func := "loop.example/g00915/laws.FnExactBottomSample", spec := "fnExactBottomSample", apart := false }
def FnExactBottomSampleSaid : Prop := fnExactBottomSampleRow.holds Try.pinned (OpenSpec.ofChange fnExactBottomSampleSpec)

/-- ITS FALSE NEIGHBOUR: 'it returns false'. Refute it at one input. -/
def fnExactBottomSampleWrong : ChangeSpec := { name := "fnExactBottomSample", fn := fun _ => fun
  | [d1, d2] => { results := [.lit (.bool false)], args := [d1, d2] }
  | _ => none }
def FnExactBottomSampleWrongFalsely : Prop := fnExactBottomSampleRow.holds Try.pinned (OpenSpec.ofChange fnExactBottomSampleWrong)

/-- 'laws.FnExactSlantBounds': WHATEVER THE INPUT: true; the input reads as it did. -/
def fnExactSlantBoundsSpec : ChangeSpec := { name := "fnExactSlantBounds", fn := fun _ => fun
  | [d1, d2] => { results := [.lit (.bool true)], args := [d1, d2] }
  | _ => none }
def fnExactSlantBoundsRow : OpenClaim := { program := "ytboagjiejjapfaa", sum := "49362fa48d982310a9c9073419300ea78f426d8f6f5b619f0e444e73315c88ea", func := "loop.example/g00915/laws.FnExactSlantBounds", spec := "fnExactSlantBounds", apart := false }
def FnExactSlantBoundsSaid : Prop := fnExactSlantBoundsRow.holds Try.pinned (OpenSpec.ofChange fnExactSlantBoundsSpec)

/-- ITS FALSE NEIGHBOUR: 'it returns false'. Refute it at one input. -/
def fnExactSlantBoundsWrong : ChangeSpec := { name := "fnExactSlantBounds", fn := fun _ => fun
  | [d1, d2] => { results := [.lit (.bool false)], args := [d1, d2] }
  | _ => none }
def FnExactSlantBoundsWrongFalsely : Prop := fnExactSlantBoundsRow.holds Try.pinned (OpenSpec.ofChange fnExactSlantBoundsWrong)

/-- 'laws.FnExactGroundBounds': WHATEVER THE INPUT: true; the input reads as it did. -/
def fnExactGroundBoundsSpec : ChangeSpec := { name := "fnExactGroundBounds", fn := fun _ => fun
  | [d1, d2] => { results := [.lit (.bool true)], args := [d1, d2] }
  | _ => none }
def fnExactGroundBoundsRow : OpenClaim := { program := "ytboagjiejjapfaa", sum := "49362fa48d982310a9c9073419300ea78f426d8f6f5b619f0e444e73315c88ea", func := "loop.example/g00915/laws.FnExactGroundBounds", spec := "fnExactGroundBounds", apart := false }
def FnExactGroundBoundsSaid : Prop := fnExactGroundBoundsRow.holds Try.pinned (OpenSpec.ofChange fnExactGroundBoundsSpec)

/-- ITS FALSE NEIGHBOUR: 'it returns false'. Refute it at one input. -/
def fnExactGroundBoundsWrong : ChangeSpec := { name := "fnExactGroundBounds", fn := fun _ => fun
  | [d1, d2] => { results := [.lit (.bool false)], args := [d1, d2] }
  | _ => none }
def FnExactGroundBoundsWrongFalsely : Prop := fnExactGroundBoundsRow.holds Try.pinned (OpenSpec.ofChange fnExactGroundBoundsWrong)

/-- 'laws.FnExactShadowHeight': WHATEVER THE INPUT: true; the input reads as it did. -/
def fnExactShadowHeightSpec : ChangeSpec := { name := "fnExactShadowHeight", fn := fun _ => fun
  | [d1, d2, d3] => { results := [.lit (.bool true)], args := [d1, d2, d3] }
  | _ => none }
def fnExactShadowHeightRow : OpenClaim := { program := "ytboagjiejjapfaa", sum := "49362fa48d982310a9c9073419300ea78f426d8f6f5b619f0e444e73315c88ea", func := "loop.example/g00915/laws.FnExactShadowHeight", spec := "fnExactShadowHeight", apart := false }
def FnExactShadowHeightSaid : Prop := fnExactShadowHeightRow.holds Try.pinned (OpenSpec.ofChange fnExactShadowHeightSpec)

/-- ITS FALSE NEIGHBOUR: 'it returns false'. Refute it at one input. -/
def fnExactShadowHeightWrong : ChangeSpec := { name := "fnExactShadowHeight", fn := fun _ => fun
  | [d1, d2, d3] => { results := [.lit (.bool false)], args := [d1, d2, d3] }
  | _ => none }
def FnExactShadowHeightWrongFalsely : Prop := fnExactShadowHeightRow.holds Try.pinned (OpenSpec.ofChange fnExactShadowHeightWrong)

/-- 'laws.FnExactGainLine': WHATEVER THE INPUT: true; the input reads as it did. -/
def fnExactGainLineSpec : ChangeSpec := { name := "fnExactGainLine", fn := fun _ => fun
  | [d1, d2] => { results := [.lit (.bool true)], args := [d1, d2] }
  | _ => none }
def fnExactGainLineRow : OpenClaim := { program := "ytboagjiejjapfaa", sum := "49362fa48d982310a9c9073419300ea78f426d8f6f5b619f0e444e73315c88ea", func := "loop.example/g00915/laws.FnExactGainLine", spec := "fnExactGainLine", apart := false }
def FnExactGainLineSaid : Prop := fnExactGainLineRow.holds Try.pinned (OpenSpec.ofChange fnExactGainLineSpec)

/-- ITS FALSE NEIGHBOUR: 'it returns false'. Refute it at one input. -/
def fnExactGainLineWrong : ChangeSpec := { name := "fnExactGainLine", fn := fun _ => fun
  | [d1, d2] => { results := [.lit (.bool false)], args := [d1, d2] }
  | _ => none }
def FnExactGainLineWrongFalsely : Prop := fnExactGainLineRow.holds Try.pinned (OpenSpec.ofChange fnExactGainLineWrong)

/-- 'laws.FnRoots': WHATEVER THE INPUT: true; the input reads as it did. -/
def fnRootsSpec : ChangeSpec := { name := "fnRoots", fn := fun _ => fun
  | [d] => { results := [.lit (.bool true)], args := [d] }
  | _ => none }
def fnRootsRow : OpenClaim := { program := "ytboagjiejjapfaa", sum := "49362fa48d982310a9c9073419300ea78f426d8f6f5b619f0e444e73315c88ea", func := "loop.example/g00915/laws.FnRoots", spec := "fnRoots", apart := false }
def FnRootsSaid : Prop := fnRootsRow.holds Try.pinned (OpenSpec.ofChange fnRootsSpec)

/-- ITS FALSE NEIGHBOUR: 'it returns false'. Refute it at one input. -/
def fnRootsWrong : ChangeSpec := { name := "fnRoots", fn := fun _ => fun
  | [d] => { results := [.lit (.bool false)], args := [d] }
  | _ => none }
def FnRootsWrongFalsely : Prop := fnRootsRow.holds Try.pinned (OpenSpec.ofChange fnRootsWrong)

/-- 'laws.FnGroundRanges': WHATEVER THE INPUT: true; the input reads as it did. -/
def fnGroundRangesSpec : ChangeSpec := { name := "fnGroundRanges", fn := fun _ => fun
  | [d] => { results := [.lit (.bool true)], args := [d] }
  | _ => none }
def fnGroundRangesRow : OpenClaim := { program := "ytboagjiejjapfaa", sum := "49362fa48d982310a9c9073419300ea78f426d8f6f5b619f0e444e73315c88ea", func := "loop.example/g00915/laws.FnGroundRanges", spec := "fnGroundRanges", apart := false }
def FnGroundRangesSaid : Prop := fnGroundRangesRow.holds Try.pinned (OpenSpec.ofChange fnGroundRangesSpec)

/-- ITS FALSE NEIGHBOUR: 'it returns false'. Refute it at one input. -/
def fnGroundRangesWrong : ChangeSpec := { name := "fnGroundRanges", fn := fun _ => fun
  | [d] => { results := [.lit (.bool false)], args := [d] }
  | _ => none }
def FnGroundRangesWrongFalsely : Prop := fnGroundRangesRow.holds Try.pinned (OpenSpec.ofChange fnGroundRangesWrong)

/-- 'laws.FnExactCorrectLine': WHATEVER THE INPUT: true; the input reads as it did. -/
def fnExactCorrectLineSpec : ChangeSpec := { name := "fnExactCorrectLine", fn := fun _ => fun
  | [d1, d2, d3] => { results := [.lit (.bool true)], args := [d1, d2, d3] }
  | _ => none }
def fnExactCorrectLineRow : OpenClaim := { program := "ytboagjiejjapfaa", sum := "49362fa48d982310a9c9073419300ea78f426d8f6f5b619f0e444e73315c88ea", func := "loop.example/g00915/laws.FnExactCorrectLine", spec := "fnExactCorrectLine", apart := false }
def FnExactCorrectLineSaid : Prop := fnExactCorrectLineRow.holds Try.pinned (OpenSpec.ofChange fnExactCorrectLineSpec)

/-- ITS FALSE NEIGHBOUR: 'it returns false'. Refute it at one input. -/
def fnExactCorrectLineWrong : ChangeSpec := { name := "fnExactCorrectLine", fn := fun _ => fun
  | [d1, d2, d3] => { results := [.lit (.bool false)], args := [d1, d2, d3] }
  | _ => none }
def FnExactCorrectLineWrongFalsely : Prop := fnExactCorrectLineRow.holds Try.pinned (OpenSpec.ofChange fnExactCorrectLineWrong)

/-- 'laws.FnCorrectedLines': WHATEVER THE INPUT: true; the input reads as it did. -/
def fnCorrectedLinesSpec : ChangeSpec := { name := "fnCorrectedLines", fn := fun _ => fun
  | [d] => { results := [.lit (.bool true)], args := [d] }
  | _ => none }
def fnCorrectedLinesRow : OpenClaim := { program := "ytboagjiejjapfaa", sum := "49362fa48d982310a9c9073419300ea78f426d8f6f5b619f0e444e73315c88ea", func := "loop.example/g00915/laws.FnCorrectedLines", spec := "fnCorrectedLines", apart := false }
def FnCorrectedLinesSaid : Prop := fnCorrectedLinesRow.holds Try.pinned (OpenSpec.ofChange fnCorrectedLinesSpec)

/-- ITS FALSE NEIGHBOUR: 'it returns false'. Refute it at one input. -/
def fnCorrectedLinesWrong : ChangeSpec := { name := "fnCorrectedLines", fn := fun _ => fun
  | [d] => { results := [.lit (.bool false)], args := [d] }
  | _ => none }
def FnCorrectedLinesWrongFalsely : Prop := fnCorrectedLinesRow.holds Try.pinned (OpenSpec.ofChange fnCorrectedLinesWrong)

/-- 'laws.FnShadows': WHATEVER THE INPUT: true; the input reads as it did. -/
def fnShadowsSpec : ChangeSpec := { name := "fnShadows", fn := fun _ => fun
  | [d] => { results := [.lit (.bool true)], args := [d] }
  | _ => none }
def fnShadowsRow : OpenClaim := { program := "ytboagjiejjapfaa", sum := "49362fa48d982310a9c9073419300ea78f426d8f6f5b619f0e444e73315c88ea", func := "loop.example/g00915/laws.FnShadows", spec := "fnShadows", apart := false }
def FnShadowsSaid : Prop := fnShadowsRow.holds Try.pinned (OpenSpec.ofChange fnShadowsSpec)

/-- ITS FALSE NEIGHBOUR: 'it returns false'. Refute it at one input. -/
def fnShadowsWrong : ChangeSpec := { name := "fnShadows", fn := fun _ => fun
  | [d] => { results := [.lit (.bool false)], args := [d] }
  | _ => none }
def FnShadowsWrongFalsely : Prop := fnShadowsRow.holds Try.pinned (OpenSpec.ofChange fnShadowsWrong)

/- THE SECOND FORM. 'bulk': how many values and letters a reading holds, each counted each time it is reached (what is shared counts as often as it is met; a slice's spare places count too). A statement '..UptoSaid' is the law's where the arguments, and the package variables that the reading takes, are together of bulk at most 1048576: NARROWER than '..Said'. Prove '..Said' where nothing that the law and all that it calls make is longer than what came in: it says more and counts as full. Else prove '..UptoSaid'. A law counts once. -/
mutual
def uptoBulk {H : Type} : DataW H → Nat
  | .lit (.string bytes) => bytes.length + 1
  | .lit _ => 1
  | .nil => 1
  | .ptr d => uptoBulk d + 1
  | .slice elems spare => uptoBulkAll elems + uptoBulkAll spare + 1
  | .agg parts => uptoBulkAll parts + 1
  | .iface _ d => uptoBulk d + 1
  | .map entries => uptoBulkEntries entries + 1
  | .held _ => 1
def uptoBulkAll {H : Type} : List (DataW H) → Nat
  | [] => 0
  | d :: r => uptoBulk d + uptoBulkAll r
def uptoBulkEntries {H : Type} : List (Lit × DataW H) → Nat
  | [] => 0
  | x :: r => uptoBulkEntry x + uptoBulkEntries r
def uptoBulkEntry {H : Type} : Lit × DataW H → Nat
  | (.string bytes, d) => bytes.length + uptoBulk d + 1
  | (_, d) => uptoBulk d + 1
 end
def uptoSmall : (H : Type) → List (DataW H) → Bool := fun _ ds => decide (uptoBulkAll ds ≤ 1048576)
def OpenSpec.upto (s : _root_.Go.ChangeSpec) : _root_.Go.OpenSpec := { _root_.Go.OpenSpec.ofChange s with cond := some uptoSmall }

/-- 'laws.FnExactBlindSamples', WHERE WHAT IT READS IS OF BULK AT MOST 1048576: true; the input reads as it did. -/
def fnExactBlindSamplesUptoRow : OpenClaim := { program := "ytboagjiejjapfaa", sum := "49362fa48d982310a9c9073419300ea78f426d8f6f5b619f0e444e73315c88ea", func := "loop.example/g00915/laws.FnExactBlindSamples", spec := "fnExactBlindSamples", apart := false, narrowed := true }
def FnExactBlindSamplesUptoSaid : Prop := fnExactBlindSamplesUptoRow.holds Try.pinned (OpenSpec.upto fnExactBlindSamplesSpec)

/-- 'laws.FnExactNearestRoot', WHERE WHAT IT READS IS OF BULK AT MOST 1048576: true; the input reads as it did. -/
def fnExactNearestRootUptoRow : OpenClaim := { program := "ytboagjiejjapfaa", sum := "49362fa48d982310a9c9073419300ea78f426d8f6f5b619f0e444e73315c88ea", func := "loop.example/g00915/laws.FnExactNearestRoot", spec := "fnExactNearestRoot", apart := false, narrowed := true }
def FnExactNearestRootUptoSaid : Prop := fnExactNearestRootUptoRow.holds Try.pinned (OpenSpec.upto fnExactNearestRootSpec)

/-- 'laws.FnExactBottomSample', WHERE WHAT IT READS IS OF BULK AT MOST 1048576: true; the input reads as it did. -/
def fnExactBottomSampleUptoRow : OpenClaim := { program := "ytboagjiejjapfaa", sum := "49362fa48d982310a9c9073419300ea78f426d8f6f5b619f0e444e73315c88ea", func := "loop.example/g00915/laws.FnExactBottomSample", spec := "fnExactBottomSample", apart := false, narrowed := true }
def FnExactBottomSampleUptoSaid : Prop := fnExactBottomSampleUptoRow.holds Try.pinned (OpenSpec.upto fnExactBottomSampleSpec)

/-- 'laws.FnExactSlantBounds', WHERE WHAT IT READS IS OF BULK AT MOST 1048576: true; the input reads as it did. -/
def fnExactSlantBoundsUptoRow : OpenClaim := { program := "ytboagjiejjapfaa", sum := "49362fa48d982310a9c9073419300ea78f426d8f6f5b619f0e444e73315c88ea", func := "loop.example/g00915/laws.FnExactSlantBounds", spec := "fnExactSlantBounds", apart := false, narrowed := true }
def FnExactSlantBoundsUptoSaid : Prop := fnExactSlantBoundsUptoRow.holds Try.pinned (OpenSpec.upto fnExactSlantBoundsSpec)

/-- 'laws.FnExactGroundBounds', WHERE WHAT IT READS IS OF BULK AT MOST 1048576: true; the input reads as it did. -/
def fnExactGroundBoundsUptoRow : OpenClaim := { program := "ytboagjiejjapfaa", sum := "49362fa48d982310a9c9073419300ea78f426d8f6f5b619f0e444e73315c88ea", func := "loop.example/g00915/laws.FnExactGroundBounds", spec := "fnExactGroundBounds", apart := false, narrowed := true }
def FnExactGroundBoundsUptoSaid : Prop := fnExactGroundBoundsUptoRow.holds Try.pinned (OpenSpec.upto fnExactGroundBoundsSpec)

/-- 'laws.FnExactShadowHeight', WHERE WHAT IT READS IS OF BULK AT MOST 1048576: true; the input reads as it did. -/
def fnExactShadowHeightUptoRow : OpenClaim := { program := "ytboagjiejjapfaa", sum := "49362fa48d982310a9c9073419300ea78f426d8f6f5b619f0e444e73315c88ea", func := "loop.example/g00915/laws.FnExactShadowHeight", spec := "fnExactShadowHeight", apart := false, narrowed := true }
def FnExactShadowHeightUptoSaid : Prop := fnExactShadowHeightUptoRow.holds Try.pinned (OpenSpec.upto fnExactShadowHeightSpec)

/-- 'laws.FnExactGainLine', WHERE WHAT IT READS IS OF BULK AT MOST 1048576: true; the input reads as it did. -/
def fnExactGainLineUptoRow : OpenClaim := { program := "ytboagjiejjapfaa", sum := "49362fa48d982310a9c9073419300ea78f426d8f6f5b619f0e444e73315c88ea", func := "loop.example/g00915/laws.FnExactGainLine", spec := "fnExactGainLine", apart := false, narrowed := true }
def FnExactGainLineUptoSaid : Prop := fnExactGainLineUptoRow.holds Try.pinned (OpenSpec.upto fnExactGainLineSpec)

/-- 'laws.FnRoots', WHERE WHAT IT READS IS OF BULK AT MOST 1048576: true; the input reads as it did. -/
def fnRootsUptoRow : OpenClaim := { program := "ytboagjiejjapfaa", sum := "49362fa48d982310a9c9073419300ea78f426d8f6f5b619f0e444e73315c88ea", func := "loop.example/g00915/laws.FnRoots", spec := "fnRoots", apart := false, narrowed := true }
def FnRootsUptoSaid : Prop := fnRootsUptoRow.holds Try.pinned (OpenSpec.upto fnRootsSpec)

/-- 'laws.FnGroundRanges', WHERE WHAT IT READS IS OF BULK AT MOST 1048576: true; the input reads as it did. -/
def fnGroundRangesUptoRow : OpenClaim := { program := "ytboagjiejjapfaa", sum := "49362fa48d982310a9c9073419300ea78f426d8f6f5b619f0e444e73315c88ea", func := "loop.example/g00915/laws.FnGroundRanges", spec := "fnGroundRanges", apart := false, narrowed := true }
def FnGroundRangesUptoSaid : Prop := fnGroundRangesUptoRow.holds Try.pinned (OpenSpec.upto fnGroundRangesSpec)

/-- 'laws.FnExactCorrectLine', WHERE WHAT IT READS IS OF BULK AT MOST 1048576: true; the input reads as it did. -/
def fnExactCorrectLineUptoRow : OpenClaim := { program := "ytboagjiejjapfaa", sum := "49362fa48d982310a9c9073419300ea78f426d8f6f5b619f0e444e73315c88ea", func := "loop.example/g00915/laws.FnExactCorrectLine", spec := "fnExactCorrectLine", apart := false, narrowed := true }
def FnExactCorrectLineUptoSaid : Prop := fnExactCorrectLineUptoRow.holds Try.pinned (OpenSpec.upto fnExactCorrectLineSpec)

/-- 'laws.FnCorrectedLines', WHERE WHAT IT READS IS OF BULK AT MOST 1048576: true; the input reads as it did. -/
def fnCorrectedLinesUptoRow : OpenClaim := { program := "ytboagjiejjapfaa", sum := "49362fa48d982310a9c9073419300ea78f426d8f6f5b619f0e444e73315c88ea", func := "loop.example/g00915/laws.FnCorrectedLines", spec := "fnCorrectedLines", apart := false, narrowed := true }
def FnCorrectedLinesUptoSaid : Prop := fnCorrectedLinesUptoRow.holds Try.pinned (OpenSpec.upto fnCorrectedLinesSpec)

/-- 'laws.FnShadows', WHERE WHAT IT READS IS OF BULK AT MOST 1048576: true; the input reads as it did. -/
def fnShadowsUptoRow : OpenClaim := { program := "ytboagjiejjapfaa", sum := "49362fa48d982310a9c9073419300ea78f426d8f6f5b619f0e444e73315c88ea", func := "loop.example/g00915/laws.FnShadows", spec := "fnShadows", apart := false, narrowed := true }
def FnShadowsUptoSaid : Prop := fnShadowsUptoRow.holds Try.pinned (OpenSpec.upto fnShadowsSpec)

end Rows
end Go.Proofs.Ytboagjiejjapfaa
