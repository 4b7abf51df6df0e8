/- Slices of slices of numbers: copied and compared. -/
import Derived.Test.YthbljfanoaibkaaGreatDoorIIMem
import Derived.Test.YthbljfanoaibkaaGreatDoorMKit
import Derived.Deep.RegionHeld3
namespace Go.Proofs.YthbljfanoaibkaaGreatDoor
open Go.RowKit Go.ChangeShapes Go.WideShapes Go.ChangeAt
set_option linter.unusedVariables false
set_option linter.unusedSimpArgs false
theorem ints_info : (Tryz.prog.info? 34).map (fun i => (i.zero, i.size, i.bytes)) = some (some (.slice none 0 0), 1, 24) := by kernel_rfl
end Go.Proofs.YthbljfanoaibkaaGreatDoor
