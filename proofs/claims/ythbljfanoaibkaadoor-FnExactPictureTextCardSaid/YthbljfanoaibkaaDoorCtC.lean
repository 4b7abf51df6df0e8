/- The nearest contact: contract of nearestIn. -/
import Derived.Test.YthbljfanoaibkaaDoorCtB
import Derived.Test.YthbljfanoaibkaaDoorRegKit
import Derived.Deep.RegionHeld3
import Derived.Deep.RegionWith
namespace Go.Proofs.YthbljfanoaibkaaDoor
open Go.RowKit Go.ChangeShapes Go.WideShapes Go.ChangeAt
set_option linter.unusedVariables false
set_option linter.unusedSimpArgs false
end Go.Proofs.YthbljfanoaibkaaDoor
