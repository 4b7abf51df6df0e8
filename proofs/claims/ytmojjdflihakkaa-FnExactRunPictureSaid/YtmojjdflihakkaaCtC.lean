/- The nearest contact: contract of nearestIn. -/
import Derived.Test.YtmojjdflihakkaaCtB
import Derived.Test.YtmojjdflihakkaaRegKit
import Derived.Deep.RegionHeld3
import Derived.Deep.RegionWith
namespace Go.Proofs.Ytmojjdflihakkaa
open Go.RowKit Go.ChangeShapes Go.WideShapes Go.ChangeAt
set_option linter.unusedVariables false
set_option linter.unusedSimpArgs false
end Go.Proofs.Ytmojjdflihakkaa
