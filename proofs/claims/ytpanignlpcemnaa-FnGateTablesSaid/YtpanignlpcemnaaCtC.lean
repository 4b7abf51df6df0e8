/- The nearest contact: contract of nearestIn. -/
import Derived.Test.YtpanignlpcemnaaCtB
import Derived.Test.YtpanignlpcemnaaRegKit
import Derived.Deep.RegionHeld3
import Derived.Deep.RegionWith
namespace Go.Proofs.Ytpanignlpcemnaa
open Go.RowKit Go.ChangeShapes Go.WideShapes Go.ChangeAt
set_option linter.unusedVariables false
set_option linter.unusedSimpArgs false
end Go.Proofs.Ytpanignlpcemnaa
