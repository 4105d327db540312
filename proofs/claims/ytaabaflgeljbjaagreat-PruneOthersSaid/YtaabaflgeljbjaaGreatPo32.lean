/- slices.Compact at []string: a row of the call's own. -/
import Derived.Test.YtaabaflgeljbjaaGreatPo10
import Derived.Test.YtaabaflgeljbjaaGreatPo17
set_option linter.unusedVariables false
set_option linter.unusedSimpArgs false
set_option maxRecDepth 100000
set_option maxHeartbeats 40000000
namespace Go.Proofs.YtaabaflgeljbjaaGreat
section
open Go.RowKit Go.Sort
end
end Go.Proofs.YtaabaflgeljbjaaGreat
