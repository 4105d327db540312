/- slices.Grow of nothing, slices.Concat: at strings. -/
import Derived.Test.YtaabaflgeljbjaaGreatPo29
import Derived.Test.YtaabaflgeljbjaaGreatPo11
import Derived.Test.YtaabaflgeljbjaaGreatPo22
set_option linter.unusedVariables false
set_option linter.unusedSimpArgs false
set_option maxRecDepth 100000
set_option maxHeartbeats 40000000
namespace Go.Proofs.YtaabaflgeljbjaaGreat
section
open Go.RowKit Go.Shelf
end
end Go.Proofs.YtaabaflgeljbjaaGreat
