/- Package state: Apply. Printed by gen_stateapply.py. -/
import Derived.Test.YtaabaflgeljbjaaGreatPo41
import Derived.Test.YtaabaflgeljbjaaGreatPo21
set_option linter.unusedVariables false
set_option linter.unusedSimpArgs false
set_option maxRecDepth 100000
set_option maxHeartbeats 40000000
namespace Go.Proofs.YtaabaflgeljbjaaGreat
section
open Go.RowKit Go.Shelf
end
end Go.Proofs.YtaabaflgeljbjaaGreat
