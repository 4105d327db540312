/- Laws. -/
import Derived.Test.YtaabaflgeljbjaaGreatPr43
import Derived.Test.YtaabaflgeljbjaaGreatPr28
import Derived.ChangeMaps5
set_option linter.unusedVariables false
set_option linter.unusedSimpArgs false
set_option maxRecDepth 100000
set_option maxHeartbeats 40000000
namespace Go.Proofs.YtaabaflgeljbjaaGreat
section
open Go.Deep Go.ChangeShapes Go.WideShapes
section
variable {H:Type} {enc:TypeId × Value->H} {w:World}
theorem ycd {α:Type}{l:List α}(h:l.length=7):∃a b c d e f g,l = [a,b,c,d,e,f,g]:=by
 match l,h with
 | [a,b,c,d,e,f,g],_=>exact⟨a,b,c,d,e,f,g,rfl⟩
end
section
variable {H:Type} {enc:TypeId × Value->H} {w:World}
end
end
end Go.Proofs.YtaabaflgeljbjaaGreat
