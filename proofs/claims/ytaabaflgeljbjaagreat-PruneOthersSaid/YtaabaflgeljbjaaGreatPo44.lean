/- Contracts and plain laws. -/
import Derived.Test.YtaabaflgeljbjaaGreatPo43
import Derived.Laws.BytesArg
import Derived.Test.YtaabaflgeljbjaaGreatPo23
set_option linter.unusedVariables false
set_option linter.unusedSimpArgs false
set_option maxRecDepth 100000
set_option maxHeartbeats 40000000
namespace Go.Proofs.YtaabaflgeljbjaaGreat
section
open Go.RowKit Go.Shelf
theorem znk {w:World} {g base:Nat} {m:Mark} (h:RowIs w g 97 [St m.1,U m.2] []) (hb:base<=g):Own w base 97 2 (.slice (some ⟨g,0,none⟩) 1 1) 1 ([m].flatMap zae) :=
 RowIs.own h hb (by omega) (by omega) rfl rfl rfl
end
section
open Go.RowKit Go.Shelf
end
section
open Go.RowKit Go.Shelf
end
section
open Go.RowKit Go.Shelf
section
variable {N0 T:Nat} {zs:List Value} {C:List Value->(Nat->Prop)->World->Prop} {tup ag:List Value->Value} {i1 i2 i3 i4 i5:Nat} {st:Nat->Option Value} {w:World}
theorem BoxK.other {i:Nat} {v:Value} (hd:i1 ≠ i/\i2 ≠ i/\i3 ≠ i/\i4 ≠ i/\i5 ≠ i) (h:BoxK N0 T zs C tup ag i1 i2 i3 i4 i5 st w):BoxK N0 T zs C tup ag i1 i2 i3 i4 i5 (zeb st i v) w:=by
 obtain⟨d1,d2,d3,d4,d5⟩:=hd;unfold BoxK at h ⊢;simp only [zaj st v d1,zaj st v d2,zaj st v d3,zaj st v d4,zaj st v d5];exact h
end
end
end Go.Proofs.YtaabaflgeljbjaaGreat
