/- Package prune: May. Printed by pp.py out of src/Prune1.src. -/
import Derived.Test.YtaabaflgeljbjaaGreatPr06
import Derived.Test.YtaabaflgeljbjaaGreatPr25
set_option linter.unusedVariables false
set_option linter.unusedSimpArgs false
set_option maxRecDepth 100000
set_option maxHeartbeats 40000000
namespace Go.Proofs.YtaabaflgeljbjaaGreat
section
open Go.RowKit
abbrev PrD:=Str × Nat × Str × Nat
abbrev prC (p:PrD):List Value:=[St p.1,U p.2.1,St p.2.2.1,U p.2.2.2]
abbrev prV (p:PrD):Value:=.agg #[St p.1,U p.2.1,St p.2.2.1,U p.2.2.2]
def mayP (p:PrD):Bool:=!p.1.isEmpty && (!p.2.2.1.isEmpty && (!(p.1 == p.2.2.1) && (decide (p.2.2.2<=281474976710656) && decide (p.2.1<=281474976710656 - p.2.2.2))))
theorem zr5 (p:PrD) (w:World):Calls Tryz.prog 12 #[prV p] w fun e w'=>e=.returned (.bool (mayP p))/\Ext w w':=by
 obtain⟨b,c,o,n⟩:=p;cases h1:b.isEmpty
 case' true=>have HS:=zH (show mayP (b,c,o,n)=false by simp [mayP,h1]);go_enter Tryz.func12,Tryz.ntmps12;go_wp2;go_ret;exact⟨by rw [HS.out];rfl,(Ext.refl _).alloc _⟩
 cases h2:o.isEmpty
 case' true=>have HS:=zH (show mayP (b,c,o,n)=false by simp [mayP,h2]);go_enter Tryz.func12,Tryz.ntmps12;go_wp2;go_ret;exact⟨by rw [HS.out];rfl,(Ext.refl _).alloc _⟩
 cases h3:b == o
 case' true =>
  have HS:=zH (show mayP (b,c,o,n)=false by simp [mayP,h3]);have h4:b=o:=by simpa using h3
  subst h4;go_enter Tryz.func12,Tryz.ntmps12;go_wp2;go_ret;exact⟨by rw [HS.out];rfl,(Ext.refl _).alloc _⟩
 have h3':¬ b=o:=by simpa using h3
 by_cases h4:(n:Int)<=281474976710656
 case' neg=>have HS:=zH (show mayP (b,c,o,n)=false by have:¬ n<=281474976710656:=(by omega);simp [mayP,this]);go_enter Tryz.func12,Tryz.ntmps12;go_wp2;go_ret;exact⟨by rw [HS.out];rfl,(Ext.refl _).alloc _⟩
 have hs:IntKind.u64.wrap (281474976710656 - (n:Int))=((281474976710656 - n:Nat):Int):=by simp [IntKind.wrap,IntKind.signed,IntKind.bits];omega
 by_cases h5:c<=281474976710656 - n
 ·have HS:=zH (show mayP (b,c,o,n)=true by have:n<=281474976710656:=(by omega);simp [mayP,h1,h2,h3,h3',this,h5]);go_enter Tryz.func12,Tryz.ntmps12;go_wp2;go_ret;exact⟨by rw [HS.out];rfl,(Ext.refl _).alloc _⟩
 ·have HS:=zH (show mayP (b,c,o,n)=false by simp [mayP,h5]);go_enter Tryz.func12,Tryz.ntmps12;go_wp2;go_ret;exact⟨by rw [HS.out];rfl,(Ext.refl _).alloc _⟩
end
end Go.Proofs.YtaabaflgeljbjaaGreat
