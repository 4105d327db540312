/- Package prune: May. Printed by pp.py out of src/Prune1.src. -/
import Derived.Test.YtaabaflgeljbjaaGreatPr06
import Derived.Test.YtaabaflgeljbjaaGreatPr25
set_option linter.unusedVariables false
set_option linter.unusedSimpArgs false
set_option maxRecDepth 100000
set_option maxHeartbeats 40000000
namespace Go.Proofs.YtaabaflgeljbjaaGreat
section
open Go.RowKit
abbrev PrD:=Str×Nat×Str×Nat
abbrev prC (p:PrD):List Value:=[St p.1,U p.2.1,St p.2.2.1,U p.2.2.2]
abbrev prV (p:PrD):Value:=.agg #[St p.1,U p.2.1,St p.2.2.1,U p.2.2.2]
def mayP (p:PrD):Bool:=!p.1.isEmpty&&(!p.2.2.1.isEmpty&&(!(p.1==p.2.2.1)&&(decide (p.2.2.2<=281474976710656)&&decide (p.2.1<=281474976710656-p.2.2.2))))
theorem zr5 (p:PrD)(w:World):Calls Tryz.prog 12 #[prV p] w fun e w'=>e=.returned (.bool (mayP p))/\Ext w w':=by
 obtain⟨b,c,o,n⟩:=p;cases h1:b.isEmpty
 case' true=>have a:=zH (show mayP (b,c,o,n)=false by simp[mayP,h1]);go_enter Tryz.func12,Tryz.ntmps12;go_wp2;go_ret;exact⟨by rw[a.out];rfl,(Ext.refl _).alloc _⟩
 cases f:o.isEmpty
 case' true=>have a:=zH (show mayP (b,c,o,n)=false by simp[mayP,f]);go_enter Tryz.func12,Tryz.ntmps12;go_wp2;go_ret;exact⟨by rw[a.out];rfl,(Ext.refl _).alloc _⟩
 cases d:b==o
 case' true =>
  have a:=zH (show mayP (b,c,o,n)=false by simp[mayP,d]);have g:b=o:=by simpa using d
  subst g;go_enter Tryz.func12,Tryz.ntmps12;go_wp2;go_ret;exact⟨by rw[a.out];rfl,(Ext.refl _).alloc _⟩
 have i:¬b=o:=by simpa using d
 by_cases g:(n:Int)<=281474976710656
 case' neg=>have a:=zH (show mayP (b,c,o,n)=false by have:¬n<=281474976710656:=(by omega);simp[mayP,this]);go_enter Tryz.func12,Tryz.ntmps12;go_wp2;go_ret;exact⟨by rw[a.out];rfl,(Ext.refl _).alloc _⟩
 have j:IntKind.u64.wrap (281474976710656-(n:Int))=((281474976710656-n:Nat):Int):=by simp[IntKind.wrap,IntKind.signed,IntKind.bits];omega
 by_cases h:c<=281474976710656-n
 ·have a:=zH (show mayP (b,c,o,n)=true by have:n<=281474976710656:=(by omega);simp[mayP,h1,f,d,i,this,h]);go_enter Tryz.func12,Tryz.ntmps12;go_wp2;go_ret;exact⟨by rw[a.out];rfl,(Ext.refl _).alloc _⟩
 have a:=zH (show mayP (b,c,o,n)=false by simp[mayP,h]);go_enter Tryz.func12,Tryz.ntmps12;go_wp2;go_ret;exact⟨by rw[a.out];rfl,(Ext.refl _).alloc _⟩
end
end Go.Proofs.YtaabaflgeljbjaaGreat
