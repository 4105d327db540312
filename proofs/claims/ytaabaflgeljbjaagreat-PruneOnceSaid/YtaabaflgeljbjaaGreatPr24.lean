/- Laws. -/
import Derived.Test.YtaabaflgeljbjaaGreatPr22
import Derived.Test.YtaabaflgeljbjaaGreatPr11
import Derived.Test.YtaabaflgeljbjaaGreatPr23
import Derived.Test.YtaabaflgeljbjaaGreatPr05
import Derived.Test.YtaabaflgeljbjaaGreatPr15
set_option linter.unusedVariables false
set_option linter.unusedSimpArgs false
set_option maxRecDepth 100000
set_option maxHeartbeats 40000000
namespace Go.Proofs.YtaabaflgeljbjaaGreat
section
open Go.RowKit Go.Shelf
section
set_option maxRecDepth 100000
theorem zw4 (d:Nat) (x y:Mark) (w:World):(Op.equalIn (d+1+1) 97 (.agg #[St x.1,U x.2]) (.agg #[St y.1,U y.2])).run Tryz.prog w=.ok (decide (x=y)) w:=by
 have hS:Tryz.prog.underlying 97=some (.struct (Tryz.prog.fieldsOf 97)):=by kernel_rfl
 have hp:Tryz.prog.stoodInHeld 97=false:=by kernel_rfl
 have u1:=Tryz.underlying9;have u2:=Tryz.underlying27;have a1:=Tryz.isAgg9;have a2:=Tryz.isAgg27;have z1:=Tryz.sizeOf9;have z2:=Tryz.sizeOf27;rw [run_equalIn_agg w (d+1) 97 _ _ hS hp];simp only [Program.fieldsOf,Tryz.underlying97];go_simp;obtain⟨x1,x2⟩:=x;obtain⟨y1,y2⟩:=y
 by_cases h1:x1=y1
 ·by_cases h2:x2=y2
  ·subst h1;subst h2;simp
  ·subst h1;have h4:¬ (x2:Int)=y2:=fun e=>h2 (Int.ofNat_inj.1 e)
   simp [h4,h2]
 ·simp [h1]
theorem zuj (d:Nat) (x y:zag) (w:World):(Op.equalIn (d+1+1) 54 (.agg #[St x.1,U x.2.1,U x.2.2]) (.agg #[St y.1,U y.2.1,U y.2.2])).run Tryz.prog w=.ok (decide (x=y)) w:=by
 have hS:Tryz.prog.underlying 54=some (.struct (Tryz.prog.fieldsOf 54)):=by kernel_rfl
 have hp:Tryz.prog.stoodInHeld 54=false:=by kernel_rfl
 have u1:=Tryz.underlying9;have u2:=Tryz.underlying27;have a1:=Tryz.isAgg9;have a2:=Tryz.isAgg27;have z1:=Tryz.sizeOf9;have z2:=Tryz.sizeOf27;rw [run_equalIn_agg w (d+1) 54 _ _ hS hp];simp only [Program.fieldsOf,Tryz.underlying54];go_simp;obtain⟨x1,x2,x3⟩:=x;obtain⟨y1,y2,y3⟩:=y
 by_cases h1:x1=y1
 ·by_cases h2:x2=y2
  ·by_cases h3:x3=y3
   ·subst h1;subst h2;subst h3;simp
   ·subst h1;subst h2;have h4:¬ (x3:Int)=y3:=fun e=>h3 (Int.ofNat_inj.1 e)
    simp [h4,h3]
  ·subst h1;have h4:¬ (x2:Int)=y2:=fun e=>h2 (Int.ofNat_inj.1 e)
   simp [h4,h2]
 ·simp [h1]
theorem zkv (x y:Mark) (w:World):(binOp .neq 97 (.agg #[St x.1,U x.2]) (.agg #[St y.1,U y.2])).run Tryz.prog w=.ok (.bool (!decide (x=y))) w:=by
 rw [run_neq_struct,show (10000:Nat)=9998+1+1 from rfl,zw4];rfl
theorem zmg (x y:Dot) (w:World):(binOp .neq 59 (.agg #[St x.1,U x.2]) (.agg #[St y.1,U y.2])).run Tryz.prog w=.ok (.bool (!decide (x=y))) w:=by
 rw [run_neq_struct,show (10000:Nat)=9998+1+1 from rfl,zna];simp only [Result.andThen_ok]
 by_cases h:x=y
 ·subst h;rfl
 ·have h2:¬ y=x:=fun e=>h e.symm
  simp [h,h2]
theorem zju (x y:zag) (w:World):(binOp .neq 54 (.agg #[St x.1,U x.2.1,U x.2.2]) (.agg #[St y.1,U y.2.1,U y.2.2])).run Tryz.prog w=.ok (.bool (!decide (x=y))) w:=by
 rw [run_neq_struct,show (10000:Nat)=9998+1+1 from rfl,zuj];rfl
end
theorem zuk {S S':Nat->Prop} {va vb:Value} {A B:List (Mark)} {w:World} (ha:Sl markT w S va A) (hb:Sl markT w S' vb B) :
  Calls Tryz.prog 197 #[va,vb] w fun e w'=>e=.returned (.bool (decide (A=B)))/\Ext w w':=by
 have ha':=ha;have hb':=hb;obtain⟨Aa,ca,rfl,h1,h2⟩:=ha.form;obtain⟨Ab,cb,rfl,h3,h4⟩:=hb.form;clear ha hb
 by_cases hlen:A.length=B.length
 ·have HE:=zH hlen;have k0:((A.length:Int) != (B.length:Int))=false:=by simp [hlen]
  have k1:(A.length != B.length)=false:=by simp [hlen]
  have k2:((A.length:Int) == (B.length:Int))=true:=by simp [hlen]
  have HAT:=zH (fun (pre post:List (Mark)) (m:Mark) (wr:World) (h:Ext w wr) (hl:A=pre++m :: post)=>zf1 ha' h hl);have HBT:=zH (fun (pre post:List (Mark)) (m:Mark) (wr:World) (h:Ext w wr) (hl:B=pre++m :: post)=>zf1 hb' h hl);have hlb:A.length<=B.length:=by omega
  clear hlen ha' hb';go_enter Tryz.func197,Tryz.ntmps197;go_wp2_with fail;clear k0 k1 k2
  go_loopw [13] (fun i wr=>∃ pre pa pb,A=pre++pa/\B=pre++pb/\i=I pre.length/\Ext w wr) (fun i _=>A.length - (intOf i).toNat)
  case atStart=>exact⟨[],A,B,rfl,rfl,rfl,Ext.refl _⟩
  case round =>
   obtain⟨pre,pa,pb,hla,hlb2,rfl,hx⟩:=hrel;have hpp:pa.length=pb.length:=by have:=HE.out;rw [hla,hlb2] at this;simpa using this
   cases pa with
   | cons x pa =>
    cases pb with
    | nil=>simp at hpp
    | cons y pb =>
     obtain⟨b1,o1,rfl,hxa,hxb⟩:=HAT.out pre pa x wr hx hla;obtain⟨b2,o2,rfl,hya,hyb⟩:=HBT.out pre pb y wr hx hlb2;have hlt:pre.length < A.length:=(by rw [hla];simp);have hltb:pre.length < B.length:=(by rw [hlb2];simp);have HLA:=zH hla;have HLB:=zH hlb2;have HX:=zH hx;clear hla hlb2 hpp hx;have hgd:Tryz.prog.eqGuardType Tryz.prog.depth 97=false:=by kernel_rfl
     by_cases hxy:x=y
     ·subst hxy;have hne:=fun W=>zkv x x W
      simp only [decide_true,Bool.not_true] at hne;go_wp2_with fail;go_quiet (fail);go_wp2_with fail;go_roundw
      case rel=>exact⟨pre++[x],pa,pb,by rw [HLA.out];simp,by rw [HLB.out];simp,by simp,HX.out.drewN _⟩
      case measure=>simp [intOf];omega
     ·have hne:=fun W=>zkv x y W
      simp only [hxy,decide_false,Bool.not_false] at hne
      have HF:=zH (show decide (A=B)=false by rw [HLA.out,HLB.out];simp [hxy])
      clear hxy;go_wp2_with fail;go_quiet (fail);go_wp2_with fail;go_ret;exact⟨by rw [HF.out];rfl,HX.out.drewN _⟩
   | nil=>have hb0:pb = []:=List.eq_nil_of_length_eq_zero (by simpa using hpp.symm);subst hb0;rw [List.append_nil] at hla hlb2;have hl:A.length=pre.length:=(by rw [hla]);have HF:=zH (show decide (A=B)=true by rw [hla,hlb2];simp);have HX:=zH hx;clear hla hlb2 hpp hx;go_wp2_with fail;go_ret;exact⟨by rw [HF.out];rfl,HX.out⟩
 ·have HF:=zH (show decide (A=B)=false by simp;intro e;exact hlen (by rw [e]));have k0:((A.length:Int) != (B.length:Int))=true:=by simp;omega
  have k2:((A.length:Int) == (B.length:Int))=false:=by rw [beq_eq_false_iff_ne];omega
  clear ha' hb';go_enter Tryz.func197,Tryz.ntmps197;go_wp2_with fail;go_ret;exact⟨by rw [HF.out];rfl,Ext.refl _⟩
theorem zw5 {S S':Nat->Prop} {va vb:Value} {A B:List (Dot)} {w:World} (ha:Sl markT w S va A) (hb:Sl markT w S' vb B) :
  Calls Tryz.prog 201 #[va,vb] w fun e w'=>e=.returned (.bool (decide (A=B)))/\Ext w w':=by
 have ha':=ha;have hb':=hb;obtain⟨Aa,ca,rfl,h1,h2⟩:=ha.form;obtain⟨Ab,cb,rfl,h3,h4⟩:=hb.form;clear ha hb
 by_cases hlen:A.length=B.length
 ·have HE:=zH hlen;have k0:((A.length:Int) != (B.length:Int))=false:=by simp [hlen]
  have k1:(A.length != B.length)=false:=by simp [hlen]
  have k2:((A.length:Int) == (B.length:Int))=true:=by simp [hlen]
  have HAT:=zH (fun (pre post:List (Dot)) (m:Dot) (wr:World) (h:Ext w wr) (hl:A=pre++m :: post)=>zje ha' h hl);have HBT:=zH (fun (pre post:List (Dot)) (m:Dot) (wr:World) (h:Ext w wr) (hl:B=pre++m :: post)=>zje hb' h hl);have hlb:A.length<=B.length:=by omega
  clear hlen ha' hb';go_enter Tryz.func201,Tryz.ntmps201;go_wp2_with fail;clear k0 k1 k2
  go_loopw [13] (fun i wr=>∃ pre pa pb,A=pre++pa/\B=pre++pb/\i=I pre.length/\Ext w wr) (fun i _=>A.length - (intOf i).toNat)
  case atStart=>exact⟨[],A,B,rfl,rfl,rfl,Ext.refl _⟩
  case round =>
   obtain⟨pre,pa,pb,hla,hlb2,rfl,hx⟩:=hrel;have hpp:pa.length=pb.length:=by have:=HE.out;rw [hla,hlb2] at this;simpa using this
   cases pa with
   | cons x pa =>
    cases pb with
    | nil=>simp at hpp
    | cons y pb =>
     obtain⟨b1,o1,rfl,hxa,hxb⟩:=HAT.out pre pa x wr hx hla;obtain⟨b2,o2,rfl,hya,hyb⟩:=HBT.out pre pb y wr hx hlb2;have hlt:pre.length < A.length:=(by rw [hla];simp);have hltb:pre.length < B.length:=(by rw [hlb2];simp);have HLA:=zH hla;have HLB:=zH hlb2;have HX:=zH hx;clear hla hlb2 hpp hx;have hgd:Tryz.prog.eqGuardType Tryz.prog.depth 59=false:=by kernel_rfl
     by_cases hxy:x=y
     ·subst hxy;have hne:=fun W=>zmg x x W
      simp only [decide_true,Bool.not_true] at hne;go_wp2_with fail;go_quiet (fail);go_wp2_with fail;go_roundw
      case rel=>exact⟨pre++[x],pa,pb,by rw [HLA.out];simp,by rw [HLB.out];simp,by simp,HX.out.drewN _⟩
      case measure=>simp [intOf];omega
     ·have hne:=fun W=>zmg x y W
      simp only [hxy,decide_false,Bool.not_false] at hne
      have HF:=zH (show decide (A=B)=false by rw [HLA.out,HLB.out];simp [hxy])
      clear hxy;go_wp2_with fail;go_quiet (fail);go_wp2_with fail;go_ret;exact⟨by rw [HF.out];rfl,HX.out.drewN _⟩
   | nil=>have hb0:pb = []:=List.eq_nil_of_length_eq_zero (by simpa using hpp.symm);subst hb0;rw [List.append_nil] at hla hlb2;have hl:A.length=pre.length:=(by rw [hla]);have HF:=zH (show decide (A=B)=true by rw [hla,hlb2];simp);have HX:=zH hx;clear hla hlb2 hpp hx;go_wp2_with fail;go_ret;exact⟨by rw [HF.out];rfl,HX.out⟩
 ·have HF:=zH (show decide (A=B)=false by simp;intro e;exact hlen (by rw [e]));have k0:((A.length:Int) != (B.length:Int))=true:=by simp;omega
  have k2:((A.length:Int) == (B.length:Int))=false:=by rw [beq_eq_false_iff_ne];omega
  clear ha' hb';go_enter Tryz.func201,Tryz.ntmps201;go_wp2_with fail;go_ret;exact⟨by rw [HF.out];rfl,Ext.refl _⟩
theorem zsv {S S':Nat->Prop} {va vb:Value} {A B:List (zag)} {w:World} (ha:Sl zcl w S va A) (hb:Sl zcl w S' vb B) :
  Calls Tryz.prog 198 #[va,vb] w fun e w'=>e=.returned (.bool (decide (A=B)))/\Ext w w':=by
 have ha':=ha;have hb':=hb;obtain⟨Aa,ca,rfl,h1,h2⟩:=ha.form;obtain⟨Ab,cb,rfl,h3,h4⟩:=hb.form;clear ha hb
 by_cases hlen:A.length=B.length
 ·have HE:=zH hlen;have k0:((A.length:Int) != (B.length:Int))=false:=by simp [hlen]
  have k1:(A.length != B.length)=false:=by simp [hlen]
  have k2:((A.length:Int) == (B.length:Int))=true:=by simp [hlen]
  have HAT:=zH (fun (pre post:List (zag)) (m:zag) (wr:World) (h:Ext w wr) (hl:A=pre++m :: post)=>zgg ha' h hl);have HBT:=zH (fun (pre post:List (zag)) (m:zag) (wr:World) (h:Ext w wr) (hl:B=pre++m :: post)=>zgg hb' h hl);have hlb:A.length<=B.length:=by omega
  clear hlen ha' hb';go_enter Tryz.func198,Tryz.ntmps198;go_wp2_with fail;clear k0 k1 k2
  go_loopw [13] (fun i wr=>∃ pre pa pb,A=pre++pa/\B=pre++pb/\i=I pre.length/\Ext w wr) (fun i _=>A.length - (intOf i).toNat)
  case atStart=>exact⟨[],A,B,rfl,rfl,rfl,Ext.refl _⟩
  case round =>
   obtain⟨pre,pa,pb,hla,hlb2,rfl,hx⟩:=hrel;have hpp:pa.length=pb.length:=by have:=HE.out;rw [hla,hlb2] at this;simpa using this
   cases pa with
   | cons x pa =>
    cases pb with
    | nil=>simp at hpp
    | cons y pb =>
     obtain⟨b1,o1,rfl,hxa,hxb,hxc⟩:=HAT.out pre pa x wr hx hla;obtain⟨b2,o2,rfl,hya,hyb,hyc⟩:=HBT.out pre pb y wr hx hlb2;have hlt:pre.length < A.length:=(by rw [hla];simp);have hltb:pre.length < B.length:=(by rw [hlb2];simp);have HLA:=zH hla;have HLB:=zH hlb2;have HX:=zH hx;clear hla hlb2 hpp hx;have hgd:Tryz.prog.eqGuardType Tryz.prog.depth 54=false:=by kernel_rfl
     by_cases hxy:x=y
     ·subst hxy;have hne:=fun W=>zju x x W
      simp only [decide_true,Bool.not_true] at hne;go_wp2_with fail;go_quiet (fail);go_wp2_with fail;go_roundw
      case rel=>exact⟨pre++[x],pa,pb,by rw [HLA.out];simp,by rw [HLB.out];simp,by simp,HX.out.drewN _⟩
      case measure=>simp [intOf];omega
     ·have hne:=fun W=>zju x y W
      simp only [hxy,decide_false,Bool.not_false] at hne
      have HF:=zH (show decide (A=B)=false by rw [HLA.out,HLB.out];simp [hxy])
      clear hxy;go_wp2_with fail;go_quiet (fail);go_wp2_with fail;go_ret;exact⟨by rw [HF.out];rfl,HX.out.drewN _⟩
   | nil=>have hb0:pb = []:=List.eq_nil_of_length_eq_zero (by simpa using hpp.symm);subst hb0;rw [List.append_nil] at hla hlb2;have hl:A.length=pre.length:=(by rw [hla]);have HF:=zH (show decide (A=B)=true by rw [hla,hlb2];simp);have HX:=zH hx;clear hla hlb2 hpp hx;go_wp2_with fail;go_ret;exact⟨by rw [HF.out];rfl,HX.out⟩
 ·have HF:=zH (show decide (A=B)=false by simp;intro e;exact hlen (by rw [e]));have k0:((A.length:Int) != (B.length:Int))=true:=by simp;omega
  have k2:((A.length:Int) == (B.length:Int))=false:=by rw [beq_eq_false_iff_ne];omega
  clear ha' hb';go_enter Tryz.func198,Tryz.ntmps198;go_wp2_with fail;go_ret;exact⟨by rw [HF.out];rfl,Ext.refl _⟩
def ze9 (a b:Item):Bool:=decide (a=b)
theorem zxd {S S':Nat->Prop} {va vb:Value} {a b:Item} {w:World} (ha:Sl markT w S va a.2) (hb:Sl markT w S' vb b.2) :
  Calls Tryz.prog 200 #[.agg #[St a.1,va],.agg #[St b.1,vb]] w fun e w'=>e=.returned (.bool (ze9 a b))/\Ext w w':=by
 obtain⟨at_,ad⟩:=a;obtain⟨bt,bd⟩:=b;have hx:=((Ext.refl w).alloc (.cells #[St at_,va] 57)).alloc (.cells #[St bt,vb] 57);have H:=zH (zw5 (ha.ext (by decide) hx) (hb.ext (by decide) hx));obtain⟨Aa,ca,rfl,-,-⟩:=ha.form;obtain⟨Ab,cb,rfl,-,-⟩:=hb.form;clear ha hb
 by_cases h:at_=bt
 ·subst h;have HF:=zH (show ze9 (at_,ad) (at_,bd)=decide (ad=bd) by simp [ze9]);go_enter Tryz.func200,Tryz.ntmps200;go_wp2_with fail;refine H.out.mono ?_;rintro e w2 ⟨rfl,hx2⟩;go_wp2;go_ret;exact⟨by rw [HF.out];rfl,hx.trans hx2⟩
 ·have HF:=zH (show ze9 (at_,ad) (bt,bd)=false by simp [ze9,h]);have h1:(at_ == bt)=false:=by simpa using h
  clear h;go_enter Tryz.func200,Tryz.ntmps200;go_wp2;go_ret;exact⟨by rw [HF.out];rfl,hx⟩
theorem zoz {S S':Nat->Prop} {va vb:Value} {A B:List Item} {w:World} (ha:Sl itemT w S va A) (hb:Sl itemT w S' vb B) :
  Calls Tryz.prog 199 #[va,vb,.func (.func 200) #[] #[]] w fun e w'=>e=.returned (.bool (decide (A=B)))/\Ext w w':=by
 have ha':=ha;have hb':=hb;obtain⟨Aa,ca,rfl,h1,h2⟩:=ha.form;obtain⟨Ab,cb,rfl,h3,h4⟩:=hb.form;have eg:∀ args w,(callFunc 200 args).run Tryz.prog w=.ok (.enter 200 args) w:=enters_of Tryz.func200 (by kernel_rfl) rfl;clear ha hb
 by_cases hlen:A.length=B.length
 ·have HE:=zH hlen;have k0:((A.length:Int) != (B.length:Int))=false:=by simp [hlen]
  have k1:(A.length != B.length)=false:=by simp [hlen]
  have k2:((A.length:Int) == (B.length:Int))=true:=by simp [hlen]
  have HAT:=zH (fun (pre post:List Item) (m:Item) (wr:World) (h:Ext w wr) (hl:A=pre++m :: post)=>zgr ha' h hl);have HBT:=zH (fun (pre post:List Item) (m:Item) (wr:World) (h:Ext w wr) (hl:B=pre++m :: post)=>zgr hb' h hl);have hlb:A.length<=B.length:=by omega
  have HS1:=zH (fun (S S':Nat->Prop) (va vb:Value) (a b:Item) (W:World)=>@zxd S S' va vb a b W);clear hlen ha' hb';go_enter Tryz.func199,Tryz.ntmps199;go_wp2_with fail;clear k0 k1 k2
  go_loopw [17] (fun i wr=>∃ pre pa pb,A=pre++pa/\B=pre++pb/\i=I pre.length/\Ext w wr) (fun i _=>A.length - (intOf i).toNat)
  case atStart=>exact⟨[],A,B,rfl,rfl,rfl,Ext.refl _⟩
  case round =>
   obtain⟨pre,pa,pb,hla,hlb2,rfl,hx⟩:=hrel;have hpp:pa.length=pb.length:=by have:=HE.out;rw [hla,hlb2] at this;simpa using this
   cases pa with
   | cons x pa =>
    cases pb with
    | nil=>simp at hpp
    | cons y pb =>
     obtain⟨b1,o1,vx,rfl,hxa,hxb,hsx⟩:=HAT.out pre pa x wr hx hla;obtain⟨b2,o2,vy,rfl,hya,hyb,hsy⟩:=HBT.out pre pb y wr hx hlb2;have hlt:pre.length < A.length:=(by rw [hla];simp);have hltb:pre.length < B.length:=(by rw [hlb2];simp);have HLA:=zH hla;have HLB:=zH hlb2;have HX:=zH hx;have hx0:=hx.trans (((Ext.refl wr).alloc (.cells #[St x.1,vx] 57)).alloc (.cells #[St y.1,vy] 57));have hyc:=((Ext.refl wr).alloc (.cells #[St x.1,vx] 57)).cell hya;have hyd:=((Ext.refl wr).alloc (.cells #[St x.1,vx] 57)).cell hyb;have HC:=zH (HS1.out _ _ _ _ _ _ _ (hsx.ext (by decide) hx0) (hsy.ext (by decide) hx0));have HX0:=zH hx0;obtain⟨Ax,cx,rfl,-,-⟩:=hsx.form;obtain⟨Ay,cy,rfl,-,-⟩:=hsy.form;clear hla hlb2 hpp hx hsx hsy hx0
     by_cases hxy:x=y
     ·subst hxy;go_wp2_with fail;refine HC.out.mono ?_;rintro e w2 ⟨rfl,hx2⟩;rw [show ze9 x x=true by simp [ze9]];go_wp2_with fail;go_roundw
      case rel=>exact⟨pre++[x],pa,pb,by rw [HLA.out];simp,by rw [HLB.out];simp,by simp,HX0.out.trans hx2⟩
      case measure=>simp [intOf];omega
     ·have HF:=zH (show decide (A=B)=false by
       rw [HLA.out,HLB.out];simp [hxy])
      have HXY:=zH hxy;clear hxy;go_wp2_with fail;refine HC.out.mono ?_;rintro e w2 ⟨rfl,hx2⟩;rw [show ze9 x y=false by simp [ze9,HXY.out]];go_wp2_with fail;go_ret;exact⟨by rw [HF.out];rfl,HX0.out.trans hx2⟩
   | nil=>have hb0:pb = []:=List.eq_nil_of_length_eq_zero (by simpa using hpp.symm);subst hb0;rw [List.append_nil] at hla hlb2;have hl:A.length=pre.length:=(by rw [hla]);have HF:=zH (show decide (A=B)=true by rw [hla,hlb2];simp);have HX:=zH hx;clear hla hlb2 hpp hx;go_wp2_with fail;go_ret;exact⟨by rw [HF.out];rfl,HX.out⟩
 ·have HF:=zH (show decide (A=B)=false by simp;intro e;exact hlen (by rw [e]));have k0:((A.length:Int) != (B.length:Int))=true:=by simp;omega
  have k2:((A.length:Int) == (B.length:Int))=false:=by rw [beq_eq_false_iff_ne];omega
  clear ha' hb';go_enter Tryz.func199,Tryz.ntmps199;go_wp2_with fail;go_ret;exact⟨by rw [HF.out];rfl,Ext.refl _⟩
abbrev entC (e:Entry) (v1 v2 v3:Value):Array Value:=#[St e.key,v1,v2,v3,U e.cell.1,St e.cell.2.1,.bool e.cell.2.2]
abbrev entV (e:Entry) (v1 v2 v3:Value):Value:=.agg (entC e v1 v2 v3)
structure EntAt (w:World) (S:Nat->Prop) (e:Entry) (v1 v2 v3:Value):Prop where
 seen:Sl markT w S v1 e.seen
 counts:Sl zcl w S v2 e.counts
 items:Sl itemT w S v3 e.items
theorem EntAt.fm {w:World} {S:Nat→Prop} {e:Entry} {v1 v2 v3:Value} (h:EntAt w S e v1 v2 v3):∃ A a B b C c,v1=.slice A e.seen.length a∧v2=.slice B e.counts.length b∧v3=.slice C e.items.length c:=by obtain⟨A,a,h1,-,-⟩:=h.seen.form;obtain⟨B,b,h2,-,-⟩:=h.counts.form;obtain⟨C,c,h3,-,-⟩:=h.items.form;exact⟨A,a,B,b,C,c,h1,h2,h3⟩
theorem EntAt.ext {w w':World} {S:Nat->Prop} {e:Entry} {v1 v2 v3:Value} (h:EntAt w S e v1 v2 v3) (he:Ext w w'):EntAt w' S e v1 v2 v3 :=
 ⟨h.seen.ext (by decide) he,h.counts.ext (by decide) he,h.items.ext (by decide) he⟩
theorem EntAt.mono {w:World} {S S':Nat->Prop} {e:Entry} {v1 v2 v3:Value} (h:EntAt w S e v1 v2 v3) (hs:∀ b,b < w.heap.size->S b->S' b):EntAt w S' e v1 v2 v3 :=
 ⟨h.seen.mono (by decide) hs,h.counts.mono (by decide) hs,h.items.mono (by decide) hs⟩
section
set_option maxRecDepth 100000
theorem zxe (d:Nat) (x y:Cell) (w:World):(Op.equalIn (d+1+1) 44 (.agg #[U x.1,St x.2.1,.bool x.2.2]) (.agg #[U y.1,St y.2.1,.bool y.2.2])).run Tryz.prog w=.ok (decide (x=y)) w:=by
 have hS:Tryz.prog.underlying 44=some (.struct (Tryz.prog.fieldsOf 44)):=by kernel_rfl
 have hp:Tryz.prog.stoodInHeld 44=false:=by kernel_rfl
 have u1:=Tryz.underlying9;have u2:=Tryz.underlying27;have u3:=Tryz.underlying4;have a1:=Tryz.isAgg9;have a2:=Tryz.isAgg27;have a3:=Tryz.isAgg4;have z1:=Tryz.sizeOf9;have z2:=Tryz.sizeOf27;have z3:=Tryz.sizeOf4;rw [run_equalIn_agg w (d+1) 44 _ _ hS hp];simp only [Program.fieldsOf,Tryz.underlying44];go_simp;obtain⟨x1,x2,x3⟩:=x;obtain⟨y1,y2,y3⟩:=y
 by_cases h1:x1=y1
 ·by_cases h2:x2=y2
  ·subst h1;subst h2;cases x3 <;> cases y3 <;> simp
  ·subst h1;simp [h2]
 ·have h4:¬ (x1:Int)=y1:=fun e=>h1 (Int.ofNat_inj.1 e)
  simp [h4,h1]
theorem znc (x y:Cell) (w:World):(binOp .eql 44 (.agg #[U x.1,St x.2.1,.bool x.2.2]) (.agg #[U y.1,St y.2.1,.bool y.2.2])).run Tryz.prog w=.ok (.bool (decide (x=y))) w:=by
 rw [run_eql_struct,show (10000:Nat)=9998+1+1 from rfl,zxe];rfl
end
def zbl (a b:Entry):Bool:=decide (a.key=b.key) && (decide (a.cell=b.cell) && (decide (a.seen=b.seen) && (decide (a.counts=b.counts) && decide (a.items=b.items))))
theorem sameE_iff {a b:Entry}:zbl a b=true↔a=b:=by
 unfold zbl;obtain⟨a1,a2,a3,a4,a5⟩:=a;obtain⟨b1,b2,b3,b4,b5⟩:=b;simp only [Bool.and_eq_true,decide_eq_true_eq,Entry.mk.injEq]
 constructor
 ·rintro⟨h1,h2,h3,h4,h5⟩;exact⟨h1,h3,h4,h5,h2⟩
 ·rintro⟨h1,h3,h4,h5,h2⟩;exact⟨h1,h2,h3,h4,h5⟩
theorem zxf {S S':Nat->Prop} {a b:Entry} {a1 a2 a3 b1 b2 b3:Value} {w:World} (ha:EntAt w S a a1 a2 a3) (hb:EntAt w S' b b1 b2 b3) :
  Calls Tryz.prog 153 #[entV a a1 a2 a3,entV b b1 b2 b3] w fun e w'=>e=.returned (.bool (zbl a b))/\Ext w w':=by
 have hgd:Tryz.prog.eqGuardType Tryz.prog.depth 44=false:=by kernel_rfl
 obtain⟨ak,ae,ac,ai,x1,x2,x3⟩:=a;obtain⟨bk,bs,bc,bi,y1,y2,y3⟩:=b;have hx:=((Ext.refl w).alloc (.cells (entC ⟨ak,ae,ac,ai,x1,x2,x3⟩ a1 a2 a3) 46)).alloc (.cells (entC ⟨bk,bs,bc,bi,y1,y2,y3⟩ b1 b2 b3) 46);have HA:=zH ha;have HB:=zH hb;obtain⟨A1,n1,A2,n2,A3,n3,rfl,rfl,rfl⟩:=ha.fm;obtain⟨B1,m1,B2,m2,B3,m3,rfl,rfl,rfl⟩:=hb.fm;clear ha hb
 by_cases hk:ak=bk
 ·by_cases hc1:x1=y1
  ·by_cases hc2:x2=y2
   ·by_cases hc3:x3=y3
    ·subst hk hc1 hc2 hc3;have HD2:=zH (show zbl ⟨ak,ae,ac,ai,x1,x2,x3⟩ ⟨ak,bs,bc,bi,x1,x2,x3⟩=(decide (ae=bs) && (decide (ac=bc) && decide (ai=bi))) by simp [zbl]);have H1:=zH (zuk (HA.out.seen.ext (by decide) hx) (HB.out.seen.ext (by decide) hx));have c2:((w.alloc (.cells (entC ⟨ak,ae,ac,ai,x1,x2,x3⟩ (.slice A1 ae.length n1) (.slice A2 ac.length n2) (.slice A3 ai.length n3)) 46)).alloc (.cells (entC ⟨ak,bs,bc,bi,x1,x2,x3⟩ (.slice B1 bs.length m1) (.slice B2 bc.length m2) (.slice B3 bi.length m3)) 46)).cell? ⟨w.heap.size,2,none⟩=some (.slice A2 ac.length n2):=(by simp [go_sem]);have c3:((w.alloc (.cells (entC ⟨ak,ae,ac,ai,x1,x2,x3⟩ (.slice A1 ae.length n1) (.slice A2 ac.length n2) (.slice A3 ai.length n3)) 46)).alloc (.cells (entC ⟨ak,bs,bc,bi,x1,x2,x3⟩ (.slice B1 bs.length m1) (.slice B2 bc.length m2) (.slice B3 bi.length m3)) 46)).cell? ⟨w.heap.size,3,none⟩=some (.slice A3 ai.length n3):=(by simp [go_sem]);have d2:((w.alloc (.cells (entC ⟨ak,ae,ac,ai,x1,x2,x3⟩ (.slice A1 ae.length n1) (.slice A2 ac.length n2) (.slice A3 ai.length n3)) 46)).alloc (.cells (entC ⟨ak,bs,bc,bi,x1,x2,x3⟩ (.slice B1 bs.length m1) (.slice B2 bc.length m2) (.slice B3 bi.length m3)) 46)).cell? ⟨w.heap.size+1,2,none⟩=some (.slice B2 bc.length m2):=(by simp [go_sem]);have d3:((w.alloc (.cells (entC ⟨ak,ae,ac,ai,x1,x2,x3⟩ (.slice A1 ae.length n1) (.slice A2 ac.length n2) (.slice A3 ai.length n3)) 46)).alloc (.cells (entC ⟨ak,bs,bc,bi,x1,x2,x3⟩ (.slice B1 bs.length m1) (.slice B2 bc.length m2) (.slice B3 bi.length m3)) 46)).cell? ⟨w.heap.size+1,3,none⟩=some (.slice B3 bi.length m3):=(by simp [go_sem]);go_enter Tryz.func153,Tryz.ntmps153;go_wp2_with fail;refine H1.out.mono ?_;rintro e w2 ⟨rfl,hx2⟩;have e2:=hx2.cell c2;have e3:=hx2.cell c3;have f2:=hx2.cell d2;have f3:=hx2.cell d3;have hx02:=hx.trans hx2;have H2:=zH (zsv (HA.out.counts.ext (by decide) hx02) (HB.out.counts.ext (by decide) hx02));clear c2 c3 d2 d3 hx2
     by_cases h1:ae=bs
     ·have HD3:=zH (show zbl ⟨ak,ae,ac,ai,x1,x2,x3⟩ ⟨ak,bs,bc,bi,x1,x2,x3⟩=(decide (ac=bc) && decide (ai=bi)) by rw [HD2.out];simp [h1]);rw [decide_eq_true h1];clear h1;go_wp2_with fail;refine H2.out.mono ?_;rintro e w3 ⟨rfl,hx3⟩;have g3:=hx3.cell e3;have i3:=hx3.cell f3;have hx03:=hx02.trans hx3;have H3:=zH (zoz (HA.out.items.ext (by decide) hx03) (HB.out.items.ext (by decide) hx03));clear e2 e3 f2 f3 hx3
      by_cases h2:ac=bc
      ·have HD4:=zH (show zbl ⟨ak,ae,ac,ai,x1,x2,x3⟩ ⟨ak,bs,bc,bi,x1,x2,x3⟩=decide (ai=bi) by rw [HD3.out];simp [h2]);rw [decide_eq_true h2];clear h2;go_wp2_with fail;refine H3.out.mono ?_;rintro e w4 ⟨rfl,hx4⟩;go_wp2_with fail;go_ret;exact⟨by rw [HD4.out];rfl,hx03.trans hx4⟩
      ·have HD4:=zH (show zbl ⟨ak,ae,ac,ai,x1,x2,x3⟩ ⟨ak,bs,bc,bi,x1,x2,x3⟩=false by rw [HD3.out];simp [h2]);rw [decide_eq_false h2];clear h2;go_wp2_with fail;go_ret;exact⟨by rw [HD4.out];rfl,hx03⟩
     ·have HD3:=zH (show zbl ⟨ak,ae,ac,ai,x1,x2,x3⟩ ⟨ak,bs,bc,bi,x1,x2,x3⟩=false by rw [HD2.out];simp [h1]);rw [decide_eq_false h1];clear h1;go_wp2_with fail;go_ret;exact⟨by rw [HD3.out];rfl,hx02⟩
    ·subst hk hc1 hc2;have HD:=zH (show zbl ⟨ak,ae,ac,ai,x1,x2,x3⟩ ⟨ak,bs,bc,bi,x1,x2,y3⟩=false by simp [zbl,hc3]);cases x3 <;> cases y3
     all_goals first | exact absurd rfl hc3 | skip
     all_goals
      clear hc3;go_enter Tryz.func153,Tryz.ntmps153;go_wp2_with fail;go_ret;exact⟨by rw [HD.out];rfl,hx⟩
   ·subst hk hc1;have HD:=zH (show zbl ⟨ak,ae,ac,ai,x1,x2,x3⟩ ⟨ak,bs,bc,bi,x1,y2,y3⟩=false by simp [zbl,hc2]);have k1:(x2 == y2)=false:=(by simpa using hc2);clear hc2;go_enter Tryz.func153,Tryz.ntmps153;go_wp2_with fail;go_ret;exact⟨by rw [HD.out];rfl,hx⟩
  ·subst hk;have HD:=zH (show zbl ⟨ak,ae,ac,ai,x1,x2,x3⟩ ⟨ak,bs,bc,bi,y1,y2,y3⟩=false by simp [zbl,hc1]);have k1:((x1:Int) == (y1:Int))=false:=(by rw [beq_eq_false_iff_ne];omega);clear hc1;go_enter Tryz.func153,Tryz.ntmps153;go_wp2_with fail;go_ret;exact⟨by rw [HD.out];rfl,hx⟩
 ·have HD:=zH (show zbl ⟨ak,ae,ac,ai,x1,x2,x3⟩ ⟨bk,bs,bc,bi,y1,y2,y3⟩=false by simp [zbl,hk]);have k1:(ak == bk)=false:=by simpa using hk
  clear hk;go_enter Tryz.func153,Tryz.ntmps153;go_wp2_with fail;go_ret;exact⟨by rw [HD.out];rfl,hx⟩
def zak:Entry:=⟨[],[],[],[],0,[],false⟩
theorem zpm {S:Nat->Prop} {a:Entry} {a1 a2 a3:Value} {w:World} (ha:EntAt w S a a1 a2 a3) :
  Calls Tryz.prog 110 #[entV a a1 a2 a3] w fun e w'=>e=.returned (.bool (zbl a zak))/\Ext w w':=by
 have hx:=(Ext.refl w).alloc (.cells (entC a a1 a2 a3) 46)
 have hn:EntAt (w.alloc (.cells (entC a a1 a2 a3) 46)) (fun _=>False) zak (.slice none 0 0) (.slice none 0 0) (.slice none 0 0) :=
  ⟨Sl.nil (T:=markT) none 0 (by omega),Sl.nil (T:=zcl) none 0 (by omega),Sl.nil (T:=itemT) none 0 (by omega)⟩
 have H1:=zH (zxf (ha.ext hx) hn);obtain⟨A1,n1,A2,n2,A3,n3,rfl,rfl,rfl⟩:=ha.fm;clear ha hn;go_enter Tryz.func110,Tryz.ntmps110;go_wp2_with fail;refine H1.out.mono ?_;rintro e w2 ⟨rfl,hx2⟩;go_wp2_with fail;go_ret;exact⟨rfl,hx.trans hx2⟩
def HalfRow (W:World) (base:Nat) (S:Nat->Prop) (v:Value) (A B:List Item):Prop :=
 ∃ va vb:List (List Value),va.length=A.length/\vb.length=B.length/\(∀ (i:Nat) x vs,A[i]? = some x->va[i]? = some vs->itemT.rd W (fun b=>base<=b/\¬ zad v b) x vs)/\(∀ (i:Nat) x vs,B[i]? = some x->vb[i]? = some vs->itemT.rd W S x vs) /\
  Own W base 57 2 v (A.length+B.length) (va.flatten++vb.flatten)
theorem HalfRow.start {W:World} {base:Nat} {S:Nat->Prop} {v:Value} {B:List Item} (h:OwnL itemT 57 W base S v B):HalfRow W base S v [] B:=by
 obtain⟨vss,h1,h2,h3⟩:=h;refine ⟨[],vss,rfl,h1,by simp,h2,?_⟩;simp only [List.length_nil,Nat.zero_add,List.flatten_nil,List.nil_append];exact h3
theorem HalfRow.done {W:World} {base:Nat} {S:Nat->Prop} {v:Value} {A:List Item} (h:HalfRow W base S v A []):OwnL itemT 57 W base (fun b=>base<=b) v A:=by
 obtain⟨va,vb,h1,h2,h3,h4,h5⟩:=h;obtain rfl:vb = []:=List.eq_nil_of_length_eq_zero h2;refine ⟨va,h1,fun i x vs hx hv=>itemT.mono (h3 i x vs hx hv) (fun b _ h=>h.1),?_⟩;simp only [List.length_nil,Nat.add_zero,List.flatten_nil,List.append_nil] at h5;exact h5
theorem HalfRow.ext {W W':World} {base:Nat} {S:Nat->Prop} {v:Value} {A B:List Item} (h:HalfRow W base S v A B) (he:Ext W W'):HalfRow W' base S v A B:=by
 obtain⟨va,vb,h1,h2,h3,h4,h5⟩:=h;exact⟨va,vb,h1,h2,fun i x vs hx hv=>itemT.keep (h3 i x vs hx hv) (fun b _ hb=>he.block b hb),fun i x vs hx hv=>itemT.keep (h4 i x vs hx hv) (fun b _ hb=>he.block b hb),h5.ext he⟩
theorem HalfRow.next {W:World} {base:Nat} {S:Nat->Prop} {v:Value} {A B:List Item} {it:Item} (h:HalfRow W base S v A (it :: B)) :
  ∃ g cap dv,v=.slice (some ⟨g,0,none⟩) (A.length+(B.length+1)) cap/\A.length+(B.length+1)<=cap/\cap<=9223372036854775807/\base<=g/\W.cell? ⟨g,A.length * 2+1,none⟩=some dv/\W.frozen? ⟨g,A.length * 2+1,none⟩=false/\Sl markT W S dv it.2:=by
 obtain⟨va,vb,h1,h2,h3,h4,h5⟩:=h
 cases vb with
 | nil=>simp at h2
 | cons c vb =>
  obtain⟨dv,rfl,hs⟩:=h4 0 it c rfl rfl;have hf:=zh7 h1 h3;obtain⟨g,cap,tail,rfl,hg,hrow,hc,hm,hl⟩:=h5.row (by simp;omega);have e1:(va.flatten++([St it.1,dv] :: vb).flatten)[A.length * 2+1]? = some dv:=by rw [<- hf,List.getElem?_append_right (by omega)];simp
  exact⟨g,cap,dv,rfl,hc,hm,hg,hrow.cell e1,hrow.frozen _,hs⟩
theorem HalfRow.put {W:World} {base g cap b0:Nat} {S:Nat->Prop} {A B:List Item} {it:Item} {dv':Value} (hk:∀ b,S b->b < base) (h:HalfRow W base S (.slice (some ⟨g,0,none⟩) (A.length+(B.length+1)) cap) A (it :: B))
  (hown:Own W b0 59 2 dv' it.2.length (it.2.flatMap zaj)) (hb0:base<=b0) (hg0:g < b0) :
  HalfRow (W.setCell ⟨g,A.length * 2+1,none⟩ dv') base S (.slice (some ⟨g,0,none⟩) (A.length+(B.length+1)) cap) (A++[it]) B:=by
 obtain⟨va,vb,h1,h2,h3,h4,h5⟩:=h
 cases vb with
 | nil=>simp at h2
 | cons c vb =>
  obtain⟨dv,rfl,hs⟩:=h4 0 it c rfl rfl;have hf:=zh7 h1 h3;obtain⟨g',cap',tail,e,hbg,hrow,hc,hm,hl⟩:=h5.row (by simp;omega);cases e;have hc0:A.length+(B.length+1)<=cap:=hc;have hog:zad (.slice (some ⟨g,0,none⟩) (A.length+(B.length+1)) cap) g:=⟨g,_,_,rfl,by omega,rfl⟩
  have hset:=hrow.set (j:=A.length * 2+1) (by simp [hf]) dv'
  have e1:(va.flatten++([St it.1,dv] :: vb).flatten).set (A.length * 2+1) dv'=(va++[[St it.1,dv']]).flatten++vb.flatten:=by rw [<- hf,List.set_append_right _ _ (by omega)];simp
  rw [e1] at hset;have hfb:(vb.flatten).length=B.length * 2:=zh7 (W:=W) (S:=S) (by simpa using h2) (fun i x vs hx hv=>h4 (i+1) x vs hx hv)
  have hown':Own (W.setCell ⟨g,A.length * 2+1,none⟩ dv') b0 59 2 dv' it.2.length (it.2.flatMap zaj) :=
   hown.keep fun b hb hlt=>Below.heap_setCell _ _ _ _ (fun e=>by have:=(hown.base_le hb).1;have e2:b=g:=e;omega)
  refine ⟨va++[[St it.1,dv']],vb,by simp [h1],by simpa using h2,fun i x vs hx hv=>?_,fun i x vs hx hv=>?_,?_⟩
  ·by_cases hil:i < A.length
   ·rw [List.getElem?_append_left hil] at hx;rw [List.getElem?_append_left (by omega)] at hv;exact itemT.keep (h3 i x vs hx hv) fun b hb _=>Below.heap_setCell _ _ _ _ (fun e=>hb.2 (e ▸ hog))
   ·rw [List.getElem?_append_right (by omega)] at hx;rw [List.getElem?_append_right (by omega)] at hv
    have hi0:i - A.length=0:=by have:=(List.getElem?_eq_some_iff.1 hx).1;simp at this;exact this
    rw [hi0] at hx;rw [h1,hi0] at hv;simp at hx hv;subst hx;subst hv;refine ⟨dv',rfl,hown'.slOwn.mono (by decide) fun b hlt hb=>?_⟩;have:=(hown'.base_le hb).1;exact⟨by omega,fun ⟨g2,n2,c2,e,_,e2⟩=>by cases e;omega⟩
  ·exact itemT.keep (h4 (i+1) x vs hx hv) fun b hb _=>Below.heap_setCell _ _ _ _ (fun e=>by have:=hk b hb;have e2:b=g:=e;omega)
  ·have hlen:((va++[[St it.1,dv']]).flatten++vb.flatten).length=(A.length+(B.length+1)) * 2:=by simp [hf,hfb];omega
   have:=hset.own (k:=2) (n:=A.length+(B.length+1)) hbg hc hm (by simp only [List.length_append] at hl hlen ⊢;simp [hf,hfb] at hl ⊢;omega) (List.take_of_length_le (by rw [hlen];exact Nat.le_refl _)) hlen
   rw [show (A++[it]).length+B.length=A.length+(B.length+1) by simp;omega];exact this
structure EntNew (w:World) (base:Nat) (e:Entry) (v1 v2 v3:Value):Prop where
 seen:Own w base 97 2 v1 e.seen.length (e.seen.flatMap zaj)
 counts:Own w base 54 3 v2 e.counts.length (e.counts.flatMap zbx)
 items:OwnL itemT 57 w base (fun b=>base<=b) v3 e.items
theorem EntNew.fm {w:World} {S:Nat} {e:Entry} {v1 v2 v3:Value} (h:EntNew w S e v1 v2 v3):∃ A a B b C c,v1=.slice A e.seen.length a∧v2=.slice B e.counts.length b∧v3=.slice C e.items.length c:=by obtain⟨A,a,h1,-,-⟩:=h.seen.form;obtain⟨B,b,h2,-,-⟩:=h.counts.form;obtain⟨C,c,h3,-,-⟩:=h.items.form;exact⟨A,a,B,b,C,c,h1,h2,h3⟩
theorem EntNew.ext {w w':World} {base:Nat} {e:Entry} {v1 v2 v3:Value} (h:EntNew w base e v1 v2 v3) (he:Ext w w'):EntNew w' base e v1 v2 v3:=⟨h.seen.ext he,h.counts.ext he,h.items.ext he⟩
theorem EntNew.lower {w:World} {base base':Nat} {e:Entry} {v1 v2 v3:Value} (h:EntNew w base e v1 v2 v3) (hb:base'<=base):EntNew w base' e v1 v2 v3 :=
 ⟨h.seen.lower hb,h.counts.lower hb,(h.items.lower hb).mono fun b _ h=>Nat.le_trans hb h⟩
theorem EntNew.at {w:World} {base:Nat} {e:Entry} {v1 v2 v3:Value} (h:EntNew w base e v1 v2 v3):EntAt w (fun b=>base<=b) e v1 v2 v3 :=
 ⟨zbb h.seen,(OwnL.flat_iff (S:=fun b=>base<=b).2 h.counts).sl (by decide) (fun _ _ h=>h) (fun _ h _=>h),h.items.sl (by decide) (fun _ _ h=>h) (fun _ h _=>h)⟩
theorem zea {w wr:World} {S:Nat->Prop} {A:Option Addr} {n c:Nat} {l pre post:List Entry} {m:Entry} (h:Sl entryT w S (.slice A n c) l) (hb:Ext w wr) (hl:l=pre++m :: post) :
  ∃ b o v1 v2 v3,A=some ⟨b,o,none⟩/\wr.cell? ⟨b,o+pre.length * 7,none⟩=some (St m.key)/\wr.cell? ⟨b,o+pre.length * 7+1,none⟩=some v1/\wr.cell? ⟨b,o+pre.length * 7+2,none⟩=some v2 /\
   wr.cell? ⟨b,o+pre.length * 7+3,none⟩=some v3/\wr.cell? ⟨b,o+pre.length * 7+4,none⟩=some (U m.cell.1)/\wr.cell? ⟨b,o+pre.length * 7+5,none⟩=some (St m.cell.2.1)/\wr.cell? ⟨b,o+pre.length * 7+6,none⟩=some (.bool m.cell.2.2)/\EntAt w S m v1 v2 v3:=by
 obtain⟨b,o,vs,c',hv,hS,⟨v1,v2,v3,rfl,h1,h2,h3⟩,hc⟩:=h.at_ hl;injection hv with e1 e2 e3
 subst e1;exact⟨b,o,v1,v2,v3,rfl,hb.cell (hc 0 _ rfl),hb.cell (hc 1 _ rfl),hb.cell (hc 2 _ rfl),hb.cell (hc 3 _ rfl),hb.cell (hc 4 _ rfl),hb.cell (hc 5 _ rfl),hb.cell (hc 6 _ rfl),⟨h1,h2,h3⟩⟩
def plF:Nat->List (Str × Int)->List Entry->List (Str × Int)
 | _,L,[]=>L
 | i,L,e :: r=>plF (i+1) (if e.key ∈ L.map Prod.fst then L else putL L e.key (i:Int)) r
def zdd {κ ν:Type} [DecidableEq κ] (L:List (κ × ν)) (k:κ):Option ν:=L.lookup k
theorem zfa {κ ν:Type} [DecidableEq κ] (p:κ × ν) (L:List (κ × ν)) (k:κ):zdd (p :: L) k=if k=p.1 then some p.2 else zdd L k:=by
 obtain⟨a,b⟩:=p;unfold zdd
 by_cases hx:k=a
 ·subst hx;simp
 ·have:(k == a)=false:=by simpa using hx
  simp [List.lookup_cons,this,hx]
theorem zuv {κ ν:Type} [DecidableEq κ] {L:List (κ × ν)} {k x:κ} {v:ν} (h:k ∉ L.map Prod.fst):zdd (L++[(k,v)]) x=match zdd L x with | some u=>some u | none=>if x=k then some v else none:=by
 induction L with
 | nil=>simp only [List.nil_append,zfa];rfl
 | cons p l ih =>
  simp only [List.map_cons,List.mem_cons,not_or] at h;simp only [List.cons_append,zfa]
  by_cases hx:x=p.1
  ·simp [hx]
  ·simp only [if_neg hx];exact ih h.2
theorem zgv {κ ν:Type} [DecidableEq κ] {L:List (κ × ν)} {k:κ}:decide (k ∈ L.map Prod.fst)=(zdd L k).isSome:=by
 induction L with
 | nil=>rfl
 | cons p l ih =>
  rw [zfa]
  by_cases hx:k=p.1
  ·simp [hx]
  ·rw [if_neg hx,<- ih];simp [hx]
theorem zhc:∀ (l:List Entry) (i:Nat) (L:List (Str × Int)) (k:Str),zdd (plF i L l) k=match zdd L k with | some v=>some v | none=>(l.findIdx? (fun e=>decide (e.key=k))).map fun j=>((i+j:Nat):Int)
 | [],i,L,k=>by simp only [plF,List.findIdx?_nil,Option.map_none];cases zdd L k <;> rfl
 | e :: r,i,L,k=>by
  rw [plF,zhc r]
  by_cases hm:e.key ∈ L.map Prod.fst
  ·rw [if_pos hm]
   cases hL:zdd L k with
   | some v=>rfl
   | none =>
    have hk:e.key ≠ k:=by rintro rfl;have:=zgv (L:=L) (k:=e.key);rw [hL] at this;simp [hm] at this
    simp only [List.findIdx?_cons,decide_eq_false hk,Bool.false_eq_true,if_false,Option.map_map]
    congr 1
    funext j
    simp;omega
  ·rw [if_neg hm,putL,if_neg hm,zuv hm]
   cases hL:zdd L k with
   | some v=>rfl
   | none =>
    by_cases hk:k=e.key
    ·subst hk;simp [List.findIdx?_cons]
    ·simp only [if_neg hk,List.findIdx?_cons,decide_eq_false (Ne.symm hk),Bool.false_eq_true,if_false,Option.map_map]
     congr 1
     funext j
     simp;omega
theorem zrg (n:Int) (w:World):(Instr.makeMap 129 (some (I n))).run Tryz.prog w=.ok (.map (some w.heap.size)) (w.alloc (.map #[] 0)):=by
 simp [Instr.makeMap,run_underlying Tryz.underlying129,asInt,asIntOf]
theorem zk0 {S:Nat->Prop} {v:Value} {l:List Entry} {w:World} (hv:Sl entryT w S v l) :
  Calls Tryz.prog 58 #[v] w fun e w'=>∃ m,e=.returned (.map (some m))/\w.heap.size<=m/\MapIs St I w' m (plF 0 [] l)/\Ext w w':=by
 have hv':=hv;obtain⟨A,c,rfl,hc1,hc2⟩:=hv.form;have HAT:=zH (fun (pre post:List Entry) (m:Entry) (wr:World) (h:Ext w wr) (hl:l=pre++m :: post)=>zea hv' h hl);have hmm:=zrg;clear hv hv';go_enter Tryz.func58,Tryz.ntmps58;go_wp2_with fail
 go_loopw [13] (fun i wr=>∃ pre post L,l=pre++post/\i=I pre.length/\Hid (plF 0 [] l=plF pre.length L post)/\MapIs St I wr w.heap.size L/\Ext w wr) (fun i _=>l.length - (intOf i).toNat)
 case atStart=>exact⟨[],l,[],rfl,rfl,zH rfl,MapIs.new w,(Ext.refl w).alloc _⟩
 case round =>
  obtain⟨pre,post,L,hl,rfl,hpl,hM,hx⟩:=hrel
  cases post with
  | cons m post =>
   obtain⟨b,o,v1,v2,v3,rfl,e0,e1,e2,e3,e4,e5,e6,hEA⟩:=HAT.out pre post m wr hx hl;obtain⟨A1,n1,A2,n2,A3,n3,rfl,rfl,rfl⟩:=hEA.fm;have hlt:pre.length < l.length:=(by rw [hl];simp);have HL:=zH hl;have hx1:=(Ext.refl wr).alloc (.cells #[St m.key,.slice A1 m.seen.length n1,.slice A2 m.counts.length n2,.slice A3 m.items.length n3,U m.cell.1,St m.cell.2.1,.bool m.cell.2.2] 46);have hM1:=hM.ext hx1;have hlk:=(zbi (P:=Tryz.prog) (z:=0) Tryz.underlying129 zd8 zmf hM1 m.key).2;have hb0:=hM.lt;obtain⟨z,hz⟩:∃ z,getL 0 L m.key=z:=⟨_,rfl⟩
   rw [hz] at hlk;have HX:=zH (hx.trans hx1);have HX0:=zH hx;have HPL:=zH (show plF 0 [] l=plF (pre.length+1) (if m.key ∈ L.map Prod.fst then L else putL L m.key (pre.length:Int)) post from hpl.out);clear hl hEA hpl hM hx hx1 hz
   by_cases hmem:m.key ∈ L.map Prod.fst
   ·simp only [hmem,decide_true] at hlk;rw [if_pos hmem] at HPL;have HM:=zH hM1;clear hmem hM1;go_wp2_with fail;go_roundw
    case rel=>exact⟨pre++[m],post,L,by rw [HL.out];simp,by simp,by simpa using HPL,HM.out,HX.out⟩
    case measure=>simp [intOf];omega
   ·simp only [hmem,decide_false] at hlk;rw [if_neg hmem] at HPL;obtain⟨W2,hup,hM2,ht2⟩:=zaw (P:=Tryz.prog) Tryz.underlying129 zd8 hM1 m.key (pre.length:Int);have HM:=zH hM2;have HX2:=zH (HX.out.turned ht2 (Nat.le_refl _));clear hmem hM1 hM2 ht2;go_wp2_with fail;go_roundw
    case rel=>exact⟨pre++[m],post,_,by rw [HL.out];simp,by simp,by simpa using HPL,HM.out,HX2.out⟩
    case measure=>simp [intOf];omega
  | nil=>rw [List.append_nil] at hl;have hln:l.length=pre.length:=(by rw [hl]);have HM:=zH hM;have HX:=zH hx;have HPL:=hpl;clear hl hpl hM hx;go_wp2_with fail;go_ret;exact⟨_,rfl,Nat.le_refl _,by rw [HPL.out];exact HM.out,HX.out⟩
attribute [local go_sem] Oper.semAt_some
def zcf:List Str->List Str->List Str
 | [],[]=>[]
 | a :: r,[]=>a :: zcf r []
 | [],b :: s=>b :: zcf [] s
 | a :: r,b :: s =>
  if a == b then b :: zcf r s
  else if ltS a b then a :: zcf r (b :: s)
  else b :: zcf (a :: r) s
termination_by a b=>a.length+b.length
theorem zo1 (a:Str) (r:List Str):zcf (a :: r) []=a :: zcf r []:=by rw [zcf]
theorem zo2 (b:Str) (s:List Str):zcf [] (b :: s)=b :: zcf [] s:=by rw [zcf]
theorem zz1 (r s:List Str) (k:Str):zcf (k :: r) (k :: s)=k :: zcf r s:=by rw [zcf];simp
theorem zz2 {a b:Str} (r s:List Str) (h1:(a == b)=false) (h2:ltS a b=true):zcf (a :: r) (b :: s)=a :: zcf r (b :: s):=by rw [zcf,if_neg (by simp [h1]),if_pos h2]
theorem zz3 {a b:Str} (r s:List Str) (h1:(a == b)=false) (h2:ltS a b=false):zcf (a :: r) (b :: s)=b :: zcf (a :: r) s:=by rw [zcf,if_neg (by simp [h1]),if_neg (by simp [h2])]
abbrev zb8 (a b:List Entry):List Str:=zcf (a.map (·.key)) (b.map (·.key))
theorem zch {w wr:World} {S:Nat->Prop} {A:Option Addr} {n c N:Nat} {l pre post:List Entry} {m:Entry} (h:Sl entryT w S (.slice A n c) l) (hn:∀ b,S b->b < w.heap.size->b < N) (hb:KpS S N w wr) (hl:l=pre++m :: post) :
  ∃ b o,A=some ⟨b,o,none⟩/\wr.cell? ⟨b,o+pre.length * 7,none⟩=some (St m.key):=by
 obtain⟨b,o,vs,c',hv,hS,⟨v1,v2,v3,rfl,h1,h2,h3⟩,hc⟩:=h.at_ hl;injection hv with e1 e2 e3
 subst e1;have h0:=hc 0 _ rfl;have hbl:b < w.heap.size:=zae h0;exact⟨b,o,rfl,(World.cell?_of_block (a:=⟨b,_,none⟩) (hb.2 b hS (hn b hS hbl))).trans h0⟩
theorem zz4 (n l B1 B2 n₀:Nat) {S:Nat->Prop} {va vb:Value} {A B:List Entry} (J Jx:List Str->World->Prop) (hn:1<=n)
  (W:World) (hJ:AbidesFrom W.heap.size J) (hn₀:n₀<=W.heap.size)
  (hY:∀ pre x W,J pre W->pre.length < (zb8 A B).length->YieldAt Fence.wide (n - 1) Tryz.prog l #[St x] W fun e W'=>(e=.returned (.bool true)/\J (pre++[x]) W'/\KpS S n₀ W W') ∨ (e=.returned (.bool false)/\Jx (pre++[x]) W'))
  (h1:W.cell? ⟨B1,0,none⟩=some va) (h2:W.cell? ⟨B2,0,none⟩=some vb) (hS1:S B1/\B1 < n₀) (hS2:S B2/\B2 < n₀) (ha:Sl entryT W S va A) (hb:Sl entryT W S vb B) (hSn:∀ b,S b->b < W.heap.size->b < n₀) (h0:J [] W) :
  CallsIn Fence.wide n Tryz.prog 109 #[.func (.yield l) #[] #[],.pointer (some ⟨B1,0,none⟩),.pointer (some ⟨B2,0,none⟩)] W fun e W'=>(∃ v,e=.returned v) /\
   ((∃ ys,ys=zb8 A B/\J ys W') ∨ (∃ pre,pre <+: zb8 A B/\Jx pre W')):=by
 obtain⟨Aa,ca,rfl,ha1,ha2⟩:=ha.form;obtain⟨Ab,cb,rfl,hb1,hb2⟩:=hb.form;refine callsIn_of_wp Tryz.func109 rfl trivial ?_ rfl;simp only [Tryz.ntmps109,List.size_toArray,List.length_cons,List.length_nil,Nat.reduceAdd,Nat.reduceSub,Array.replicate_succ,Array.replicate_zero,List.push_toArray,List.append_toArray,List.nil_append,List.cons_append]
 gi_wp2
 gi_loopw [4,5] (fun i j wr=>∃ preA postA preB postB done,A=preA++postA/\B=preB++postB/\i=I preA.length/\j=I preB.length/\zb8 A B=done++zb8 postA postB/\J done wr/\KpS S n₀ W wr)
  (fun i j _=>A.length+B.length - (intOf i).toNat - (intOf j).toNat)
 case atStart=>exact⟨[],A,[],B,[],rfl,rfl,rfl,rfl,rfl,h0,KpS.refl _ _ _⟩
 case round =>
  obtain⟨preA,postA,preB,postB,done,hA,hB,rfl,rfl,hp,hJs,hk⟩:=hrel;have c1:=zds h1 hS1.1 hS1.2 hk;have c2:=zds h2 hS2.1 hS2.2 hk
  cases postA with
  | nil =>
   cases postB with
   | nil =>
    rw [List.append_nil] at hA hB;subst hA;subst hB;have HP:=zH hp;clear hp
    gi_wp2
    go_end0
    exact⟨⟨_,rfl⟩,.inl ⟨_,rfl,by rw [HP.out];simp only [zb8,List.map_nil];rw [zcf,List.append_nil];exact hJs⟩⟩
   | cons b postB =>
    have HSB:=zH hb;rw [List.append_nil] at hA;subst hA;obtain⟨gb,ob,rfl,db0⟩:=zch hb hSn hk hB;have hlb:preB.length < B.length:=(by rw [hB];simp);have HB:=zH hB;have HP:=zH (show zb8 A B=done++b.key :: zb8 [] postB from by rw [hp];simp only [zb8,List.map_cons,List.map_nil];rw [zo2]);have HJ:=zH hJ;have HY:=zH hY;have HK:=zH hk;have HS:=zH hJs;have e1:((A.length:Int) == A.length)=true:=(by simp);have e2:((preB.length:Int) == B.length)=false:=(by rw [beq_eq_false_iff_ne];omega);clear hp hJ hY hk hJs hb ha hB
    gi_wp2
    gi_quiet (fail)
    obtain⟨fn,tmps,assign,body,hy,hR⟩:=HY.out done (b.key) (wr.drewN nq) (HJ.out done wr ((wr.drewN nq)) none HS.out (zb3 ((Ext.refl wr).drewN nq)) (by simp)) (by rw [HP.out];simp)
    gi_wp2
    refine hR.mono ?_;rintro e W3 (⟨rfl,hJ3,hk3⟩ | ⟨rfl,hJx3⟩)
    ·have HK3:=zH ((HK.out.trans (((Ext.refl wr).drewN nq).kpS (Nat.le_trans hn₀ HK.out.1))).trans hk3);have HJ3:=zH hJ3;clear hk3 hJ3;have d1:=zds h1 hS1.1 hS1.2 HK3.out;have d2:=zds h2 hS2.1 hS2.2 HK3.out;obtain⟨gb',ob',eb,db3⟩:=zch HSB.out hSn HK3.out HB.out;simp only [Option.some.injEq,Addr.mk.injEq,and_true] at eb;obtain⟨rfl,rfl⟩:=eb
     gi_wp2
     go_roundw
     case rel=>exact⟨A,[],preB++[b],postB,done++[b.key],by simp,by rw [HB.out];simp,by simp,by simp,by rw [HP.out];simp,HJ3.out,HK3.out⟩
     case measure=>simp [intOf];omega
    ·gi_wp2
     refine bodyPost_ret (results_none rfl _ _ _) rfl ?_;exact⟨⟨_,rfl⟩,.inr ⟨done++[b.key],⟨_,by rw [HP.out,List.append_assoc];rfl⟩,hJx3⟩⟩
  | cons a postA =>
   cases postB with
   | nil =>
    have HSA:=zH ha;rw [List.append_nil] at hB;subst hB;obtain⟨ga,oa,rfl,da0⟩:=zch ha hSn hk hA;have hla:preA.length < A.length:=(by rw [hA];simp);have HA:=zH hA;have HP:=zH (show zb8 A B=done++a.key :: zb8 postA [] from by rw [hp];simp only [zb8,List.map_cons,List.map_nil];rw [zo1]);have HJ:=zH hJ;have HY:=zH hY;have HK:=zH hk;have HS:=zH hJs;have e1:((preA.length:Int) == A.length)=false:=(by rw [beq_eq_false_iff_ne];omega);have e2:((B.length:Int) == B.length)=true:=(by simp);clear hp hJ hY hk hJs hb ha hA
    gi_wp2
    gi_quiet (fail)
    obtain⟨fn,tmps,assign,body,hy,hR⟩:=HY.out done (a.key) (wr.drewN nq) (HJ.out done wr ((wr.drewN nq)) none HS.out (zb3 ((Ext.refl wr).drewN nq)) (by simp)) (by rw [HP.out];simp)
    gi_wp2
    refine hR.mono ?_;rintro e W3 (⟨rfl,hJ3,hk3⟩ | ⟨rfl,hJx3⟩)
    ·have HK3:=zH ((HK.out.trans (((Ext.refl wr).drewN nq).kpS (Nat.le_trans hn₀ HK.out.1))).trans hk3);have HJ3:=zH hJ3;clear hk3 hJ3;have d1:=zds h1 hS1.1 hS1.2 HK3.out;have d2:=zds h2 hS2.1 hS2.2 HK3.out;obtain⟨ga',oa',ea,da3⟩:=zch HSA.out hSn HK3.out HA.out;simp only [Option.some.injEq,Addr.mk.injEq,and_true] at ea;obtain⟨rfl,rfl⟩:=ea
     gi_wp2
     go_roundw
     case rel=>exact⟨preA++[a],postA,B,[],done++[a.key],by rw [HA.out];simp,by simp,by simp,by simp,by rw [HP.out];simp,HJ3.out,HK3.out⟩
     case measure=>simp [intOf];omega
    ·gi_wp2
     refine bodyPost_ret (results_none rfl _ _ _) rfl ?_;exact⟨⟨_,rfl⟩,.inr ⟨done++[a.key],⟨_,by rw [HP.out,List.append_assoc];rfl⟩,hJx3⟩⟩
   | cons b postB =>
    have HSA:=zH ha;have HSB:=zH hb;rcases zfp a.key b.key with ⟨q1,q2,q3,q4,q5⟩ | q | ⟨q1,q2,q3,q4,q5⟩
    ·skip
     obtain⟨ga,oa,rfl,da0⟩:=zch ha hSn hk hA;obtain⟨gb,ob,rfl,db0⟩:=zch hb hSn hk hB;have hla:preA.length < A.length:=(by rw [hA];simp);have HA:=zH hA;have hlb:preB.length < B.length:=(by rw [hB];simp);have HB:=zH hB;have HP:=zH (show zb8 A B=done++a.key :: zb8 postA (b :: postB) from by rw [hp];simp only [zb8,List.map_cons,List.map_nil];rw [zz2 _ _ q3 q1]);have HJ:=zH hJ;have HY:=zH hY;have HK:=zH hk;have HS:=zH hJs;have e1:((preA.length:Int) == A.length)=false:=(by rw [beq_eq_false_iff_ne];omega);have e2:((preB.length:Int) == B.length)=false:=(by rw [beq_eq_false_iff_ne];omega);clear hp hJ hY hk hJs hb ha hA hB
     gi_wp2
     gi_quiet (fail)
     obtain⟨fn,tmps,assign,body,hy,hR⟩:=HY.out done (a.key) (wr.drewN nq) (HJ.out done wr ((wr.drewN nq)) none HS.out (zb3 ((Ext.refl wr).drewN nq)) (by simp)) (by rw [HP.out];simp)
     gi_wp2
     refine hR.mono ?_;rintro e W3 (⟨rfl,hJ3,hk3⟩ | ⟨rfl,hJx3⟩)
     ·have HK3:=zH ((HK.out.trans (((Ext.refl wr).drewN nq).kpS (Nat.le_trans hn₀ HK.out.1))).trans hk3);have HJ3:=zH hJ3;clear hk3 hJ3;have d1:=zds h1 hS1.1 hS1.2 HK3.out;have d2:=zds h2 hS2.1 hS2.2 HK3.out;obtain⟨ga',oa',ea,da3⟩:=zch HSA.out hSn HK3.out HA.out;simp only [Option.some.injEq,Addr.mk.injEq,and_true] at ea;obtain⟨rfl,rfl⟩:=ea;obtain⟨gb',ob',eb,db3⟩:=zch HSB.out hSn HK3.out HB.out;simp only [Option.some.injEq,Addr.mk.injEq,and_true] at eb;obtain⟨rfl,rfl⟩:=eb
      gi_wp2
      go_roundw
      case rel=>exact⟨preA++[a],postA,preB,b :: postB,done++[a.key],by rw [HA.out];simp,HB.out,by simp,by simp,by rw [HP.out];simp,HJ3.out,HK3.out⟩
      case measure=>simp [intOf];omega
     ·gi_wp2
      refine bodyPost_ret (results_none rfl _ _ _) rfl ?_;exact⟨⟨_,rfl⟩,.inr ⟨done++[a.key],⟨_,by rw [HP.out,List.append_assoc];rfl⟩,hJx3⟩⟩
    ·obtain⟨ka,ha0⟩:∃ k,a.key=k:=⟨_,rfl⟩
     have hb0:b.key=ka:=q.symm.trans ha0;clear q;obtain⟨ga,oa,rfl,da0⟩:=zch ha hSn hk hA;obtain⟨gb,ob,rfl,db0⟩:=zch hb hSn hk hB;have hla:preA.length < A.length:=(by rw [hA];simp);have HA:=zH hA;have hlb:preB.length < B.length:=(by rw [hB];simp);have HB:=zH hB;have HP:=zH (show zb8 A B=done++ka :: zb8 postA postB from by rw [hp];simp only [zb8,List.map_cons,List.map_nil];rw [ha0,hb0,zz1]);have HJ:=zH hJ;have HY:=zH hY;have HK:=zH hk;have HS:=zH hJs;have e1:((preA.length:Int) == A.length)=false:=(by rw [beq_eq_false_iff_ne];omega);have e2:((preB.length:Int) == B.length)=false:=(by rw [beq_eq_false_iff_ne];omega);clear hp hJ hY hk hJs hb ha hA hB
     gi_wp2
     gi_quiet (fail)
     obtain⟨fn,tmps,assign,body,hy,hR⟩:=HY.out done (ka) (wr.drewN nq) (HJ.out done wr ((wr.drewN nq)) none HS.out (zb3 ((Ext.refl wr).drewN nq)) (by simp)) (by rw [HP.out];simp)
     gi_wp2
     refine hR.mono ?_;rintro e W3 (⟨rfl,hJ3,hk3⟩ | ⟨rfl,hJx3⟩)
     ·have HK3:=zH ((HK.out.trans (((Ext.refl wr).drewN nq).kpS (Nat.le_trans hn₀ HK.out.1))).trans hk3);have HJ3:=zH hJ3;clear hk3 hJ3;have d1:=zds h1 hS1.1 hS1.2 HK3.out;have d2:=zds h2 hS2.1 hS2.2 HK3.out;obtain⟨ga',oa',ea,da3⟩:=zch HSA.out hSn HK3.out HA.out;simp only [Option.some.injEq,Addr.mk.injEq,and_true] at ea;obtain⟨rfl,rfl⟩:=ea;obtain⟨gb',ob',eb,db3⟩:=zch HSB.out hSn HK3.out HB.out;simp only [Option.some.injEq,Addr.mk.injEq,and_true] at eb;obtain⟨rfl,rfl⟩:=eb
      gi_wp2
      go_roundw
      case rel=>exact⟨preA++[a],postA,preB++[b],postB,done++[ka],by rw [HA.out];simp,by rw [HB.out];simp,by simp,by simp,by rw [HP.out];simp,HJ3.out,HK3.out⟩
      case measure=>simp [intOf];omega
     ·gi_wp2
      refine bodyPost_ret (results_none rfl _ _ _) rfl ?_;exact⟨⟨_,rfl⟩,.inr ⟨done++[ka],⟨_,by rw [HP.out,List.append_assoc];rfl⟩,hJx3⟩⟩
    ·skip
     obtain⟨ga,oa,rfl,da0⟩:=zch ha hSn hk hA;obtain⟨gb,ob,rfl,db0⟩:=zch hb hSn hk hB;have hla:preA.length < A.length:=(by rw [hA];simp);have HA:=zH hA;have hlb:preB.length < B.length:=(by rw [hB];simp);have HB:=zH hB;have HP:=zH (show zb8 A B=done++b.key :: zb8 (a :: postA) postB from by rw [hp];simp only [zb8,List.map_cons,List.map_nil];rw [zz3 _ _ q3 q1]);have HJ:=zH hJ;have HY:=zH hY;have HK:=zH hk;have HS:=zH hJs;have e1:((preA.length:Int) == A.length)=false:=(by rw [beq_eq_false_iff_ne];omega);have e2:((preB.length:Int) == B.length)=false:=(by rw [beq_eq_false_iff_ne];omega);clear hp hJ hY hk hJs hb ha hA hB
     gi_wp2
     gi_quiet (fail)
     obtain⟨fn,tmps,assign,body,hy,hR⟩:=HY.out done (b.key) (wr.drewN nq) (HJ.out done wr ((wr.drewN nq)) none HS.out (zb3 ((Ext.refl wr).drewN nq)) (by simp)) (by rw [HP.out];simp)
     gi_wp2
     refine hR.mono ?_;rintro e W3 (⟨rfl,hJ3,hk3⟩ | ⟨rfl,hJx3⟩)
     ·have HK3:=zH ((HK.out.trans (((Ext.refl wr).drewN nq).kpS (Nat.le_trans hn₀ HK.out.1))).trans hk3);have HJ3:=zH hJ3;clear hk3 hJ3;have d1:=zds h1 hS1.1 hS1.2 HK3.out;have d2:=zds h2 hS2.1 hS2.2 HK3.out;obtain⟨ga',oa',ea,da3⟩:=zch HSA.out hSn HK3.out HA.out;simp only [Option.some.injEq,Addr.mk.injEq,and_true] at ea;obtain⟨rfl,rfl⟩:=ea;obtain⟨gb',ob',eb,db3⟩:=zch HSB.out hSn HK3.out HB.out;simp only [Option.some.injEq,Addr.mk.injEq,and_true] at eb;obtain⟨rfl,rfl⟩:=eb
      gi_wp2
      go_roundw
      case rel=>exact⟨preA,a :: postA,preB++[b],postB,done++[b.key],HA.out,by rw [HB.out];simp,by simp,by simp,by rw [HP.out];simp,HJ3.out,HK3.out⟩
      case measure=>simp [intOf];omega
     ·gi_wp2
      refine bodyPost_ret (results_none rfl _ _ _) rfl ?_;exact⟨⟨_,rfl⟩,.inr ⟨done++[b.key],⟨_,by rw [HP.out,List.append_assoc];rfl⟩,hJx3⟩⟩
end
section
open Go.RowKit Go.Shelf
theorem zyc (m:Entry) (v1 v2 v3:Value) (s:Str) (W:World):Calls Tryz.prog 86 #[entV m v1 v2 v3,St s] W fun e w'=>e=.returned (I (cmpS m.key s))/\Ext W w':=by
 have H1:=zH zhl;go_enter Tryz.func86,Tryz.ntmps86;go_wp2_with fail;refine (H1.out _ _ _).mono ?_;rintro e w' ⟨rfl,rfl⟩;go_wp2;go_ret;exact⟨rfl,(Ext.refl _).alloc _⟩
theorem zm4 {S:Nat->Prop} {v:Value} {l:List Entry} {w:World} (s:Str) (hv:Sl entryT w S v l) (hR:RiseS (l.map (·.key))) (hl40:l.length<=1099511627776) :
  Calls Tryz.prog 85 #[v,St s,.func (.func 86) #[] #[]] w fun e w'=>∃ (i:Nat) (is:Bool),e=.returned (.tuple #[I i,.bool is])/\Found (l.map (·.key)) s i is/\Ext w w':=by
 have hv':=hv;obtain⟨A,c,rfl,h1,h2⟩:=hv.form;have eg:∀ args w,(callFunc 86 args).run Tryz.prog w=.ok (.enter 86 args) w:=enters_of Tryz.func86 (by kernel_rfl) rfl;have HK:=zH zyc;have HR:=zH hR
 have HAT:=zH (fun (k:Nat) (m:Entry) (wr:World) (h:Ext w wr) (hm:l[k]? = some m)=>by
  have hlt:=(List.getElem?_eq_some_iff.1 hm).1
  have hs:l=l.take k++m :: l.drop (k+1):=by have e:=(List.getElem?_eq_some_iff.1 hm).2;rw [<- e,List.getElem_cons_drop,List.take_append_drop]
  have:=zea hv' h hs
  rwa [show (l.take k).length=k by simp;omega] at this)
 clear hv hv' hR;go_enter Tryz.func85,Tryz.ntmps85;go_wp2_with fail
 go_loopw [9,10] (fun a b wr=>∃ i j:Nat,a=I i/\b=I j/\i<=j/\j<=l.length/\Hid (Cut (l.map (·.key)) s i j)/\Ext w wr) (fun a b _=>(intOf b).toNat - (intOf a).toNat)
 case atStart=>exact⟨0,l.length,rfl,rfl,Nat.zero_le _,Nat.le_refl _,zH ⟨fun k x hk=>by omega,fun k x hk hx=>by have:=(List.getElem?_eq_some_iff.1 hx).1;simp at this;omega⟩,Ext.refl _⟩
 case round =>
  obtain⟨i,j,rfl,rfl,hij,hjn,hcut,hx⟩:=hrel
  by_cases hlt:i < j
  ·obtain⟨h,hh⟩:∃ h,(i+j) / 2=h:=⟨_,rfl⟩
   have hh1:i<=h:=(by omega);have hh2:h < j:=(by omega);have hhl:h < l.length:=(by omega);obtain⟨m,hm⟩:∃ m,l[h]? = some m:=⟨_,List.getElem?_eq_getElem hhl⟩
   obtain⟨b,o,a1,a2,a3,rfl,e0,e1,e2,e3,e4,e5,e6,hEA⟩:=HAT.out h m wr hx hm;obtain⟨C1,c1,C2,c2,C3,c3,rfl,rfl,rfl⟩:=hEA.fm;clear hEA;have HD:=zH (HK.out m (.slice C1 m.seen.length c1) (.slice C2 m.counts.length c2) (.slice C3 m.items.length c3) s wr);have HM:=zH hm;have HX:=zH hx;clear hm hx;have hsum:IntKind.i64.wrap ((i:Int)+j)=(i:Int)+j:=IntWalk.i64_in _ (by omega);have hmid:∀ n:Int,n=(i+j) / 2->n=h:=fun n hn=>by omega
   have HMID:=zH hmid;clear hmid;have hx':(l.map (·.key))[h]? = some m.key:=(by rw [List.getElem?_map,HM.out];rfl);have HX':=zH hx';clear hx';cases hq:ltS m.key s
   ·have hneg:¬ cmpS m.key s < 0:=fun k=>by rw [cmpS_lt.1 k] at hq;cases hq
    have HQ:=zH hq;clear hq;go_wp2_with fail;refine HD.out.mono ?_;rintro e w2 ⟨rfl,hx2⟩;go_wp2_with fail;go_roundw
    case rel=>exact⟨i,h,rfl,congrArg (Value.int .i64) (HMID.out _ rfl),hh1,by omega,zH (Cut.right HR.out hcut.out HX'.out HQ.out),HX.out.trans hx2⟩
    case measure=>simp only [intOf];omega
   ·have hneg:cmpS m.key s < 0:=cmpS_lt.2 hq;have HQ:=zH hq;clear hq;go_wp2_with fail;refine HD.out.mono ?_;rintro e w2 ⟨rfl,hx2⟩;go_wp2_with fail;go_roundw
    case rel=>exact⟨h+1,j,congrArg (Value.int .i64) (by have:=HMID.out _ rfl;omega),rfl,by omega,hjn,zH (Cut.left HR.out hcut.out HX'.out HQ.out),HX.out.trans hx2⟩
    case measure=>simp only [intOf];omega
  ·obtain rfl:i=j:=by omega
   have HX:=zH hx;clear hx
   by_cases hin:i < l.length
   ·obtain⟨m,hm⟩:∃ m,l[i]? = some m:=⟨_,List.getElem?_eq_getElem hin⟩
    obtain⟨b,o,a1,a2,a3,rfl,e0,e1,e2,e3,e4,e5,e6,hEA⟩:=HAT.out i m wr HX.out hm;obtain⟨C1,c1,C2,c2,C3,c3,rfl,rfl,rfl⟩:=hEA.fm;clear hEA;have HD:=zH (HK.out m (.slice C1 m.seen.length c1) (.slice C2 m.counts.length c2) (.slice C3 m.items.length c3) s wr);have hx':(l.map (·.key))[i]? = some m.key:=(by rw [List.getElem?_map,hm];rfl);have HX':=zH hx';clear hx' hm
    by_cases he:m.key=s
    ·have h0:cmpS m.key s=0:=cmpS_eq.2 he;have HE:=zH he;have H0:=zH h0;clear he h0;go_wp2_with fail;refine HD.out.mono ?_;rintro e w2 ⟨rfl,hx2⟩;rw [H0.out];go_wp2_with fail
     go_ret2
     exact⟨i,true,rfl,⟨by simpa using Nat.le_of_lt hin,hcut.out,by rw [HX'.out,HE.out];simp⟩,HX.out.trans hx2⟩
    ·have h0:(cmpS m.key s == 0)=false:=by rw [beq_eq_false_iff_ne];exact fun k=>he (cmpS_eq.1 k)
     have HE:=zH he;clear he;go_wp2_with fail;refine HD.out.mono ?_;rintro e w2 ⟨rfl,hx2⟩;go_wp2_with fail
     go_ret2
     exact⟨i,false,rfl,⟨by simpa using Nat.le_of_lt hin,hcut.out,by rw [HX'.out];simp [HE.out]⟩,HX.out.trans hx2⟩
   ·go_wp2_with fail
    go_ret2
    exact⟨i,false,rfl,⟨by simpa using hjn,hcut.out,by rw [List.getElem?_eq_none (by simp;omega)];simp⟩,HX.out⟩
theorem yam (s:Str) (w:World):Calls Tryz.prog 90 #[St s] w fun e w'=>e=.returned (.bool false)/\w'=w:=by
 go_enter Tryz.func90,Tryz.ntmps90;go_wp2;go_ret;exact⟨by simp,rfl⟩
theorem yan (s:Str) (w:World):Calls Tryz.prog 139 #[St s] w fun e w'=>e=.returned (.bool false)/\w'=w:=by
 go_enter Tryz.func139,Tryz.ntmps139;go_wp2;go_ret;exact⟨by simp,rfl⟩
theorem yao (a b:Str) (w:World):Calls Tryz.prog 89 #[St a,St b] w fun e w'=>e=.returned (.bool (ltS a b))/\w'=w:=by
 have H:=zH yan;go_enter Tryz.func89,Tryz.ntmps89;go_wp2_with fail;refine (H.out _ _).mono ?_;rintro e w' ⟨rfl,rfl⟩
 cases h:Op.bytesLess a b <;>
 ·go_wp2_with fail;go_ret;exact⟨by simp [ltS,h],rfl⟩
theorem zti {S:Nat->Prop} {v:Value} {l:List Str} {w:World} (s:Str) (hv:Sl strT w S v l) (hR:RiseS (l)) (hl40:l.length<=1099511627776) :
  Calls Tryz.prog 40 #[v,St s] w fun e w'=>∃ (i:Nat) (is:Bool),e=.returned (.tuple #[I i,.bool is])/\Found (l) s i is/\Ext w w':=by
 have hv':=hv;obtain⟨A,c,rfl,h1,h2⟩:=hv.form;have HR:=zH hR
 have HAT:=zH (fun (k:Nat) (m:Str) (wr:World) (h:Ext w wr) (hm:l[k]? = some m)=>by
  have hlt:=(List.getElem?_eq_some_iff.1 hm).1
  have hs:l=l.take k++m :: l.drop (k+1):=by have e:=(List.getElem?_eq_some_iff.1 hm).2;rw [<- e,List.getElem_cons_drop,List.take_append_drop]
  have:=zg0 hv' h hs
  rwa [show (l.take k).length=k by simp;omega] at this)
 clear hv hv' hR;go_enter Tryz.func40,Tryz.ntmps40;go_wp2_with fail
 go_loopw [7,8] (fun a b wr=>∃ i j:Nat,a=I i/\b=I j/\i<=j/\j<=l.length/\Hid (Cut (l) s i j)/\Ext w wr) (fun a b _=>(intOf b).toNat - (intOf a).toNat)
 case atStart=>exact⟨0,l.length,rfl,rfl,Nat.zero_le _,Nat.le_refl _,zH ⟨fun k x hk=>by omega,fun k x hk hx=>by have:=(List.getElem?_eq_some_iff.1 hx).1;omega⟩,Ext.refl _⟩
 case round =>
  obtain⟨i,j,rfl,rfl,hij,hjn,hcut,hx⟩:=hrel
  by_cases hlt:i < j
  ·obtain⟨h,hh⟩:∃ h,(i+j) / 2=h:=⟨_,rfl⟩
   have hh1:i<=h:=(by omega);have hh2:h < j:=(by omega);have hhl:h < l.length:=(by omega);obtain⟨m,hm⟩:∃ m,l[h]? = some m:=⟨_,List.getElem?_eq_getElem hhl⟩
   obtain⟨b,o,rfl,e0⟩:=HAT.out h m wr hx hm;have HD:=zH (yao m s wr);have HM:=zH hm;have HX:=zH hx;clear hm hx;have hsum:IntKind.i64.wrap ((i:Int)+j)=(i:Int)+j:=IntWalk.i64_in _ (by omega);have hmid:∀ n:Int,n=(i+j) / 2->n=h:=fun n hn=>by omega
   have HMID:=zH hmid;clear hmid;have hx':(l)[h]? = some m:=HM.out;have HX':=zH hx';clear hx';cases hq:ltS m s
   ·have hneg:¬ cmpS m s < 0:=fun k=>by rw [cmpS_lt.1 k] at hq;cases hq
    have HQ:=zH hq;clear hq;go_wp2_with fail;refine HD.out.mono ?_;rintro e w2 ⟨rfl,rfl⟩;rw [HQ.out];go_wp2_with fail;go_roundw
    case rel=>exact⟨i,h,rfl,congrArg (Value.int .i64) (HMID.out _ rfl),hh1,by omega,zH (Cut.right HR.out hcut.out HX'.out HQ.out),HX.out⟩
    case measure=>simp only [intOf];omega
   ·have hneg:cmpS m s < 0:=cmpS_lt.2 hq;have HQ:=zH hq;clear hq;go_wp2_with fail;refine HD.out.mono ?_;rintro e w2 ⟨rfl,rfl⟩;rw [HQ.out];go_wp2_with fail;go_roundw
    case rel=>exact⟨h+1,j,congrArg (Value.int .i64) (by have:=HMID.out _ rfl;omega),rfl,by omega,hjn,zH (Cut.left HR.out hcut.out HX'.out HQ.out),HX.out⟩
    case measure=>simp only [intOf];omega
  ·obtain rfl:i=j:=by omega
   have HX:=zH hx;clear hx
   by_cases hin:i < l.length
   ·obtain⟨m,hm⟩:∃ m,l[i]? = some m:=⟨_,List.getElem?_eq_getElem hin⟩
    obtain⟨b,o,rfl,e0⟩:=HAT.out i m wr HX.out hm;have hx':(l)[i]? = some m:=hm;have HX':=zH hx';clear hx' hm
    by_cases he:m=s
    ·have hb:(m == s)=true:=(by simpa using he);have HE:=zH he;clear he;go_wp2_with fail
     go_ret2
     exact⟨i,true,rfl,⟨by simpa using Nat.le_of_lt hin,hcut.out,by rw [HX'.out,HE.out];simp⟩,HX.out⟩
    ·have hb:(m == s)=false:=(by simpa using he);have HE:=zH he;have HN:=zH (yam m wr);clear he;go_wp2_with fail;refine HN.out.mono ?_;rintro e w2 ⟨rfl,rfl⟩;go_wp2_with fail
     go_ret2
     exact⟨i,false,rfl,⟨by simpa using Nat.le_of_lt hin,hcut.out,by rw [HX'.out];simp [HE.out]⟩,HX.out⟩
   ·go_wp2_with fail
    go_ret2
    exact⟨i,false,rfl,⟨by simpa using hjn,hcut.out,by rw [List.getElem?_eq_none (by omega)];simp⟩,HX.out⟩
end
end Go.Proofs.YtaabaflgeljbjaaGreat
