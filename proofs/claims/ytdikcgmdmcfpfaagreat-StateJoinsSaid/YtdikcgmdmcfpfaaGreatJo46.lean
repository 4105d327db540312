/- gossamerref15: May: who is let through is good. Printed by pp.py out of src/RefL3.src. -/
import Derived.Test.YtdikcgmdmcfpfaaGreatJo31
import Derived.Test.YtdikcgmdmcfpfaaGreatJo44
import Derived.Test.YtdikcgmdmcfpfaaGreatJo45
set_option linter.unusedVariables false
set_option linter.unusedSimpArgs false
set_option maxRecDepth 100000
set_option maxHeartbeats 40000000
namespace Go.Proofs.YtdikcgmdmcfpfaaGreat
section
open Go.RowKit Go.Shelf
theorem zri {S:Nat->Prop} {a:Entry} {a1 a2 a3:Value} {w:World} (ha:EntAt w S a a1 a2 a3) (sa:RefSm a) (hkl:a.key.length<=1000000) :
  Calls Tryz.prog 70 #[entV a a1 a2 a3] w fun r w'=>(∃ m,r=.returned (.bool m)/\(m=true->GoodM a.seen/\a.key ≠ []))/\Ext w w':=by
 obtain⟨sa1,sa2,sa3,sa4⟩:=sa;obtain⟨k,aS,ac,ai,p1,p2,p3⟩:=a;obtain⟨A1,n1,rfl,-,-⟩:=ha.seen.form;obtain⟨A2,n2,rfl,-,-⟩:=ha.counts.form;obtain⟨A3,n3,rfl,-,-⟩:=ha.items.form;simp only at sa1 sa2 sa3 sa4 hkl;have hx0:=(Ext.refl w).alloc (.cells #[St k,.slice A1 aS.length n1,.slice A2 ac.length n2,.slice A3 ai.length n3,U p1,St p2,.bool p3] 37);have RA:=zH (zah w 37 [St k,.slice A1 aS.length n1,.slice A2 ac.length n2,.slice A3 ai.length n3,U p1,St p2,.bool p3]);have HA:=zH ha;have HX:=zH hx0;clear ha hx0;obtain⟨k0,k1,k2,k3,k4,k5,k6⟩:=RA.out.p7;go_enter Tryz.func70,Tryz.ntmps70;go_wp2_with fail;generalize hW0:w.alloc (.cells #[St k,.slice A1 aS.length n1,.slice A2 ac.length n2,.slice A3 ai.length n3,U p1,St p2,.bool p3] 37)=W0 at *;clear hW0;refine (zso k W0 hkl).mono ?_;rintro r W1 ⟨⟨kd,rfl,hk3,hkd⟩,hx1⟩;have HKD:=zH hkd;clear hkd;have RA:=zH (RA.out.ext hx1);have HX:=zH (HX.out.trans hx1);clear hx1 k0 k1 k2 k3 k4 k5 k6;obtain⟨k0,k1,k2,k3,k4,k5,k6⟩:=RA.out.p7
 by_cases d0:kd=0
 ·subst d0;go_wp2_with fail;go_ret;exact⟨⟨false,rfl,by simp⟩,HX.out⟩
 have d0b:((kd:Int) == 0)=false:=by simp;omega
 by_cases s0:aS = []
 ·subst s0;go_wp2_with fail;go_ret;exact⟨⟨false,rfl,by simp⟩,HX.out⟩
 have s0b:((aS.length:Int) == 0)=false:=by simp [s0]
 have HM:=zH (zkz (HA.out.seen.ext (by decide) HX.out));go_wp2_with fail;refine HM.out.mono ?_;rintro r W2 ⟨⟨m1,rfl,hg⟩,hx2⟩;clear HM;have HG:=zH hg;clear hg;have RA:=zH (RA.out.ext hx2);have HX:=zH (HX.out.trans hx2);clear hx2 k0 k1 k2 k3 k4 k5 k6;obtain⟨k0,k1,k2,k3,k4,k5,k6⟩:=RA.out.p7;cases m1
 ·skip
  go_wp2_with fail;go_ret;exact⟨⟨false,rfl,by simp⟩,HX.out⟩
 have HGG:=zH (show GoodM aS from HG.out rfl);clear HG;have HM:=zH (zrb (HA.out.counts.ext (by decide) HX.out));go_wp2_with fail;refine HM.out.mono ?_;rintro r W3 ⟨⟨m2,rfl⟩,hx3⟩;clear HM;have RA:=zH (RA.out.ext hx3);have HX:=zH (HX.out.trans hx3);clear hx3 k0 k1 k2 k3 k4 k5 k6;obtain⟨k0,k1,k2,k3,k4,k5,k6⟩:=RA.out.p7;cases m2
 ·skip
  go_wp2_with fail;go_ret;exact⟨⟨false,rfl,by simp⟩,HX.out⟩
 have HM:=zH (zrc (HA.out.items.ext (by decide) HX.out) sa4);go_wp2_with fail;refine HM.out.mono ?_;rintro r W4 ⟨⟨m3,rfl⟩,hx4⟩;clear HM;have RA:=zH (RA.out.ext hx4);have HX:=zH (HX.out.trans hx4);clear hx4 k0 k1 k2 k3 k4 k5 k6;obtain⟨k0,k1,k2,k3,k4,k5,k6⟩:=RA.out.p7;cases m3
 ·skip
  go_wp2_with fail;go_ret;exact⟨⟨false,rfl,by simp⟩,HX.out⟩
 have HM:=zH (zra (p1,p2,p3) W4);go_wp2_with fail;refine HM.out.mono ?_;rintro r W5 ⟨⟨m4,rfl⟩,hx5⟩;clear HM;have RA:=zH (RA.out.ext hx5);have HX:=zH (HX.out.trans hx5);clear hx5 k0 k1 k2 k3 k4 k5 k6;obtain⟨k0,k1,k2,k3,k4,k5,k6⟩:=RA.out.p7;cases m4
 ·skip
  go_wp2_with fail;go_ret;exact⟨⟨false,rfl,by simp⟩,HX.out⟩
 rcases (show kd=1 ∨ kd=2 ∨ kd=3 by omega) with rfl | rfl | rfl
 case' inl =>
  by_cases i0:0 < ai.length
  ·skip
   go_wp2_with fail;go_ret;exact⟨⟨false,rfl,by simp⟩,HX.out⟩
  by_cases q1:p1=0
  case' neg=>go_wp2_with fail;go_ret;exact⟨⟨false,rfl,by simp⟩,HX.out⟩
  by_cases q2:p2 = []
  case' neg=>go_wp2_with fail;go_ret;exact⟨⟨false,rfl,by simp⟩,HX.out⟩
  cases p3
  case' true=>go_wp2_with fail;go_ret;exact⟨⟨false,rfl,by simp⟩,HX.out⟩
 case' inr.inl =>
  by_cases c0:0 < ac.length
  ·skip
   go_wp2_with fail;go_ret;exact⟨⟨false,rfl,by simp⟩,HX.out⟩
  by_cases q1:p1=0
  case' neg=>go_wp2_with fail;go_ret;exact⟨⟨false,rfl,by simp⟩,HX.out⟩
  by_cases q2:p2 = []
  case' neg=>go_wp2_with fail;go_ret;exact⟨⟨false,rfl,by simp⟩,HX.out⟩
  cases p3
  case' true=>go_wp2_with fail;go_ret;exact⟨⟨false,rfl,by simp⟩,HX.out⟩
 case' inr.inr =>
  by_cases c0:0 < ac.length
  ·skip
   go_wp2_with fail;go_ret;exact⟨⟨false,rfl,by simp⟩,HX.out⟩
  by_cases i0:0 < ai.length
  ·skip
   go_wp2_with fail;go_ret;exact⟨⟨false,rfl,by simp⟩,HX.out⟩
 all_goals
  go_wp2_with fail
  (try clear c0)
  (try clear i0)
  (try clear q1)
  (try clear q2)
  go_loopw [4] (fun i wr=>∃ (pre post:List zad),ac=pre++post/\i=I pre.length/\Ext W5 wr) (fun i _=>ac.length - (intOf i).toNat)
  case atStart=>exact⟨[],ac,rfl,rfl,Ext.refl _⟩
  case round =>
   obtain⟨pre,post,hl,rfl,hx⟩:=hrel;have HY:=zH (HX.out.trans hx);have hrA:=RA.out.ext hx;clear k0 k1 k2 k3 k4 k5 k6;obtain⟨k0,k1,k2,k3,k4,k5,k6⟩:=hrA.p7
   cases post with
   | cons x post =>
    obtain⟨b,o,rfl,e0,e1,e2⟩:=zc9 HA.out.counts HY.out hl;have hlt:pre.length < ac.length:=(by rw [hl];simp);have HL:=zH hl;have HX5:=zH hx;clear hl hx hrA
    by_cases g1:x.1 = []
    ·have g1b:x.1.isEmpty=true:=(by simp [g1]);clear g1;go_wp2_with fail;go_quiet (fail);go_wp2_with fail;go_roundw
     case rel=>exact⟨pre++[x],post,by rw [HL.out];simp,by simp <;> omega,HX5.out.drewN _⟩
     case measure=>simp [intOf];omega
    ·have g1b:x.1.isEmpty=false:=(by simp [g1]);clear g1;go_wp2_with fail;obtain⟨Wd,hWd⟩:∃ Wd,wr.drew=Wd:=⟨_,rfl⟩
     have hxd:Ext wr Wd:=(by rw [<- hWd];exact (Ext.refl wr).drew);have HWD:=zH hWd;have HYD:=zH (HY.out.trans hxd);have HX5D:=zH (HX5.out.trans hxd);replace k0:=hxd.cell k0;replace k1:=hxd.cell k1;replace k2:=hxd.cell k2;replace k3:=hxd.cell k3;replace k4:=hxd.cell k4;replace k5:=hxd.cell k5;replace k6:=hxd.cell k6;replace e0:=hxd.cell e0;replace e1:=hxd.cell e1;have HF:=zH (zd9 x.1 (HA.out.seen.ext (by decide) HYD.out));refine wp_region_still_tail 16 (by kernel_rfl) (by kernel_rfl) ?_;simp only [List.take_succ_cons,List.take_zero,List.drop_succ_cons,List.drop_zero];change wpStill _ _ (wr).drew (fun a'=>wpList _ _ _ _ a' (wr).drew) _ _;rw [HWD.out];generalize hA:Act.mk _ _=A0;repeat (refine wpStill_step (fun K2 hK2=>?_);subst hA;go_simp;(try rw [if_neg (by decide)]);generalize hA:Act.mk _ _=A0;refine hK2 A0 ?_;clear hK2 K2)
     refine wpStill_nil ?_;subst hA;go_wp2_with fail;refine HF.out.mono ?_;rintro r w3 ⟨rfl,rfl⟩;generalize ofM aS x.1=q;rcases Nat.eq_zero_or_pos q with rfl | hq
     ·go_wp2_with fail;go_ret;exact⟨⟨false,rfl,by simp⟩,HYD.out⟩
     ·have hqb:((q:Int) == 0)=false:=(by simp;omega);go_wp2_with fail;go_roundw
      case rel=>exact⟨pre++[x],post,by rw [HL.out];simp,by simp <;> omega,HX5D.out⟩
      case measure=>simp [intOf];omega
   | nil =>
    rw [List.append_nil] at hl;have hle:pre.length=ac.length:=(by rw [hl]);have hn1:¬ pre.length < ac.length:=(by omega);have HX5:=zH hx;clear hl hx hle hrA;go_wp2_with fail;obtain⟨W6,rfl⟩:∃ W6:World,W6=wr:=⟨_,rfl⟩
    go_loopw [5] (fun i wr=>∃ (pre post:List Item),ai=pre++post/\i=I pre.length/\Ext W5 wr) (fun i _=>ai.length - (intOf i).toNat)
    case atStart=>exact⟨[],ai,rfl,rfl,HX5.out⟩
    case round =>
     obtain⟨pre,post,hl,rfl,hx⟩:=hrel;have HY:=zH (HX.out.trans hx);have hrA:=RA.out.ext hx;have HX5:=zH hx;clear k0 k1 k2 k3 k4 k5 k6;obtain⟨k0,k1,k2,k3,k4,k5,k6⟩:=hrA.p7
     cases post with
     | cons it post =>
      obtain⟨b,o,u,rfl,e0,e1,hds⟩:=zcu HA.out.items HY.out hl;obtain⟨B,m,rfl,hm1,hm2⟩:=hds.form;have HDS:=zH hds;have hlt:pre.length < ai.length:=(by rw [hl];simp);have HL:=zH hl;clear hl hx hrA hds;go_wp2_with fail;obtain⟨wo,rfl⟩:∃ wo:World,wo=wr:=⟨_,rfl⟩
      go_loopw [6] (fun k wr=>∃ (p2 q2:List Dot),it.2=p2++q2/\k=I p2.length/\Ext wo wr) (fun k _=>it.2.length - (intOf k).toNat)
      case atStart=>exact⟨[],it.2,rfl,rfl,Ext.refl _⟩
      case round =>
       obtain⟨p2,q2,hl2,rfl,hx2⟩:=hrel;have HY:=zH (HY.out.trans hx2);have HX5:=zH (HX5.out.trans hx2);replace k0:=hx2.cell k0;replace k1:=hx2.cell k1;replace k2:=hx2.cell k2;replace k3:=hx2.cell k3;replace k4:=hx2.cell k4;replace k5:=hx2.cell k5;replace k6:=hx2.cell k6;replace e0:=hx2.cell e0;replace e1:=hx2.cell e1
       cases q2 with
       | cons d q2 =>
        obtain⟨b2,o2,rfl,d0,d1⟩:=zdv HDS.out HY.out hl2;have hlt2:p2.length < it.2.length:=(by rw [hl2];simp);have HL2:=zH hl2;have HX2:=zH hx2;clear hl2 hx2;go_wp2_with fail;obtain⟨Wd,hWd⟩:∃ Wd,wr.drew=Wd:=⟨_,rfl⟩
        have hxd:Ext wr Wd:=(by rw [<- hWd];exact (Ext.refl wr).drew);have HWD:=zH hWd;have HYD:=zH (HY.out.trans hxd);have HX5D:=zH (HX5.out.trans hxd);replace k0:=hxd.cell k0;replace k1:=hxd.cell k1;replace k2:=hxd.cell k2;replace k3:=hxd.cell k3;replace k4:=hxd.cell k4;replace k5:=hxd.cell k5;replace k6:=hxd.cell k6;replace e0:=hxd.cell e0;replace e1:=hxd.cell e1;have HX2D:=zH (HX2.out.trans hxd);replace d0:=hxd.cell d0;replace d1:=hxd.cell d1;have HF:=zH (zj1 (HA.out.seen.ext (by decide) HYD.out) d);generalize hasM aS d=z2 at HF;refine wp_region_still_tail 11 (by kernel_rfl) (by kernel_rfl) ?_;simp only [List.take_succ_cons,List.take_zero,List.drop_succ_cons,List.drop_zero];change wpStill _ _ (wr).drew (fun a'=>wpList _ _ _ _ a' (wr).drew) _ _;rw [HWD.out];generalize hA:Act.mk _ _=A0;repeat (refine wpStill_step (fun K2 hK2=>?_);subst hA;go_simp;(try rw [if_neg (by decide)]);generalize hA:Act.mk _ _=A0;refine hK2 A0 ?_;clear hK2 K2)
        refine wpStill_nil ?_;subst hA;go_wp2_with fail;refine HF.out.mono ?_;rintro r w3 ⟨rfl,hx3⟩
        cases z2 with
        | false=>go_wp2_with fail;go_ret;exact⟨⟨false,rfl,by simp⟩,HYD.out.trans hx3⟩
        | true =>
         go_wp2_with fail;go_roundw
         case rel=>exact⟨p2++[d],q2,by rw [HL2.out];simp,by simp <;> omega,HX2D.out.trans hx3⟩
         case measure=>simp [intOf];omega
       | nil =>
        rw [List.append_nil] at hl2;have hle2:p2.length=it.2.length:=(by rw [hl2]);have hn2:¬ p2.length < it.2.length:=(by omega);clear hl2 hx2 hle2;go_wp2_with fail;go_roundw
        case rel=>exact⟨pre++[it],post,by rw [HL.out];simp,by simp <;> omega,HX5.out⟩
        case measure=>simp [intOf];omega
     | nil=>rw [List.append_nil] at hl;have hle:pre.length=ai.length:=(by rw [hl]);have hn1:¬ pre.length < ai.length:=(by omega);clear hl hx hle hrA;go_wp2_with fail;go_ret;exact⟨⟨true,rfl,fun _=>⟨HGG.out,HKD.out (by decide)⟩⟩,HY.out⟩
end
end Go.Proofs.YtdikcgmdmcfpfaaGreat
