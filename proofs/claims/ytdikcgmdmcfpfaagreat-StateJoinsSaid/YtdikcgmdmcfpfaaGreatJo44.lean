/- gossamerref13: May ends, and answers one or the other. Printed by pp.py out of src/RefL2.src. -/
import Derived.Test.YtdikcgmdmcfpfaaGreatJo25
import Derived.Test.YtdikcgmdmcfpfaaGreatJo43
set_option linter.unusedVariables false
set_option linter.unusedSimpArgs false
set_option maxRecDepth 100000
set_option maxHeartbeats 40000000
namespace Go.Proofs.YtdikcgmdmcfpfaaGreat
section
open Go.RowKit Go.Shelf
attribute [local go_sem] QN
theorem zrc {S:Nat->Prop} {v:Value} {l:List Item} {w:World} (hv:Sl itemT w S v l) (hl0:(zac l).length<=100000) :
  Calls Tryz.prog 128 #[v] w fun e w'=>IsB e/\Ext w w':=by
 have hv':=hv;obtain⟨A,c,rfl,h1,h2⟩:=hv.form;have HAT:=zH (fun (pre post:List Item) (x:Item) (wr:World) (h:Ext w wr) (hl:l=pre++x :: post)=>zcu hv' h hl);clear hv hv';go_enter Tryz.func128,Tryz.ntmps128;go_wp2_with fail
 go_loopw [3,4] (fun o i wr=>∃ (pre post:List Item) (D:List Dot),l=pre++post/\i=I pre.length/\D.length<=(zac pre).length/\Own wr w.heap.size 97 2 o D.length (D.flatMap zag)/\Ext w wr) (fun _ i _=>l.length - (intOf i).toNat)
 case atStart=>exact⟨[],l,[],rfl,rfl,by simp,Own.nil _ _ _ _ _,Ext.refl _⟩
 case round =>
  obtain⟨pre,post,D,hl,rfl,hD,hown,hx⟩:=hrel
  cases post with
  | nil=>rw [List.append_nil] at hl;subst hl;go_wp2_with fail;go_ret;exact⟨⟨_,rfl⟩,hx⟩
  | cons x post =>
   obtain⟨b,o,u,rfl,e0,e1,hds⟩:=HAT.out pre post x wr hx hl;obtain⟨B,m,rfl,-,-⟩:=hds.form;have hlt:pre.length < l.length:=(by rw [hl];simp);have HX:=zH hx;have hn0:=hx.size
   have hpl:D.length+x.2.length<=100000:=by have h:=hl0;rw [hl,show pre++x :: post=(pre++[x])++post by simp,show zac ((pre++[x])++post)=zac (pre++[x])++zac post by simp [zac],zh0] at h;simp only [List.length_append,List.length_map] at h;omega
   have HPL:=zH (show (D++x.2).length<=(zac (pre++[x])).length by rw [zh0];simp;omega);have HO:=zH hown;have HDS:=zH hds;have HDT:=zH (fun (p2 q2:List Dot) (d:Dot) (wr':World) (h:Ext w wr') (hl:x.2=p2++d :: q2)=>zdv HDS.out h hl);obtain⟨CD,nD,rfl,-,-⟩:=hown.form;clear hown hds
   by_cases t1:(x.1.length:Int) > 4096
   ·clear hl hx;go_wp2_with fail;go_quiet (fail);go_wp2_with fail;go_ret;exact⟨⟨_,rfl⟩,HX.out.drewN _⟩
   ·have t1b:decide ((4096:Int) < (x.1.length:Int))=false:=decide_eq_false (by omega)
    by_cases t2:(x.2.length:Int) < 1
    ·clear hl hx;go_wp2_with fail;go_quiet (fail);go_wp2_with fail;go_ret;exact⟨⟨_,rfl⟩,HX.out.drewN _⟩
    ·have t2b:decide ((x.2.length:Int) < 1)=false:=decide_eq_false t2;have HLE:=zH (show l=(pre++[x])++post by rw [hl];simp);rcases List.eq_nil_or_concat pre with hp | ⟨q,y,hp⟩
     case' inl=>subst hp;simp only [List.length_nil,Nat.zero_mul,Nat.add_zero] at e0 e1 hlt ⊢
     case' inr =>
      subst hp;have hl2:l=q++y :: (x :: post):=(by rw [hl];simp);obtain⟨b',o',u',e,q0,q1,-⟩:=HAT.out q (x :: post) y wr hx hl2;cases e;have hlq:q.length < l.length:=(by rw [hl2];simp);simp only [List.length_concat] at e0 e1 hlt ⊢;have k0:(0:Int)<=(q.length:Int):=(by omega);have k1:((q.length:Int)) < (l.length:Int):=(by omega);have k2:((q.length:Int)+1) > 0:=(by omega);have k3:(((q.length+1:Nat):Int)) > 0:=(by omega);have k5:IntKind.i64.wrap (q.length:Int)=q.length:=(by simp [IntKind.wrap,IntKind.signed,IntKind.bits];omega);have k4:IntKind.i64.wrap ((q.length:Int)+1 - 1)=q.length:=(by rw [show (q.length:Int)+1 - 1=q.length by omega];simp [IntKind.wrap,IntKind.signed,IntKind.bits];omega);have k6:((q.length:Int)).toNat=q.length:=(by omega);clear hl2;rcases zci x.1 y.1 with ⟨p1,p2,p3,p4,p5⟩ | p1 | ⟨p1,p2,p3,p4,p5⟩
      ·skip
       go_wp2_with fail;go_quiet (fail);go_wp2_with fail;go_ret;exact⟨⟨_,rfl⟩,HX.out.drewN _⟩
      ·rw [p1] at e0 t1 t1b;have p0:Op.bytesLess y.1 y.1=false:=zal _;clear p1;go_wp2_with fail;go_quiet (fail);go_wp2_with fail;go_ret;exact⟨⟨_,rfl⟩,HX.out.drewN _⟩
     all_goals
      clear hl hx;go_wp2_with fail;go_quiet (fail);go_wp2_with fail;obtain⟨wo,rfl⟩:∃ wo:World,wo=wr:=⟨_,rfl⟩
      go_loopw [6] (fun k wr=>∃ (p2 q2:List Dot),x.2=p2++q2/\k=I p2.length/\Ext wo wr) (fun k _=>x.2.length - (intOf k).toNat)
      case atStart=>exact⟨[],x.2,rfl,rfl,(Ext.refl _).drewN _⟩
      case round =>
       obtain⟨p2,q2,hl2,rfl,hx2⟩:=hrel;have HY:=zH (HX.out.trans hx2);have hn3:=HY.out.size;have HX2:=zH hx2
       cases q2 with
       | nil =>
        rw [List.append_nil] at hl2;have hle:p2.length=x.2.length:=(by rw [hl2]);have hn1:¬ p2.length < x.2.length:=(by omega);clear hl2 hx2 hle
        go_wp2_with (at_builtin;refine zab rfl (.tmp 101) (.tmp 102) 94 rfl w.heap.size 97 2 24 (.agg #[St [],U 0]) Tryz.underlying94 zd1 rfl (by omega) _ D.length (D.flatMap zag) rfl (HO.out.ext HX2.out) B x.2.length m (x.2.flatMap zag) rfl ((zh8 HDS.out).ext HY.out) (by omega) (by omega) (by omega) ?_;intro v3 w3 hown3 hgr3)
        go_roundw
        case rel=>exact⟨_++[x],post,D++x.2,HLE.out,by simp <;> omega,by have:=HPL.out;simpa using this,by simpa using hown3,Ext.grewOwn HY.out hgr3 (HO.out.ext HX2.out) (Nat.le_refl _)⟩
        case measure=>simp [intOf];omega
       | cons d q2 =>
        obtain⟨b2,o2,rfl,d0,d1⟩:=HDT.out p2 q2 d wr HY.out hl2;have hlt2:p2.length < x.2.length:=(by rw [hl2];simp);have HL2:=zH hl2
        by_cases g1:d.1 = []
        ·have g1b:d.1.isEmpty=true:=(by simp [g1]);clear hl2 hx2 g1;go_wp2_with fail;go_quiet (fail);go_wp2_with fail;go_ret;exact⟨⟨_,rfl⟩,HY.out.drewN _⟩
        ·have g1b:d.1.isEmpty=false:=(by simp [g1]);clear g1
         by_cases g2:(d.2:Int) < 1
         ·clear hl2 hx2;go_wp2_with fail;go_quiet (fail);go_wp2_with fail;go_ret;exact⟨⟨_,rfl⟩,HY.out.drewN _⟩
         ·have g4:decide ((d.2:Int) < 1)=false:=decide_eq_false g2
          by_cases g3:(d.2:Int) > 281474976710656
          ·clear hl2 hx2;go_wp2_with fail;go_quiet (fail);go_wp2_with fail;go_ret;exact⟨⟨_,rfl⟩,HY.out.drewN _⟩
          ·have g5:decide ((281474976710656:Int) < (d.2:Int))=false:=decide_eq_false (by omega);rcases List.eq_nil_or_concat p2 with rfl | ⟨p3,f,rfl⟩
           ·simp only [List.length_nil,Nat.zero_mul,Nat.add_zero] at d0 d1 hlt2 ⊢;clear hl2 hx2;obtain⟨Wd,hWd⟩:∃ Wd,wr.drew=Wd:=⟨_,rfl⟩
            have hxd:Ext wr Wd:=(by rw [<- hWd];exact (Ext.refl wr).drew);have HWD:=zH hWd;have HYD:=zH (HY.out.trans hxd);have HX2D:=zH (HX2.out.trans hxd);have HOD:=zH (HO.out.ext HX2D.out);replace d0:=hxd.cell d0;replace d1:=hxd.cell d1;go_wp2_with fail;refine wp_region_still_tail 45 (by kernel_rfl) (by kernel_rfl) ?_;simp only [List.take_succ_cons,List.take_zero,List.drop_succ_cons,List.drop_zero];change wpStill _ _ (wr).drew (fun a'=>wpList _ _ _ _ a' (wr).drew) _ _;rw [HWD.out];generalize hA:Act.mk _ _=A0;repeat (refine wpStill_step (fun K2 hK2=>?_);subst hA;go_simp;(try rw [if_neg (by decide)]);generalize hA:Act.mk _ _=A0;refine hK2 A0 ?_;clear hK2 K2)
            refine wpStill_nil ?_;subst hA;go_wp2_with fail;refine (zfw d (zax HOD.out)).mono ?_;rintro r w3 ⟨rfl,hx3⟩;generalize decide (d ∈ D)=z
            cases z with
            | true=>go_wp2_with fail;go_ret;exact⟨⟨_,rfl⟩,HYD.out.trans hx3⟩
            | false =>
             go_wp2_with fail;go_roundw
             case rel=>exact⟨[]++[d],q2,by rw [HL2.out];simp,by simp <;> omega,HX2D.out.trans hx3⟩
             case measure=>simp [intOf];omega
           ·have hl3:x.2=p3++f :: (d :: q2):=(by rw [hl2];simp);obtain⟨b3,o3,e,f0,f1⟩:=HDT.out p3 (d :: q2) f wr HY.out hl3;cases e;have hlq3:p3.length < x.2.length:=(by rw [hl3];simp);simp only [List.length_concat] at d0 d1 hlt2 ⊢;have j0:(0:Int)<=(p3.length:Int):=(by omega);have j7:(0:Int)<=(p3.length:Int)+1:=(by omega);have j8:(p3.length:Int)+1 < (x.2.length:Int):=(by omega);have j9:((p3.length:Int)+1).toNat=p3.length+1:=(by omega);have j1:((p3.length:Int)) < (x.2.length:Int):=(by omega);have j2:((p3.length:Int)+1) > 0:=(by omega);have j3:(((p3.length+1:Nat):Int)) > 0:=(by omega);have j5:IntKind.i64.wrap (p3.length:Int)=p3.length:=(by simp [IntKind.wrap,IntKind.signed,IntKind.bits];omega);have j4:IntKind.i64.wrap ((p3.length:Int)+1 - 1)=p3.length:=(by rw [show (p3.length:Int)+1 - 1=p3.length by omega];simp [IntKind.wrap,IntKind.signed,IntKind.bits];omega);have j6:((p3.length:Int)).toNat=p3.length:=(by omega);clear hl2 hx2 hl3;obtain⟨Wd,hWd⟩:∃ Wd,wr.drew=Wd:=⟨_,rfl⟩
            have hxd:Ext wr Wd:=(by rw [<- hWd];exact (Ext.refl wr).drew);have HWD:=zH hWd;have HYD:=zH (HY.out.trans hxd);have HX2D:=zH (HX2.out.trans hxd);have HOD:=zH (HO.out.ext HX2D.out);replace d0:=hxd.cell d0;replace d1:=hxd.cell d1;replace f0:=hxd.cell f0;replace f1:=hxd.cell f1;have HC:=zH (zmf f d Wd);generalize cmpD f d=cm at HC;go_wp2_with fail;refine zj8 (by kernel_rfl) ?_;change wpAny _ _ _ _ _ _ _ (wr).drew;rw [HWD.out];refine zd4 (k:=0) (n:=35) (by kernel_rfl) (by decide) ?_;simp only [List.drop_zero,List.drop_succ_cons,List.take_succ_cons,List.take_zero,List.take_nil,Nat.reduceSub,List.drop_nil];generalize hA:Act.mk _ _=A0;repeat (refine wpStill_step (fun K2 hK2=>?_);subst hA;go_simp;(try rw [if_neg (by decide)]);generalize hA:Act.mk _ _=A0;refine hK2 A0 ?_;clear hK2 K2)
            refine wpStill_nil ?_;subst hA;refine zj0 (k:=35) 40 (by decide) (by decide) (by kernel_rfl) ?_;simp only [List.drop_zero,List.drop_succ_cons,List.take_succ_cons,List.take_zero,List.take_nil,Nat.reduceSub,List.drop_nil]
            by_cases hcm:cm ≥ 0
            ·have hcmb:decide (cm < 0)=false:=decide_eq_false (by omega);go_wp2_with fail;refine HC.out.mono ?_;rintro r W2 ⟨rfl,hx4⟩;go_wp2_with fail;refine zd4 (k:=40) (n:=45) (by kernel_rfl) (by decide) ?_;simp only [List.drop_zero,List.drop_succ_cons,List.take_succ_cons,List.take_zero,List.take_nil,Nat.reduceSub,List.drop_nil];generalize hA:Act.mk _ _=A0;repeat (refine wpStill_step (fun K2 hK2=>?_);subst hA;go_simp;(try rw [if_neg (by decide)]);generalize hA:Act.mk _ _=A0;refine hK2 A0 ?_;clear hK2 K2)
             refine wpStill_nil ?_;subst hA;refine zge (k:=45) (by kernel_rfl) ?_;simp only [List.drop_zero,List.drop_succ_cons,List.take_succ_cons,List.take_zero,List.take_nil,Nat.reduceSub,List.drop_nil];go_wp2_with fail;go_ret;exact⟨⟨_,rfl⟩,HYD.out.trans hx4⟩
            ·have hcmb:decide (0<=cm)=false:=decide_eq_false (by omega);go_wp2_with fail;refine HC.out.mono ?_;rintro r W2 ⟨rfl,hx4⟩;replace d0:=hx4.cell d0;replace d1:=hx4.cell d1;have HYD:=zH (HYD.out.trans hx4);have HX2D:=zH (HX2D.out.trans hx4);have HOD:=zH (HOD.out.ext hx4);go_wp2_with fail;refine zd4 (k:=40) (n:=45) (by kernel_rfl) (by decide) ?_;simp only [List.drop_zero,List.drop_succ_cons,List.take_succ_cons,List.take_zero,List.take_nil,Nat.reduceSub,List.drop_nil];generalize hA:Act.mk _ _=A0;repeat (refine wpStill_step (fun K2 hK2=>?_);subst hA;go_simp;(try rw [if_neg (by decide)]);generalize hA:Act.mk _ _=A0;refine hK2 A0 ?_;clear hK2 K2)
             refine wpStill_nil ?_;subst hA;refine zge (k:=45) (by kernel_rfl) ?_;simp only [List.drop_zero,List.drop_succ_cons,List.take_succ_cons,List.take_zero,List.take_nil,Nat.reduceSub,List.drop_nil];go_wp2_with fail;refine (zfw d (zax HOD.out)).mono ?_;rintro r w3 ⟨rfl,hx3⟩;generalize decide (d ∈ D)=z
             cases z with
             | true=>go_wp2_with fail;go_ret;exact⟨⟨_,rfl⟩,HYD.out.trans hx3⟩
             | false =>
              go_wp2_with fail;go_roundw
              case rel=>exact⟨p3++[f]++[d],q2,by rw [HL2.out];simp,by simp <;> omega,HX2D.out.trans hx3⟩
              case measure=>simp [intOf];omega
end
end Go.Proofs.YtdikcgmdmcfpfaaGreat
