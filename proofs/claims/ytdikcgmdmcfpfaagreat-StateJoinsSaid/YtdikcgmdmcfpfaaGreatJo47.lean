/- gossamerref16: May: who is let through is as the joins want it. Printed by pp.py out of src/RefL4.src. -/
import Derived.Test.YtdikcgmdmcfpfaaGreatJo46
import Derived.Test.YtdikcgmdmcfpfaaGreatJo39
import Derived.Test.YtdikcgmdmcfpfaaGreatJo31
set_option linter.unusedVariables false
set_option linter.unusedSimpArgs false
set_option maxRecDepth 100000
set_option maxHeartbeats 40000000
namespace Go.Proofs.YtdikcgmdmcfpfaaGreat
section
open Go.RowKit Go.Shelf
attribute [local go_sem] QN
theorem zxg {q:List Entry} {x:Entry} (h:RiseE q) (h3:∀ r y,q=r++[y]->ltS y.key x.key=true):RiseE (q++[x]):=by
 refine List.pairwise_append.2 ⟨h,List.pairwise_singleton _ _,fun a ha b hb=>?_⟩;rw [List.mem_singleton.1 hb];rcases List.eq_nil_or_concat q with rfl | ⟨r,y,rfl⟩
 ·simp at ha
 ·rw [List.concat_eq_append] at *;have:=h3 r y rfl;rcases List.mem_append.1 ha with ha | ha
  ·exact zap ((List.pairwise_append.1 h).2.2 a ha y (by simp)) this
  ·rw [List.mem_singleton.1 ha];exact this
theorem zuv {q:List Entry} {x y:Entry} (h:RiseE (q.concat y)) (h3:ltS y.key x.key=true):RiseE (q.concat y++[x]) :=
 zxg h fun r z hz=>by rw [List.concat_eq_append] at hz;obtain⟨-,hz⟩:=List.append_inj' hz rfl;have:=List.cons.inj hz;rw [<- this.1];exact h3
theorem zsw {q:List Str} {x y:Str} (h:RiseS (q.concat y)) (h3:ltS y x=true):RiseS (q.concat y++[x]):=by
 refine List.pairwise_append.2 ⟨h,List.pairwise_singleton _ _,fun a ha b hb=>?_⟩;rw [List.mem_singleton.1 hb];rw [List.concat_eq_append] at *;rcases List.mem_append.1 ha with ha | ha
 ·exact zap ((List.pairwise_append.1 h).2.2 a ha y (by simp)) h3
 ·rw [List.mem_singleton.1 ha];exact h3
theorem zny (a b:Str):(ltS a b=true/\ltS b a=false/\(a == b)=false/\(b == a)=false) ∨ (ltS a b=false/\ltS b a=false/\(a == b)=true/\(b == a)=true) ∨ (ltS a b=false/\ltS b a=true/\(a == b)=false/\(b == a)=false):=by
 rcases zci a b with ⟨h1,h2,h3,h4,-⟩ | rfl | ⟨h1,h2,h3,h4,-⟩
 ·exact .inl ⟨h1,h2,h3,h4⟩
 ·exact .inr (.inl ⟨zal _,zal _,by simp,by simp⟩)
 ·exact .inr (.inr ⟨h1,h2,h3,h4⟩)
theorem zla {S:Nat->Prop} {s:State} {a1 a2 a3:Value} {w:World} (hs:StAt w S s a1 a2 a3) (hb:∀ e ∈ s.entries,RefSm e/\e.key.length<=1000000) :
  Calls Tryz.prog 29 #[stV a1 a2 a3] w fun r w'=>(∃ m,r=.returned (.bool m)/\(m=true->RM s))/\Ext w w':=by
 obtain⟨sa,l,sp⟩:=s;simp only at hb;obtain⟨A1,n1,rfl,-,-⟩:=hs.all.form;obtain⟨A2,n2,rfl,hln,hln2⟩:=hs.entries.form;obtain⟨A3,n3,rfl,hpn,hpn2⟩:=hs.pruned.form;have hx0:=(Ext.refl w).alloc (.cells #[.slice A1 sa.length n1,.slice A2 l.length n2,.slice A3 sp.length n3] 30);have RA:=zH (zah w 30 [.slice A1 sa.length n1,.slice A2 l.length n2,.slice A3 sp.length n3]);have HS:=zH hs;have HX:=zH hx0;have HB:=zH hb;clear hs hx0 hb;have k0:=RA.out.cell (j:=0) rfl;go_enter Tryz.func29,Tryz.ntmps29;go_wp2_with fail;generalize hW0:w.alloc (.cells #[.slice A1 sa.length n1,.slice A2 l.length n2,.slice A3 sp.length n3] 30)=W0 at *;clear hW0;refine (zkz (HS.out.all.ext (by decide) HX.out)).mono ?_;rintro r W1 ⟨⟨m1,rfl,-⟩,hx1⟩;have RA:=zH (RA.out.ext hx1);have HX:=zH (HX.out.trans hx1);clear hx1 k0;cases m1
 ·skip
  go_wp2_with fail;go_ret;exact⟨⟨false,rfl,by simp⟩,HX.out⟩
 have k1:=RA.out.cell (j:=1) rfl;go_wp2_with fail
 go_loopw [3] (fun i wr=>∃ (pre post:List Entry),l=pre++post/\i=I pre.length/\(∀ e ∈ pre,GoodM e.seen/\e.key ≠ [])/\RiseE pre/\Ext W1 wr) (fun i _=>l.length - (intOf i).toNat)
 case atStart=>exact⟨[],l,rfl,rfl,by simp,List.Pairwise.nil,Ext.refl _⟩
 case round =>
  obtain⟨pre,post,hl,rfl,hgd,hri,hx⟩:=hrel;have HY:=zH (HX.out.trans hx);have hrA:=RA.out.ext hx;clear k1;obtain⟨k0,k1,k2⟩:=hrA.p3;have HX1:=zH hx
  cases post with
  | cons e post =>
   obtain⟨b,o,v1,v2,v3,rfl,e0,e1,e2,e3,e4,e5,e6,hEA⟩:=zbq HS.out.entries HY.out hl;obtain⟨B1,m1,rfl,-,-⟩:=hEA.seen.form;obtain⟨B2,m2,rfl,-,-⟩:=hEA.counts.form;obtain⟨B3,m3,rfl,-,-⟩:=hEA.items.form;have hlt:pre.length < l.length:=(by rw [hl];simp);have HBE:=zH (HB.out e (by rw [hl];simp));have HEA:=zH hEA;have HLE:=zH (show l=(pre++[e])++post by rw [hl];simp);have HGD:=zH hgd;have HRI:=zH hri;have hxp:Ext wr (wr.alloc (.cells #[St e.key,.slice B1 e.seen.length m1,.slice B2 e.counts.length m2,.slice B3 e.items.length m3,U e.cell.1,St e.cell.2.1,.bool e.cell.2.2] 37)):=(Ext.refl wr).alloc _;have hrP:RowIs (wr.alloc (.cells #[St e.key,.slice B1 e.seen.length m1,.slice B2 e.counts.length m2,.slice B3 e.items.length m3,U e.cell.1,St e.cell.2.1,.bool e.cell.2.2] 37)) wr.heap.size 37 [St e.key,.slice B1 e.seen.length m1,.slice B2 e.counts.length m2,.slice B3 e.items.length m3,U e.cell.1,St e.cell.2.1,.bool e.cell.2.2] []:=zah wr 37 [St e.key,.slice B1 e.seen.length m1,.slice B2 e.counts.length m2,.slice B3 e.items.length m3,U e.cell.1,St e.cell.2.1,.bool e.cell.2.2];rcases List.eq_nil_or_concat pre with hp | ⟨q,y,hp⟩
   case' inl=>subst hp;have HR:=zH (show RiseE ([]++[e]) from List.pairwise_singleton _ _);have y0:=e0;simp only [List.length_nil,Nat.zero_mul,Nat.add_zero] at e0 e1 e2 e3 e4 e5 e6 hlt ⊢
   case' inr=>subst hp;have hl2:l=q++y :: (e :: post):=(by rw [hl];simp);obtain⟨b',o',u1,u2,u3,ee,y0,-,-,-,-,-,-,-⟩:=zbq HS.out.entries HY.out hl2;cases ee;have hlq:q.length < l.length:=(by rw [hl2];simp);have HRR:=zH (show ltS y.key e.key=true->RiseE (q.concat y++[e]) from zuv hri);simp only [List.length_concat] at e0 e1 e2 e3 e4 e5 e6 hlt ⊢;have j0:(0:Int)<=(q.length:Int):=(by omega);have j7:(0:Int)<=(q.length:Int)+1:=(by omega);have j8:(q.length:Int)+1 < (l.length:Int):=(by omega);have j9:((q.length:Int)+1).toNat=q.length+1:=(by omega);have j1:((q.length:Int)) < (l.length:Int):=(by omega);have j2:((q.length:Int)+1) > 0:=(by omega);have j3:(((q.length+1:Nat):Int)) > 0:=(by omega);have j5:IntKind.i64.wrap (q.length:Int)=q.length:=(by simp [IntKind.wrap,IntKind.signed,IntKind.bits];omega);have j4:IntKind.i64.wrap ((q.length:Int)+1 - 1)=q.length:=(by rw [show (q.length:Int)+1 - 1=q.length by omega];simp [IntKind.wrap,IntKind.signed,IntKind.bits];omega);have j6:((q.length:Int)).toNat=q.length:=(by omega);rcases zny e.key y.key with ⟨p1,p2,p3,p4⟩ | ⟨p1,p2,p3,p4⟩ | ⟨p1,p2,p3,p4⟩
   all_goals
    clear hl hx hgd hri hEA hrA
    (try clear hl2)
    go_wp2_with fail;generalize hWP:wr.alloc (.cells #[St e.key,.slice B1 e.seen.length m1,.slice B2 e.counts.length m2,.slice B3 e.items.length m3,U e.cell.1,St e.cell.2.1,.bool e.cell.2.2] 37)=WP at *;clear hWP;obtain⟨q0,q1,q2,q3,q4,q5,q6⟩:=hrP.p7;obtain⟨Wd,hWd⟩:∃ Wd,WP.drew=Wd:=⟨_,rfl⟩
    have hxd:Ext wr Wd:=(by rw [<- hWd];exact hxp.drew);have hxe:Ext WP Wd:=(by rw [<- hWd];exact (Ext.refl WP).drew);have HWD:=zH hWd;replace q0:=hxe.cell q0;replace q1:=hxe.cell q1;replace q2:=hxe.cell q2;replace q3:=hxe.cell q3;replace q4:=hxe.cell q4;replace q5:=hxe.cell q5;replace q6:=hxe.cell q6;replace k0:=hxd.cell k0;replace k1:=hxd.cell k1;replace k2:=hxd.cell k2;replace y0:=hxd.cell y0;have HY:=zH (HY.out.trans hxd);have HX1:=zH (HX1.out.trans hxd);clear e0 e1 e2 e3 e4 e5 e6 hrP hxp hWd;refine zj8 (by kernel_rfl) ?_;change wpAny _ _ _ _ _ _ _ (WP).drew;rw [HWD.out];refine zj0 (k:=0) 4 (by decide) (by decide) (by kernel_rfl) ?_;simp only [List.drop_zero,List.drop_succ_cons,List.take_succ_cons,List.take_zero,List.take_nil,Nat.reduceSub,List.drop_nil];go_wp2_with fail;refine (zri (HEA.out.ext HY.out) HBE.out.1 HBE.out.2).mono ?_;rintro r W3 ⟨⟨mm,rfl,hm⟩,hx3⟩;have HM:=zH hm;clear hm;replace k0:=hx3.cell k0;replace k1:=hx3.cell k1;replace k2:=hx3.cell k2;replace q0:=hx3.cell q0;replace q1:=hx3.cell q1;replace q2:=hx3.cell q2;replace q3:=hx3.cell q3;replace q4:=hx3.cell q4;replace q5:=hx3.cell q5;replace q6:=hx3.cell q6
    (try replace e0:=hx3.cell e0)
    (try replace y0:=hx3.cell y0)
    have HY:=zH (HY.out.trans hx3);have HX1:=zH (HX1.out.trans hx3);cases mm
    case' false =>
     go_wp2_with fail;refine zd4 (k:=4) (n:=24) (by kernel_rfl) (by decide) ?_;simp only [List.drop_zero,List.drop_succ_cons,List.take_succ_cons,List.take_zero,List.take_nil,Nat.reduceSub,List.drop_nil];generalize hA:Act.mk _ _=A0;repeat (refine wpStill_step (fun K2 hK2=>?_);subst hA;go_simp;(try rw [if_neg (by decide)]);generalize hA:Act.mk _ _=A0;refine hK2 A0 ?_;clear hK2 K2)
     refine wpStill_nil ?_;subst hA;refine zge (k:=24) (by kernel_rfl) ?_;simp only [List.drop_zero,List.drop_succ_cons,List.take_succ_cons,List.take_zero,List.take_nil,Nat.reduceSub,List.drop_nil];go_wp2_with fail;go_ret;exact⟨⟨false,rfl,by simp⟩,HY.out⟩
    have HGN:=zH (HM.out rfl);go_wp2_with fail;refine zd4 (k:=4) (n:=8) (by kernel_rfl) (by decide) ?_;simp only [List.drop_zero,List.drop_succ_cons,List.take_succ_cons,List.take_zero,List.take_nil,Nat.reduceSub,List.drop_nil];generalize hA:Act.mk _ _=A0;repeat (refine wpStill_step (fun K2 hK2=>?_);subst hA;go_simp;(try rw [if_neg (by decide)]);generalize hA:Act.mk _ _=A0;refine hK2 A0 ?_;clear hK2 K2)
    refine wpStill_nil ?_;subst hA;refine zj0 (k:=8) 15 (by decide) (by decide) (by kernel_rfl) ?_;simp only [List.drop_zero,List.drop_succ_cons,List.take_succ_cons,List.take_zero,List.take_nil,Nat.reduceSub,List.drop_nil];go_wp2_with fail;refine (zj7 (HS.out.all.ext (by decide) HY.out) (HEA.out.seen.ext (by decide) HY.out) (by have:=HBE.out.1.seen;omega)).mono ?_;rintro r W4 ⟨rfl,hx4⟩;generalize za3 sa e.seen=zc;replace k0:=hx4.cell k0;replace k1:=hx4.cell k1;replace k2:=hx4.cell k2;replace q0:=hx4.cell q0;replace q1:=hx4.cell q1;replace q2:=hx4.cell q2;replace q3:=hx4.cell q3;replace q4:=hx4.cell q4;replace q5:=hx4.cell q5;replace q6:=hx4.cell q6
    (try replace e0:=hx4.cell e0)
    (try replace y0:=hx4.cell y0)
    have HY:=zH (HY.out.trans hx4);have HX1:=zH (HX1.out.trans hx4);cases zc
    case' false =>
     go_wp2_with fail;refine zd4 (k:=15) (n:=24) (by kernel_rfl) (by decide) ?_;simp only [List.drop_zero,List.drop_succ_cons,List.take_succ_cons,List.take_zero,List.take_nil,Nat.reduceSub,List.drop_nil];generalize hA:Act.mk _ _=A0;repeat (refine wpStill_step (fun K2 hK2=>?_);subst hA;go_simp;(try rw [if_neg (by decide)]);generalize hA:Act.mk _ _=A0;refine hK2 A0 ?_;clear hK2 K2)
     refine wpStill_nil ?_;subst hA;refine zge (k:=24) (by kernel_rfl) ?_;simp only [List.drop_zero,List.drop_succ_cons,List.take_succ_cons,List.take_zero,List.take_nil,Nat.reduceSub,List.drop_nil];go_wp2_with fail;go_ret;exact⟨⟨false,rfl,by simp⟩,HY.out⟩
    go_wp2_with fail;refine zd4 (k:=15) (n:=24) (by kernel_rfl) (by decide) ?_;simp only [List.drop_zero,List.drop_succ_cons,List.take_succ_cons,List.take_zero,List.take_nil,Nat.reduceSub,List.drop_nil];generalize hA:Act.mk _ _=A0;repeat (refine wpStill_step (fun K2 hK2=>?_);subst hA;go_simp;(try rw [if_neg (by decide)]);generalize hA:Act.mk _ _=A0;refine hK2 A0 ?_;clear hK2 K2)
    refine wpStill_nil ?_;subst hA;refine zge (k:=24) (by kernel_rfl) ?_;simp only [List.drop_zero,List.drop_succ_cons,List.take_succ_cons,List.take_zero,List.take_nil,Nat.reduceSub,List.drop_nil];go_wp2_with fail
    first
    |go_ret
     exact⟨⟨false,rfl,by simp⟩,HY.out⟩
    |go_roundw
     case rel=>exact⟨_++[e],post,HLE.out,by simp <;> omega,(fun x hx=>by rcases List.mem_append.1 hx with h | h;exact HGD.out x h;rw [List.mem_singleton.1 h];exact HGN.out),(by first | exact HR.out | exact HRR.out p2),HX1.out⟩
     case measure=>simp [intOf];omega
  | nil =>
   rw [List.append_nil] at hl;have hle:pre.length=l.length:=(by rw [hl]);have hn1:¬ pre.length < l.length:=(by omega);have HRM:=zH (show (∀ e ∈ l,GoodM e.seen/\e.key ≠ [])/\RiseE l by rw [hl];exact⟨hgd,hri⟩);clear hl hle hgd hri hx hrA;go_wp2_with fail;obtain⟨W6,rfl⟩:∃ W6:World,W6=wr:=⟨_,rfl⟩
   go_loopw [5] (fun i wr=>∃ (pre post:List Str),sp=pre++post/\i=I pre.length/\RiseS pre/\Ext W1 wr) (fun i _=>sp.length - (intOf i).toNat)
   case atStart=>exact⟨[],sp,rfl,rfl,List.Pairwise.nil,HX1.out⟩
   case round =>
    obtain⟨pre,post,hl,rfl,hri,hx⟩:=hrel;have HY:=zH (HX.out.trans hx);have hrA:=RA.out.ext hx;clear k0 k1 k2;obtain⟨k0,k1,k2⟩:=hrA.p3;have HX1:=zH hx
    cases post with
    | cons x post =>
     obtain⟨b,o,rfl,e0⟩:=zdw HS.out.pruned HY.out hl;have hlt:pre.length < sp.length:=(by rw [hl];simp);have HLE:=zH (show sp=(pre++[x])++post by rw [hl];simp)
     by_cases g1:x = []
     ·have g1b:x.isEmpty=true:=(by simp [g1]);clear hl hx hri hrA g1;go_wp2_with fail;go_quiet (fail);go_wp2_with fail;go_ret;exact⟨⟨false,rfl,by simp⟩,HY.out.drewN _⟩
     have g1b:x.isEmpty=false:=(by simp [g1]);clear g1;obtain⟨Wd,hWd⟩:∃ Wd,wr.drew=Wd:=⟨_,rfl⟩
     have hxd:Ext wr Wd:=(by rw [<- hWd];exact (Ext.refl wr).drew);have HWD:=zH hWd;have HF:=zH (zd9 x (HS.out.all.ext (by decide) (HY.out.trans hxd)));generalize ofM sa x=nn at HF;rcases List.eq_nil_or_concat pre with hp | ⟨q,y,hp⟩
     case' inl=>subst hp;have HR:=zH (show RiseS ([]++[x]) from List.pairwise_singleton _ _);have y0:=e0;simp only [List.length_nil,Nat.add_zero] at e0 hlt ⊢
     case' inr=>subst hp;have hl2:sp=q++y :: (x :: post):=(by rw [hl];simp);obtain⟨b',o',ee,y0⟩:=zdw HS.out.pruned HY.out hl2;cases ee;have hlq:q.length < sp.length:=(by rw [hl2];simp);have HRR:=zH (show ltS y x=true->RiseS (q.concat y++[x]) from zsw hri);simp only [List.length_concat] at e0 hlt ⊢;have j0:(0:Int)<=(q.length:Int):=(by omega);have j7:(0:Int)<=(q.length:Int)+1:=(by omega);have j8:(q.length:Int)+1 < (sp.length:Int):=(by omega);have j9:((q.length:Int)+1).toNat=q.length+1:=(by omega);have j1:((q.length:Int)) < (sp.length:Int):=(by omega);have j2:((q.length:Int)+1) > 0:=(by omega);have j3:(((q.length+1:Nat):Int)) > 0:=(by omega);have j5:IntKind.i64.wrap (q.length:Int)=q.length:=(by simp [IntKind.wrap,IntKind.signed,IntKind.bits];omega);have j4:IntKind.i64.wrap ((q.length:Int)+1 - 1)=q.length:=(by rw [show (q.length:Int)+1 - 1=q.length by omega];simp [IntKind.wrap,IntKind.signed,IntKind.bits];omega);have j6:((q.length:Int)).toNat=q.length:=(by omega);rcases zny x y with ⟨p1,p2,p3,p4⟩ | ⟨p1,p2,p3,p4⟩ | ⟨p1,p2,p3,p4⟩
     all_goals
      clear hl hx hri hrA
      (try clear hl2)
      rcases Nat.eq_zero_or_pos nn with rfl | hq
      all_goals
       go_wp2_with fail;replace e0:=hxd.cell e0;replace y0:=hxd.cell y0;replace k0:=hxd.cell k0;replace k1:=hxd.cell k1;replace k2:=hxd.cell k2;refine wp_region_still_tail 32 (by kernel_rfl) (by kernel_rfl) ?_;simp only [List.take_succ_cons,List.take_zero,List.drop_succ_cons,List.drop_zero];change wpStill _ _ (wr).drew (fun a'=>wpList _ _ _ _ a' (wr).drew) _ _;rw [HWD.out];generalize hA:Act.mk _ _=A0;repeat (refine wpStill_step (fun K2 hK2=>?_);subst hA;go_simp;(try rw [if_neg (by decide)]);generalize hA:Act.mk _ _=A0;refine hK2 A0 ?_;clear hK2 K2)
       refine wpStill_step (fun K2 hK2=>?_);subst hA;go_simp;refine ⟨_,(HF.out.mono fun e w' h=>⟨h.1,h.2.symm⟩),?_⟩;generalize hA:Act.mk _ _=A0;refine hK2 A0 ?_;clear hK2 K2
       repeat (refine wpStill_step (fun K2 hK2=>?_);subst hA;go_simp;(try rw [if_neg (by decide)]);generalize hA:Act.mk _ _=A0;refine hK2 A0 ?_;clear hK2 K2)
       refine wpStill_nil ?_;subst hA;go_wp2_with fail
       first
       |go_ret
        exact⟨⟨false,rfl,by simp⟩,HY.out.trans hxd⟩
       |go_roundw
        case rel=>exact⟨_++[x],post,HLE.out,by simp <;> omega,(by first | exact HR.out | exact HRR.out p2),HX1.out.trans hxd⟩
        case measure=>simp [intOf];omega
    | nil=>rw [List.append_nil] at hl;have hle:pre.length=sp.length:=(by rw [hl]);have hn1:¬ pre.length < sp.length:=(by omega);have HRS:=zH (show RiseS sp by rw [hl];exact hri);clear hl hle hri hx hrA;go_wp2_with fail;go_ret;exact⟨⟨true,rfl,fun _=>⟨HRM.out.1,HRM.out.2,HRS.out⟩⟩,HY.out⟩
end
end Go.Proofs.YtdikcgmdmcfpfaaGreat
