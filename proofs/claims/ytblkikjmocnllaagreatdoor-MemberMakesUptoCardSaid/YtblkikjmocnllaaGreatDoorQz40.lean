/- member.May. Printed by gen_mmay7.py. -/
import Derived.Test.YtblkikjmocnllaaGreatDoorQz39
import Derived.Test.YtblkikjmocnllaaGreatDoorQz24
set_option linter.unusedVariables false
set_option linter.unusedSimpArgs false
set_option maxRecDepth 100000
set_option maxHeartbeats 40000000
namespace Go.Proofs.YtblkikjmocnllaaGreatDoor
section
open Go.RowKit Go.Shelf
theorem mmay_any {S:Nat->Prop} {v:Value} {l:List Mbr} {w:World} (hv:Sl mbrT w S v l) (td:TidyL l) :
  Calls Tryz.prog 20 #[v] w fun e w'=>e=.returned (.bool (may20 l))/\Ext w w':=by
 obtain⟨K,hK⟩:∃ K,may20 l=K:=⟨_,rfl⟩
 rw [hK]
 have HK:=Lib.hid hK
 have hv':=hv
 obtain⟨A,c,rfl,-,-⟩:=hv.form
 have HAT:=Lib.hid (fun (pre post:List Mbr) (x:Mbr) w1 (hx:Ext w w1) (hl:l=pre++x :: post)=>mbr_at (wr:=w1) hv' (fun b _ hb=>hx.block b hb) hl)
 have HV:=Lib.hid hv'
 clear hK hv hv'
 rcases hll:l with _ | ⟨f,r⟩
 ·subst hll
  have HF:=Lib.hid (show false=K from HK.out)
  clear HK
  go_enter Tryz.func20,Tryz.ntmps20
  go_wp2_with fail
  go_ret
  exact⟨by rw [<- HF.out];rfl,Ext.refl _⟩
 rw [<- hll]
 have h0:0 < l.length:=by rw [hll];simp
 have h0':¬ (l.length:Int) < 1:=by omega
 have h0'':(0:Int) < l.length:=by omega
 have HK:Hid ((decide (l.length<=24) && (decide (f.path = [49]) && (decide (f.status<=2) && chkF (okM l) (leM l) none l)))=K):=Lib.hid (by rw [<- HK.out];unfold may20;rw [show l.head? = some f by rw [hll];rfl])
 obtain⟨bf,of',F1,g1,F2,g2,rfl,-,-,-,hcf⟩:=HAT.out [] r f w (Ext.refl _) hll
 simp only [List.length_nil,Nat.zero_mul,Nat.add_zero] at hcf
 have f0:=hcf 0 _ rfl
 have f1:=hcf 1 _ rfl
 rw [Nat.add_zero] at f0
 clear hcf hll h0
 by_cases t1:l.length<=24
 case neg =>
  have e1:(l.length:Int) > 24:=by omega
  have HF:=Lib.hid (show false=K by rw [<- HK.out,decide_eq_false t1];rfl)
  clear HK t1
  go_enter Tryz.func20,Tryz.ntmps20
  go_wp2_with fail
  go_ret
  exact⟨by rw [<- HF.out];rfl,Ext.refl _⟩
 have e1:¬ (l.length:Int) > 24:=by omega
 by_cases t2:f.path = [49]
 case neg =>
  have e2:(f.path == [49])=false:=by simpa using t2
  have HF:=Lib.hid (show false=K by rw [<- HK.out,decide_eq_false t2];simp)
  clear HK t1 t2
  go_enter Tryz.func20,Tryz.ntmps20
  go_wp2_with fail
  go_ret
  exact⟨by rw [<- HF.out];rfl,Ext.refl _⟩
 have e2:(f.path == [49])=true:=by simpa using t2
 by_cases t3:f.status<=2
 case neg =>
  have e3:(f.status:Int) > 2:=by omega
  have HF:=Lib.hid (show false=K by rw [<- HK.out,decide_eq_false t3];simp)
  clear HK t1 t2 t3
  go_enter Tryz.func20,Tryz.ntmps20
  go_wp2_with fail
  go_ret
  exact⟨by rw [<- HF.out];rfl,Ext.refl _⟩
 have e3:¬ (f.status:Int) > 2:=by omega
 have HK:=Lib.hid (show chkF (okM l) (leM l) none l=K by rw [<- HK.out,decide_eq_true t1,decide_eq_true t2,decide_eq_true t3];rfl)
 have hz:∀ w,(zeroValue 3).run Tryz.prog w=.ok (I (0:Nat)) w:=Tryz.zeroValue3
 have HPL:=Lib.hid (places_any HV.out)
 have HTD:=Lib.hid td
 clear t1 t2 t3 td
 go_enter Tryz.func20,Tryz.ntmps20
 go_wp2_with fail
 refine HPL.out.mono ?_
 rintro e w1 ⟨q,rfl,hq,hm,hx1⟩
 have HM:=Lib.hid hm
 have HX1:=Lib.hid hx1
 clear hm hx1 HPL f0 f1
 go_wp2_with fail
 clear e2 e3 e1 h0' h0''
 go_loopw [34] (fun i wr=>∃ pre post,l=pre++post/\i=I pre.length/\Hid (chkF (okM l) (leM l) pre.getLast? post=K)/\Ext w1 wr) (fun i _=>l.length - (intOf i).toNat)
 case atStart=>exact⟨[],l,rfl,rfl,Lib.hid HK.out,Ext.refl _⟩
 case round =>
  obtain⟨pre,post,hl,rfl,hch,hx⟩:=hrel
  cases post with
  | nil =>
   rw [List.append_nil] at hl
   subst hl
   have HF:=Lib.hid (show true=K from hch.out)
   clear hch
   go_wp2_with fail
   go_ret
   exact⟨by rw [<- HF.out];rfl,HX1.out.trans hx⟩
  | cons x post =>
   obtain⟨b,o,A1,c1,A2,c2,he,-,h1,h2,hc⟩:=HAT.out pre post x wr (HX1.out.trans hx) hl
   cases he
   obtain⟨k0,k1,k2,k3,k4,k5,k6,k7,k8,k9,k10,k11,k12,k13,k14⟩:=mbr_c15 hc
   have hxm:x ∈ l:=by rw [hl];simp
   have hlt:pre.length < l.length:=by rw [hl];simp
   have hl32:=HTD.out.len
   have hpx:=HTD.out.path x hxm
   have HL:=Lib.hid hl
   have hx1:=(Ext.refl wr).alloc (.cells #[St x.path,U8 x.status,I x.kids,I x.cut,U x.last,.slice A1 x.gone.length c1,St x.plan.keeper,U x.plan.round,St x.plan.live,St x.plan.by_,U x.plan.cap,St x.plan.owner,U x.plan.base,.bool x.plan.done,.slice A2 x.words.length c2] 48)
   have r1:=rowNew wr 48 [St x.path,U8 x.status,I x.kids,I x.cut,U x.last,.slice A1 x.gone.length c1,St x.plan.keeper,U x.plan.round,St x.plan.live,St x.plan.by_,U x.plan.cap,St x.plan.owner,U x.plan.base,.bool x.plan.done,.slice A2 x.words.length c2]
   have HXW:=Lib.hid ((HX1.out.trans hx).trans hx1)
   have HXR:=Lib.hid (hx.trans hx1)
   have HSC:=Lib.hid (fun W (he:Ext (wr.alloc (.cells #[St x.path,U8 x.status,I x.kids,I x.cut,U x.last,.slice A1 x.gone.length c1,St x.plan.keeper,U x.plan.round,St x.plan.live,St x.plan.by_,U x.plan.cap,St x.plan.owner,U x.plan.base,.bool x.plan.done,.slice A2 x.words.length c2] 48)) W)=>RowIs.c15 (r1.ext he))
   have HLK:=Lib.hid (fun W (hE:Ext w1 W) (k:Str)=>places_run (HM.out.ext hE) hz k)
   have HMY:=Lib.hid (may_any x.path (by omega))
   have HPA:=Lib.hid (parent_any x.path (by omega))
   have HNU:=Lib.hid (number1_any x.path (by omega))
   obtain⟨s0,s1,s2,s3,s4,s5,s6,s7,s8,s9,s10,s11,s12,s13,s14⟩:=HSC.out _ (Ext.refl _)
   have HS12:=Lib.hid (And.intro h1 h2)
   have HROW:=Lib.hid r1
   have HXM:=Lib.hid hxm
   clear r1 hx1 hl h1 h2 hc hxm
   have HBAD:=Lib.hid (show okM l x=false->false=K from fun h=>by rw [<- hch.out];symm;exact chkF_bad h)
   obtain⟨jv,hjv⟩:∃ jv:Int,(pre.length:Int)=jv:=⟨_,rfl⟩
   have HJV:=Lib.hid hjv
   have g1:(0:Int)<=jv:=by omega
   have g2:jv < (l.length:Int):=by omega
   have g3:jv.toNat=pre.length:=by omega
   rw [hjv]
   clear hjv hlt hx
   have HXQ:=Lib.hid ((Ext.refl wr).alloc (.cells #[St x.path,U8 x.status,I x.kids,I x.cut,U x.last,.slice A1 x.gone.length c1,St x.plan.keeper,U x.plan.round,St x.plan.live,St x.plan.by_,U x.plan.cap,St x.plan.owner,U x.plan.base,.bool x.plan.done,.slice A2 x.words.length c2] 48))
   go_wp2_with fail
   generalize wr.alloc (.cells #[St x.path,U8 x.status,I x.kids,I x.cut,U x.last,.slice A1 x.gone.length c1,St x.plan.keeper,U x.plan.round,St x.plan.live,St x.plan.by_,U x.plan.cap,St x.plan.owner,U x.plan.base,.bool x.plan.done,.slice A2 x.words.length c2] 48)=W1 at *
   generalize wr.heap.size=gs at *
   rename_i K1 hK1 K0 hK0
   have HK1:=Lib.hid hK1
   clear hK1
   refine wp_region_cut (by kernel_rfl) ?_
   change wpAny _ _ _ _ _ _ _ W1.drew
   refine wpAny_next (k:=0) 5 (by decide) (by decide) (by kernel_rfl) ?_
   simp only [List.drop_zero,List.drop_succ_cons,List.take_succ_cons,List.take_zero,List.take_nil,Nat.reduceSub,List.drop_nil]
   replace s0:=(Ext.refl W1).drew.cell s0
   go_wp2_with fail
   refine (HMY.out _).mono ?_
   rintro e w2 ⟨rfl,hb1⟩
   have HXB:=Lib.hid ((Ext.refl W1).drew.trans hb1)
   obtain⟨s0,s1,s2,s3,s4,s5,s6,s7,s8,s9,s10,s11,s12,s13,s14⟩:=HSC.out _ HXB.out
   clear hb1
   cases hmp:mayP x.path
   case' false =>
    have HF:=Lib.hid (HBAD.out (by unfold okM;rw [hmp];rfl))
    clear hmp hch HBAD
    go_wp2_with fail
    refine wpAny_still (k:=5) (n:=16) (by kernel_rfl) (by decide) ?_
    simp only [List.drop_zero,List.drop_succ_cons,List.take_succ_cons,List.take_zero,List.take_nil,Nat.reduceSub,List.drop_nil]
    generalize hA:Act.mk _ _=A0;repeat (refine wpStill_step (fun K2 hK2=>?_);subst hA;go_simp;(try rw [if_neg (by decide)]);generalize hA:Act.mk _ _=A0;refine hK2 A0 ?_;clear hK2 K2)
    refine wpStill_nil ?_
    subst hA
    refine wpAny_last (k:=16) (by kernel_rfl) ?_
    simp only [List.drop_zero,List.drop_succ_cons,List.take_succ_cons,List.take_zero,List.take_nil,Nat.reduceSub,List.drop_nil]
    go_wp2_with fail
    go_ret
    exact⟨by rw [<- HF.out];rfl,HXW.out.trans HXB.out⟩
   case' true =>
    have HMP:=Lib.hid hmp
    clear hmp
    rcases List.eq_nil_or_concat pre with hpe | ⟨pre',t,hpe⟩
    case' inl =>
     have HOK:=Lib.hid (show okM l x=true->chkF (okM l) (leM l) (some x) post=K from fun h=>(chkF_one h).symm.trans (by rw [<- hch.out,hpe];rfl))
     have g4:¬ jv > 0:=by have:=HJV.out;rw [hpe] at this;simp at this;omega
     clear hpe
     have g5:decide (jv > 0)=false:=decide_eq_false g4
     go_wp2_with fail
     refine wpAny_still (k:=5) (n:=16) (by kernel_rfl) (by decide) ?_
     simp only [List.drop_zero,List.drop_succ_cons,List.take_succ_cons,List.take_zero,List.take_nil,Nat.reduceSub,List.drop_nil]
     generalize hA:Act.mk _ _=A0;repeat (refine wpStill_step (fun K2 hK2=>?_);subst hA;go_simp;(try rw [if_neg (by decide)]);generalize hA:Act.mk _ _=A0;refine hK2 A0 ?_;clear hK2 K2)
     refine wpStill_nil ?_
     subst hA
     refine wpAny_last (k:=16) (by kernel_rfl) ?_
     simp only [List.drop_zero,List.drop_succ_cons,List.take_succ_cons,List.take_zero,List.take_nil,Nat.reduceSub,List.drop_nil]
     go_wp2_with fail
     refine HK1.out _ _ ?_
     refine wp_seq_k ?_
     intro K2 hK2
     have HK2:=Lib.hid hK2
     clear hK2
     go_wp2_with fail
    case' inr =>
     obtain⟨b',o',B1,d1,B2,d2,he,-,-,-,hcp⟩:=HAT.out pre' (x :: post) t _ HXW.out (by rw [HL.out,hpe];simp)
     cases he
     have p0:=hcp 0 _ rfl
     rw [Nat.add_zero] at p0
     have htp:=HTD.out.path t (by rw [HL.out,hpe];simp)
     have hch:Hid (chkF (okM l) (leM l) (some t) (x :: post)=K):=Lib.hid (by rw [<- hch.out,hpe];simp)
     have hm1:pre.length=pre'.length+1:=by rw [hpe];simp
     obtain⟨jp,hjp⟩:∃ jp:Int,(pre'.length:Int)=jp:=⟨_,rfl⟩
     have hj1:=HJV.out
     have g4:jv > 0:=by omega
     have n0:(0:Int)<=jp:=by omega
     have n1:jp < (l.length:Int):=by omega
     have n4:IntKind.i64.wrap (jv - 1)=jp:=by rw [show jv - 1=jp by omega];exact wrap_small _ (by omega) (by omega)
     have n6:jp.toNat=pre'.length:=by omega
     obtain⟨cz,hcz⟩:∃ cz,cmpPath t.path x.path=cz:=⟨_,rfl⟩
     have HPC:=Lib.hid (fun w=>pcmp_any t.path x.path (by omega) (by omega) w)
     rw [hcz] at HPC
     clear hcp htp hm1 hjp hj1 hpe
     go_wp2_with fail
     refine wpAny_still (k:=5) (n:=16) (by kernel_rfl) (by decide) ?_
     simp only [List.drop_zero,List.drop_succ_cons,List.take_succ_cons,List.take_zero,List.take_nil,Nat.reduceSub,List.drop_nil]
     have p0:=HXB.out.cell p0
     generalize hA:Act.mk _ _=A0;repeat (refine wpStill_step (fun K2 hK2=>?_);subst hA;go_simp;(try rw [if_neg (by decide)]);generalize hA:Act.mk _ _=A0;refine hK2 A0 ?_;clear hK2 K2)
     refine wpStill_nil ?_
     subst hA
     refine wpAny_last (k:=16) (by kernel_rfl) ?_
     simp only [List.drop_zero,List.drop_succ_cons,List.take_succ_cons,List.take_zero,List.take_nil,Nat.reduceSub,List.drop_nil]
     go_wp2_with fail
     refine (HPC.out _).mono ?_
     rintro e w3 ⟨rfl,hb3⟩
     have HXB:=Lib.hid (HXB.out.trans hb3)
     obtain⟨s0,s1,s2,s3,s4,s5,s6,s7,s8,s9,s10,s11,s12,s13,s14⟩:=HSC.out _ HXB.out
     clear hb3
     by_cases hcz2:cz ≥ 0
     case pos =>
      have HF:=Lib.hid (show false=K by rw [<- hch.out];symm;exact chkF_less (by unfold leM;rw [hcz,decide_eq_false (by omega)];rfl))
      clear hch
      go_wp2_with fail
      go_ret
      exact⟨by rw [<- HF.out];rfl,HXW.out.trans HXB.out⟩
     have HLE:=Lib.hid (show leM l t x=parOk l x.path by unfold leM;rw [hcz,decide_eq_true (show cz < 0 by omega)];rfl)
     clear hcz
     go_wp2_with fail
     refine HK1.out _ _ ?_
     refine wp_seq_k ?_
     intro K2 hK2
     have HK2:=Lib.hid hK2
     clear hK2
     go_wp2_with fail
     refine (HPA.out _).mono ?_
     rintro e w4 ⟨rfl,hb4⟩
     have HXB:=Lib.hid (HXB.out.trans hb4)
     obtain⟨s0,s1,s2,s3,s4,s5,s6,s7,s8,s9,s10,s11,s12,s13,s14⟩:=HSC.out _ HXB.out
     have hlk:=HLK.out _ (HXR.out.trans HXB.out) (parP x.path)
     clear hb4
     rcases hi:idxP l (parP x.path) with _ | j
     ·rw [hi] at hlk
      simp only [Option.getD_none,Option.isSome_none] at hlk
      have HF:=Lib.hid (show false=K by rw [<- hch.out];symm;exact chkF_less (by rw [HLE.out];unfold parOk;rw [at_none hi]))
      clear hch hi
      go_wp2_with fail
      go_quiet (fail)
      go_wp2_with fail
      go_ret
      exact⟨by rw [<- HF.out];rfl,HXW.out.trans (HXB.out.drewN _)⟩
     rw [hi] at hlk
     simp only [Option.getD_some,Option.isSome_some] at hlk
     obtain⟨y,h1,-,h2,h3,h4⟩:=idx_some hi
     obtain⟨b',o',B1,d1,B2,d2,he,-,-,-,hcl⟩:=HAT.out _ _ y _ (HXW.out.trans HXB.out) h3
     cases he
     rw [h4] at hcl
     have y2:=hcl 2 _ rfl
     have h2':(j:Int) < l.length:=by omega
     have HPO:=Lib.hid (show parOk l x.path=decide ((numP x.path:Int)<=y.kids) by unfold parOk;rw [h1])
     clear hi h1 h3 h4 hcl
     generalize (numP x.path:Int)=np at HNU HPO
     by_cases hnp:np > y.kids
     case pos =>
      have e9:decide (np > y.kids)=true:=decide_eq_true hnp
      go_wp2_with fail
      go_region_held3 (fun W=>W.cell? ⟨bf,of'+j * 15+2,none⟩=some (I y.kids)/\W.cell? ⟨gs,0,none⟩=some (St x.path)/\Ext w4 W) (first | exact⟨y2,s0,(Ext.refl _).drew⟩ | exact⟨hb1.cell ‹_/\_/\Ext w4 _›.1,hb1.cell ‹_/\_/\Ext w4 _›.2.1,‹_/\_/\Ext w4 _›.2.2.trans hb1⟩) (first | (go_at_call 50;refine (HNU.out _).mono ?_;rintro e w6 ⟨rfl,hb1⟩))
      have HXB:=Lib.hid (HXB.out.trans (‹_/\_/\Ext w4 _›.2.2))
      obtain⟨s0,s1,s2,s3,s4,s5,s6,s7,s8,s9,s10,s11,s12,s13,s14⟩:=HSC.out _ HXB.out
      have HF:=Lib.hid (show false=K by rw [<- hch.out];symm;exact chkF_less (by rw [HLE.out,HPO.out];exact decide_eq_false (by omega)))
      clear hch
      go_wp2_with fail
      go_ret
      exact⟨by rw [<- HF.out];rfl,HXW.out.trans HXB.out⟩
     have e9:decide (np > y.kids)=false:=decide_eq_false hnp
     go_wp2_with fail
     go_region_held3 (fun W=>W.cell? ⟨bf,of'+j * 15+2,none⟩=some (I y.kids)/\W.cell? ⟨gs,0,none⟩=some (St x.path)/\Ext w4 W) (first | exact⟨y2,s0,(Ext.refl _).drew⟩ | exact⟨hb1.cell ‹_/\_/\Ext w4 _›.1,hb1.cell ‹_/\_/\Ext w4 _›.2.1,‹_/\_/\Ext w4 _›.2.2.trans hb1⟩) (first | (go_at_call 50;refine (HNU.out _).mono ?_;rintro e w6 ⟨rfl,hb1⟩))
     have HXB:=Lib.hid (HXB.out.trans (‹_/\_/\Ext w4 _›.2.2))
     obtain⟨s0,s1,s2,s3,s4,s5,s6,s7,s8,s9,s10,s11,s12,s13,s14⟩:=HSC.out _ HXB.out
     have HOK:=Lib.hid (show okM l x=true->chkF (okM l) (leM l) (some x) post=K from fun h=>(chkF_on h (by rw [HLE.out,HPO.out];exact decide_eq_true (by omega))).symm.trans hch.out)
     clear hch e9 hnp y2
     go_wp2_with fail
    all_goals
     refine HK2.out _ _ ?_
     refine may_tail (HV.out.ext (by decide) (HX1.out.trans (HXR.out.trans HXB.out))) (HM.out.ext (HXR.out.trans HXB.out)) HTD.out HXM.out (HS12.out.1.ext (by decide) (HXQ.out.trans HXB.out)) (HS12.out.2.ext (by decide) (HXQ.out.trans HXB.out)) (HROW.out.ext HXB.out) HMP.out HBAD.out ?hr ?hn
     case hr =>
      intros
      rename_i W5 hE hF
      have HF:=Lib.hid hF
      have HE:=Lib.hid hE
      clear hF hE
      dsimp only
      go_wp2_with fail
      go_ret
      exact⟨by rw [<- HF.out];rfl,HXW.out.trans (HXB.out.trans HE.out)⟩
     case hn =>
      intros
      rename_i hok _ _ _ _ _ _ _ _ _ _ _ _ _ _ _ _ _ _ _ _ _ _ _ _ _ _ _ _ _ _ _ _ _ _ _ _ _ _ _ _ _ _ W5 hE
      have HOK2:=Lib.hid (HOK.out hok)
      have HE:=Lib.hid hE
      clear hok hE
      dsimp only
      go_wp2_with fail
      go_roundw
      case rel =>
       have hz4:jv+1=(((pre++[x]).length:Nat):Int):=by have h3:=HJV.out;simp;omega
       exact⟨pre++[x],post,by rw [HL.out];simp,congrArg (Value.int .i64) hz4,Lib.hid (by rw [last_snoc];exact HOK2.out),HXR.out.trans (HXB.out.trans HE.out)⟩
      case measure=>simp [intOf];omega
end
end Go.Proofs.YtblkikjmocnllaaGreatDoor
