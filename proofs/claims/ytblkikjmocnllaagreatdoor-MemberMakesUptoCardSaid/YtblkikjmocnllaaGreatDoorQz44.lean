/- gossamerref20.Admit. Printed by gen_reft9.py. -/
import Derived.Test.YtblkikjmocnllaaGreatDoorQz43
import Derived.Test.YtblkikjmocnllaaGreatDoorQz21
import Derived.Test.YtblkikjmocnllaaGreatDoorQz25
import Derived.Test.YtblkikjmocnllaaGreatDoorQz24
set_option linter.unusedVariables false
set_option linter.unusedSimpArgs false
set_option maxRecDepth 100000
set_option maxHeartbeats 40000000
namespace Go.Proofs.YtblkikjmocnllaaGreatDoor
section
open Go.RowKit Go.Shelf
theorem refAdmit20_any {S:Nat->Prop} {v:Value} {l:List Mbr} {w:World} (hv:Sl mbrT w S v l) (p:Str) (hpl:p.length<=1000000) (hg:GoodL l) (hk:∀ x ∈ l,0<=x.kids) (hl0:l.length<=100000) (hp:∀ x ∈ l,x.path.length < 1073741824) :
  Calls Tryz.prog 12 #[v,St p] w fun e w'=>∃ v',e=.returned (.tuple #[v',St (radmitR l p).2.1,I (radmitR l p).2.2])/\Sl mbrT w' (fun _=>True) v' (radmitR l p).1/\Ext w w':=by
 have hv':=hv
 obtain⟨A,c,rfl,-,-⟩:=hv.form
 have HOF:=Lib.hid (refOf_any (hv'.mono (S':=fun b=>b < w.heap.size) (by decide) (fun b hb _=>hb)) p)
 have HV:=Lib.hid hv'
 have HDP:=Lib.hid (fun W=>refDeepB_any p (by omega) W)
 obtain⟨R,hR⟩:∃ R,radmitR l p=R:=⟨_,rfl⟩
 rw [hR]
 have HR:=Lib.hid hR
 have HPP:=Lib.hid hp
 have HGL:=Lib.hid hg
 have HKK:=Lib.hid hk
 clear hv hv' hR hp hg hk
 go_enter Tryz.func12,Tryz.ntmps12
 go_wp2_with fail
 refine HOF.out.mono ?_
 rintro e w3 ⟨b1,b2,rfl,hs1,hs2,hx3⟩
 obtain⟨E1,e1,rfl,-,-⟩:=hs1.form
 obtain⟨E2,e2,rfl,-,-⟩:=hs2.form
 have HX3:=Lib.hid hx3
 obtain⟨F,hF⟩:∃ F,findP l p=F:=⟨_,rfl⟩
 rw [hF] at hs1 hs2 ⊢
 have HFF:=Lib.hid hF
 clear hF hx3
 cases F with
 | none =>
  simp only [Option.getD_none,Option.isSome_none] at *
  have HE:=Lib.hid (show R=([],[],200) by rw [<- HR.out];unfold radmitR;rw [HFF.out])
  clear hs1 hs2
  generalize mbr0=y at *
  generalize y.gone.length=g1
  generalize y.words.length=g2
  have HXA:=Lib.hid (HX3.out.trans ((Ext.refl w3).alloc (.cells #[St y.path,U8 y.status,I y.kids,I y.cut,U y.last,.slice E1 g1 e1,St y.plan.keeper,U y.plan.round,St y.plan.live,St y.plan.by_,U y.plan.cap,St y.plan.owner,U y.plan.base,.bool y.plan.done,.slice E2 g2 e2] 48)))
  unfold mbrV
  go_wp2_with fail
  refine bodyPost_ret (results_tmp3 rfl _ _ _) rfl ?_
  exact⟨_,by rw [HE.out];rfl,by rw [HE.out];exact Sl.nil _ _ (by omega),HXA.out⟩
 | some x =>
  simp only [Option.getD_some,Option.isSome_some] at *
  have hxm:x ∈ l:=findP_mem HFF.out
  have hxpp:x.path=p:=findP_path HFF.out
  have HMP:=Lib.hid (show mayP p=true by rw [<- hxpp];exact HGL.out.may x hxm)
  have hxk:=HKK.out x hxm
  have HXP:=Lib.hid (HPP.out x hxm)
  obtain⟨W3,hW3⟩:∃ W3,w3.alloc (.cells #[St x.path,U8 x.status,I x.kids,I x.cut,U x.last,.slice E1 x.gone.length e1,St x.plan.keeper,U x.plan.round,St x.plan.live,St x.plan.by_,U x.plan.cap,St x.plan.owner,U x.plan.base,.bool x.plan.done,.slice E2 x.words.length e2] 48)=W3:=⟨_,rfl⟩
  obtain⟨gz,hgz⟩:∃ gz,w3.heap.size=gz:=⟨_,rfl⟩
  have hxa:Ext w3 W3:=hW3 ▸ (Ext.refl w3).alloc _
  have rz:RowIs W3 gz 48 [St x.path,U8 x.status,I x.kids,I x.cut,U x.last,.slice E1 x.gone.length e1,St x.plan.keeper,U x.plan.round,St x.plan.live,St x.plan.by_,U x.plan.cap,St x.plan.owner,U x.plan.base,.bool x.plan.done,.slice E2 x.words.length e2] []:=by rw [<- hW3,<- hgz];exact rowNew w3 48 [St x.path,U8 x.status,I x.kids,I x.cut,U x.last,.slice E1 x.gone.length e1,St x.plan.keeper,U x.plan.round,St x.plan.live,St x.plan.by_,U x.plan.cap,St x.plan.owner,U x.plan.base,.bool x.plan.done,.slice E2 x.words.length e2]
  have HS:=Lib.hid (And.intro (hs1.ext (by decide) hxa) (hs2.ext (by decide) hxa))
  have HXA:=Lib.hid (HX3.out.trans hxa)
  have HRZ:=Lib.hid rz
  have hgw:w.heap.size<=gz:=by rw [<- hgz];exact HX3.out.size
  have HGW:=Lib.hid hgw
  have HW3:=Lib.hid (And.intro hW3 hgz)
  have j1:=rz.cell (j:=1) rfl
  have j2:=rz.cell (j:=2) rfl
  have f2:=rz.frozen 2
  clear hs1 hs2 hxa hW3 hgz rz hgw hxm hxpp
  unfold mbrV
  go_upto_region 2 with fail
  rw [HW3.out.1,HW3.out.2]
  by_cases h3:x.status=2
  case neg =>
   have q1:((x.status:Int) == 2)=false:=by rw [beq_eq_false_iff_ne];omega
   have HE:=Lib.hid (show R=([],[],200) by rw [<- HR.out];unfold radmitR;rw [HFF.out];simp only;rw [if_pos h3])
   clear h3
   go_wp2_with fail
   refine bodyPost_ret (results_tmp3 rfl _ _ _) rfl ?_
   exact⟨_,by rw [HE.out];rfl,by rw [HE.out];exact Sl.nil _ _ (by omega),HXA.out⟩
  have q1:((x.status:Int) == 2)=true:=by rw [beq_iff_eq];omega
  have HST:=Lib.hid (show ¬ x.status ≠ 2 from fun h=>h h3)
  clear h3
  by_cases h4:24<=l.length
  case pos =>
   have g1:(l.length:Int) ≥ 24:=by omega
   have g3:decide ((l.length:Int) ≥ 24)=true:=decide_eq_true g1
   have HE:=Lib.hid (show R=([],[],6) by rw [<- HR.out];unfold radmitR;rw [HFF.out];simp only;rw [if_neg HST.out,if_pos (.inl h4)])
   go_wp2_with fail
   refine bodyPost_ret (results_tmp3 rfl _ _ _) rfl ?_
   exact⟨_,by rw [HE.out];rfl,by rw [HE.out];exact Sl.nil _ _ (by omega),HXA.out⟩
  have g1:¬ (l.length:Int) ≥ 24:=by omega
  have g2:¬ 24<=l.length:=h4
  have g3:decide ((l.length:Int) ≥ 24)=false:=decide_eq_false g1
  have HH4:=Lib.hid h4
  clear h4
  by_cases h5:1073741824<=x.kids
  case pos =>
   have p1:x.kids ≥ 1073741824:=h5
   have p3:decide (x.kids ≥ 1073741824)=true:=decide_eq_true h5
   have HE:=Lib.hid (show R=([],[],6) by rw [<- HR.out];unfold radmitR;rw [HFF.out];simp only;rw [if_neg HST.out,if_pos (.inr (.inl h5))])
   go_wp2_with fail
   refine bodyPost_ret (results_tmp3 rfl _ _ _) rfl ?_
   exact⟨_,by rw [HE.out];rfl,by rw [HE.out];exact Sl.nil _ _ (by omega),HXA.out⟩
  have p1:¬ x.kids ≥ 1073741824:=h5
  have p3:decide (x.kids ≥ 1073741824)=false:=decide_eq_false h5
  have HH5:=Lib.hid h5
  obtain⟨dp,hdp⟩:∃ dp,deepP p=dp:=⟨_,rfl⟩
  rw [hdp] at HDP
  have HDE:=Lib.hid hdp
  clear hdp
  by_cases h6:8<=dp
  case pos =>
   have d1:(dp:Int) ≥ 8:=by omega
   have d3:decide ((dp:Int) ≥ 8)=true:=decide_eq_true d1
   have HE:=Lib.hid (show R=([],[],6) by rw [<- HR.out];unfold radmitR;rw [HFF.out];simp only;rw [if_neg HST.out,if_pos (.inr (.inr (by rw [HDE.out];exact h6)))])
   go_wp2_with fail
   refine (HDP.out _).mono ?_
   rintro e w4 ⟨rfl,hx4⟩
   go_wp2_with fail
   refine bodyPost_ret (results_tmp3 rfl _ _ _) rfl ?_
   exact⟨_,by rw [HE.out];rfl,by rw [HE.out];exact Sl.nil _ _ (by omega),HXA.out.trans hx4⟩
  have d1:¬ (dp:Int) ≥ 8:=by omega
  have d2:¬ 8<=dp:=h6
  have d3:decide ((dp:Int) ≥ 8)=false:=decide_eq_false d1
  obtain⟨kn,hkn⟩:∃ kn:Nat,x.kids=(kn:Int):=⟨x.kids.toNat,by omega⟩
  obtain⟨ch,hch⟩:∃ ch,(childP p (x.kids+1)).1=ch:=⟨_,rfl⟩
  have HE:=Lib.hid (show R=((rput (rput l { x with kids:=x.kids+1 }) (newM ch x)),ch,0) by rw [<- HR.out];unfold radmitR;rw [HFF.out];simp only;rw [if_neg HST.out,if_neg (by rw [HDE.out];have:=HH4.out;have:=HH5.out;omega),hch])
  have HCL:=Lib.hid (show ch.length < 1073741824 by
   rw [<- hch]
   unfold childP
   have hd:(Lib.itoa (x.kids+1)).length<=10:=by rw [itoa_pos (by omega)];exact dec_len (by omega)
   split
   ·simp
   ·split
    ·simp
    ·split
     ·simp
     ·simp only [List.length_append,List.length_cons];omega)
  have HCH:=Lib.hid (fun W=>show Calls Tryz.prog 28 #[St p,I (x.kids+1)] W (fun e w'=>e=.returned (.tuple #[St ch,I (childP p (x.kids+1)).2])/\Ext W w') from by
   have h:=refChild_any (p:=p) HMP.out (by omega) (kn+1) (by omega) (by omega) W
   rw [show ((kn+1:Nat):Int)=x.kids+1 by omega,hch] at h
   exact h)
  generalize ((childP p (x.kids+1)).2:Int)=c2 at HCH
  have HCK:=Lib.hid (And.intro hkn hch)
  have k7:IntKind.i64.wrap (x.kids+1)=x.kids+1:=wrap_small _ (by omega) (by omega)
  clear hkn hch h5 h6
  go_wp2_with fail
  refine (HDP.out _).mono ?_
  rintro e wd ⟨rfl,hxd⟩
  have HRZ:=Lib.hid (HRZ.out.ext hxd)
  have HXA:=Lib.hid (HXA.out.trans hxd)
  have HS:=Lib.hid (And.intro (HS.out.1.ext (by decide) hxd) (HS.out.2.ext (by decide) hxd))
  clear j1 j2 f2 hxd
  have j2:=HRZ.out.cell (j:=2) rfl
  have f2:=HRZ.out.frozen 2
  go_upto_region 7 with fail
  have r9:=HRZ.out.set (j:=2) (by simp) (I (x.kids+1))
  have x9:=HXA.out.set (p:=⟨gz,2,none⟩) HGW.out (I (x.kids+1))
  simp only [List.set_cons_succ,List.set_cons_zero] at r9
  have kp9:∀ b,b ≠ gz->(wd.setCell ⟨gz,2,none⟩ (I (x.kids+1))).heap[b]? = wd.heap[b]?:=fun b hb=>Below.heap_setCell _ ⟨gz,2,none⟩ _ b hb
  generalize wd.setCell ⟨gz,2,none⟩ (I (x.kids+1))=W9 at *
  have hsg:∀ b,b < w.heap.size->b ≠ gz:=fun b hb=>by have:=HGW.out;omega
  have HS9:=Lib.hid (And.intro (HS.out.1.keep (by decide) (fun b hb _=>kp9 b (hsg b hb))) (HS.out.2.keep (by decide) (fun b hb _=>kp9 b (hsg b hb))))
  have k2:=r9.cell (j:=2) rfl
  have HR8:=Lib.hid r9
  have HX9:=Lib.hid x9
  clear r9 x9 kp9 hsg j2 f2
  go_wp2_with fail
  refine (HCH.out _).mono ?_
  rintro e w4 ⟨rfl,hx4⟩
  have HR9:=Lib.hid (HR8.out.ext hx4)
  have HX4:=Lib.hid (HX9.out.trans hx4)
  have HP1:=Lib.hid (fun V (he:Ext w4 V)=>show Calls Tryz.prog 40 #[.slice A l.length c,.agg #[St x.path,U8 x.status,I (x.kids+1),I x.cut,U x.last,.slice E1 x.gone.length e1,St x.plan.keeper,U x.plan.round,St x.plan.live,St x.plan.by_,U x.plan.cap,St x.plan.owner,U x.plan.base,.bool x.plan.done,.slice E2 x.words.length e2]] V (fun e w'=>∃ v',e=.returned v'/\Sl mbrT w' (fun _=>True) v' (rput l { x with kids:=x.kids+1 })/\Ext V w') from refPutM_any (m:={ x with kids:=x.kids+1 }) (HV.out.ext (by decide) (HX4.out.trans he)) (HS9.out.1.ext (by decide) (hx4.trans he)) (HS9.out.2.ext (by decide) (hx4.trans he)) (by omega) HPP.out HXP.out)
  have HP2:=Lib.hid (fun V (he:Ext w4 V) u (s:Sl mbrT V (fun _=>True) u (rput l { x with kids:=x.kids+1 }))=>show Calls Tryz.prog 40 #[u,.agg #[St ch,U8 1,I 0,I 0,U 0,.slice none 0 0,St [],U 0,St [],St [],U 0,St [],U 0,.bool false,.slice E2 x.words.length e2]] V (fun e w'=>∃ v',e=.returned v'/\Sl mbrT w' (fun _=>True) v' (rput (rput l { x with kids:=x.kids+1 }) (newM ch x))/\Ext V w') from refPutM_any (S':=fun b=>b < w.heap.size) (m:=newM ch x) s (Sl.nil none 0 (by omega)) (HS9.out.2.ext (by decide) (hx4.trans he)) (by have:=rput_len l { x with kids:=x.kids+1 };omega) (rput_path HPP.out HXP.out) HCL.out)
  clear k2 hx4
  go_upto_region 8 with fail
  refine wp_region_facts ((fun v _=>v=.slice A l.length c) :: (fun v _=>v=.agg #[St x.path,U8 x.status,I (x.kids+1),I x.cut,U x.last,.slice E1 x.gone.length e1,St x.plan.keeper,U x.plan.round,St x.plan.live,St x.plan.by_,U x.plan.cap,St x.plan.owner,U x.plan.base,.bool x.plan.done,.slice E2 x.words.length e2]) :: (fun v W=>∃ A c,v=.slice A (rput l { x with kids:=x.kids+1 }).length c/\Sl mbrT W (fun _=>True) (.slice A (rput l { x with kids:=x.kids+1 }).length c) (rput l { x with kids:=x.kids+1 })) :: (fun v _=>v=St ch) :: (fun v _=>v=.pointer (some ⟨gz,14,none⟩)) :: (fun v _=>v=.slice E2 x.words.length e2) :: (fun v _=>v=.agg #[St ch,U8 1,I 0,I 0,U 0,.slice none 0 0,St [],U 0,St [],St [],U 0,St [],U 0,.bool false,.slice E2 x.words.length e2]) :: (fun v W=>∃ A c,v=.slice A (rput (rput l { x with kids:=x.kids+1 }) (newM ch x)).length c/\Sl mbrT W (fun _=>True) (.slice A (rput (rput l { x with kids:=x.kids+1 }) (newM ch x)).length c) (rput (rput l { x with kids:=x.kids+1 }) (newM ch x))) :: (fun v _=>v=St ch) :: (fun v W=>∃ A c,v=.slice A (rput (rput l { x with kids:=x.kids+1 }) (newM ch x)).length c/\Sl mbrT W (fun _=>True) (.slice A (rput (rput l { x with kids:=x.kids+1 }) (newM ch x)).length c) (rput (rput l { x with kids:=x.kids+1 }) (newM ch x))) :: []) rfl (by kernel_rfl) ?hR ?hstep ?hend
  case hR =>
   simp only [List.mem_cons,List.not_mem_nil,or_false,forall_eq_or_imp,forall_eq]
   exact⟨fun v _ _ h _=>h,fun v _ _ h _=>h,fun v _ _ h he=>by obtain⟨A,c,e,s⟩:=h;exact⟨A,c,e,s.ext (by decide) he⟩,fun v _ _ h _=>h,fun v _ _ h _=>h,fun v _ _ h _=>h,fun v _ _ h _=>h,fun v _ _ h he=>by obtain⟨A,c,e,s⟩:=h;exact⟨A,c,e,s.ext (by decide) he⟩,fun v _ _ h _=>h,fun v _ _ h he=>by obtain⟨A,c,e,s⟩:=h;exact⟨A,c,e,s.ext (by decide) he⟩⟩
  case hstep =>
   simp only [List.length_cons,List.length_nil,Nat.reduceAdd,List.take_succ_cons,List.take_zero,stepsAll,and_true]
   refine ⟨?_,?_,?_,?_,?_,?_,?_,?_,?_,?_⟩
   ·intro z' V he f
    have q0:z' 0=.slice A l.length c:=f.1
    clear f
    go_wp
    exact stepQ_ok rfl (Ext.refl _)
   ·intro z' V he f
    have q0:z' 7=.pointer (some ⟨gz,0,none⟩):=f.1
    clear f
    obtain⟨k0,k1,k2,k3,k4,k5,k6,k7,k8,k9,k10,k11,k12,k13,k14⟩:=(HR9.out.ext he).c15
    go_wp
    exact stepQ_ok rfl (Ext.refl _)
   ·intro z' V he f
    have q0:z' 48=.slice A l.length c:=f.1
    have q1:z' 49=.agg #[St x.path,U8 x.status,I (x.kids+1),I x.cut,U x.last,.slice E1 x.gone.length e1,St x.plan.keeper,U x.plan.round,St x.plan.live,St x.plan.by_,U x.plan.cap,St x.plan.owner,U x.plan.base,.bool x.plan.done,.slice E2 x.words.length e2]:=f.2.1
    clear f
    go_wp
    refine (HP1.out V he).mono ?_
    rintro e w6 ⟨v6,rfl,s1,hb1⟩
    obtain⟨G1,h1,rfl,-,-⟩:=s1.form
    dsimp only
    go_wp
    exact stepQ_ok ⟨G1,h1,rfl,s1⟩ hb1
   ·intro z' V he f
    have q0:z' 9=St ch:=f.1
    clear f
    go_wp
    exact stepQ_ok rfl (Ext.refl _)
   ·intro z' V he f
    have q0:z' 7=.pointer (some ⟨gz,0,none⟩):=f.1
    clear f
    go_wp
    exact stepQ_ok rfl (Ext.refl _)
   ·intro z' V he f
    have q0:z' 52=.pointer (some ⟨gz,14,none⟩):=f.1
    clear f
    have k:=(HR9.out.ext he).cell (j:=14) rfl
    go_wp
    exact stepQ_ok rfl (Ext.refl _)
   ·intro z' V he f
    have q0:z' 51=St ch:=f.1
    have q1:z' 53=.slice E2 x.words.length e2:=f.2.1
    clear f
    go_wp
    exact stepQ_ok rfl (Ext.refl _)
   ·intro z' V he f
    obtain⟨G0,h0,q0,s0⟩:∃ A c,z' 50=.slice A (rput l { x with kids:=x.kids+1 }).length c/\Sl mbrT V (fun _=>True) (.slice A (rput l { x with kids:=x.kids+1 }).length c) (rput l { x with kids:=x.kids+1 }):=f.1
    have q1:z' 54=.agg #[St ch,U8 1,I 0,I 0,U 0,.slice none 0 0,St [],U 0,St [],St [],U 0,St [],U 0,.bool false,.slice E2 x.words.length e2]:=f.2.1
    clear f
    go_wp
    refine (HP2.out V he _ s0).mono ?_
    rintro e w6 ⟨v6,rfl,s1,hb1⟩
    obtain⟨G1,h1,rfl,-,-⟩:=s1.form
    dsimp only
    go_wp
    exact stepQ_ok ⟨G1,h1,rfl,s1⟩ hb1
   ·intro z' V he f
    have q0:z' 9=St ch:=f.1
    clear f
    go_wp
    exact stepQ_ok rfl (Ext.refl _)
   ·intro z' V he f
    obtain⟨G0,h0,q0,s0⟩:∃ A c,z' 55=.slice A (rput (rput l { x with kids:=x.kids+1 }) (newM ch x)).length c/\Sl mbrT V (fun _=>True) (.slice A (rput (rput l { x with kids:=x.kids+1 }) (newM ch x)).length c) (rput (rput l { x with kids:=x.kids+1 }) (newM ch x)):=f.1
    clear f
    go_wp
    exact stepQ_ok ⟨G0,h0,rfl,s0⟩ (Ext.refl _)
  case hend =>
   intro z' V he f
   simp only [List.take_succ_cons,List.take_zero,List.drop_succ_cons,List.drop_zero,List.filterMap_cons,List.filterMap_nil,List.length_cons,List.length_nil,Nat.reduceAdd] at f ⊢
   have q56:z' 56=St ch:=f.2.2.2.2.2.2.2.2.1
   obtain⟨G1,h1,q4,s1⟩:∃ A c,z' 4=.slice A (rput (rput l { x with kids:=x.kids+1 }) (newM ch x)).length c/\Sl mbrT V (fun _=>True) (.slice A (rput (rput l { x with kids:=x.kids+1 }) (newM ch x)).length c) (rput (rput l { x with kids:=x.kids+1 }) (newM ch x)):=f.2.2.2.2.2.2.2.2.2.1
   clear f
   simp only [putAll]
   go_simp
   go_wp2_with fail
   refine bodyPost_ret (results_tmp3 rfl _ _ _) rfl ?_
   exact⟨_,by rw [HE.out];rfl,by rw [HE.out];exact s1,HX4.out.trans he⟩
end
end Go.Proofs.YtblkikjmocnllaaGreatDoor
