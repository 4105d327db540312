/- member.merge at api.Word. Printed by gen_mmerge.py. -/
import Derived.Test.YtblkikjmocnllaaGreatDoorQz32
import Derived.Test.YtblkikjmocnllaaGreatDoorQz22
import Derived.Test.YtblkikjmocnllaaGreatDoorQz18
import Derived.Test.YtblkikjmocnllaaGreatDoorQz24
set_option linter.unusedVariables false
set_option linter.unusedSimpArgs false
set_option maxRecDepth 100000
set_option maxHeartbeats 40000000
namespace Go.Proofs.YtblkikjmocnllaaGreatDoor
section
open Go.RowKit Go.Shelf
theorem wname_any (x:Word) (w:World):Calls Tryz.prog 109 #[wordV x] w fun e w'=>e=.returned (St x.of)/\Ext w w':=by
 have hx:=(Ext.refl w).alloc (.cells #[St x.of,U x.has,St x.keeper,U x.round,.bool x.agreed,U x.cap,.bool x.pruned] 71)
 have k0:=(rowNew w 71 [St x.of,U x.has,St x.keeper,U x.round,.bool x.agreed,U x.cap,.bool x.pruned]).cell (j:=0) rfl
 unfold wordV
 go_enter Tryz.func109,Tryz.ntmps109
 go_wp2_with fail
 go_ret
 exact⟨rfl,hx⟩
abbrev nmF:Value:=.func (.func 109) #[] #[]
theorem firstW_any {S:Nat->Prop} {v:Value} {l:List Word} {w:World} {tb:Nat} (hv:Sl wordT w S v l) (hb:w.cell? ⟨tb,0,none⟩=some nmF) :
  Calls Tryz.prog 145 #[v,.pointer (some ⟨tb,0,none⟩)] w fun e w'=>∃ p,e=.returned (.map (some p))/\w.heap.size<=p/\MapIs St wordV w' p (firstsL Word.of l)/\Ext w w':=by
 have hv':=hv
 obtain⟨A,c,rfl,hc1,hc2⟩:=hv.form
 have HAT:=Lib.hid (fun (pre post:List Word) (m:Word) (wr:World) (h:Ext w wr) (hl:l=pre++m :: post)=>word_at hv' h hl)
 have hmm:=run_makeMap_hint Tryz.underlying151
 have HZ:=Lib.hid (show ∀ w,(zeroValue 71).run Tryz.prog w=.ok (wordV word0) w from Tryz.zeroValue71)
 have eg:∀ args w,(callFunc 109 args).run Tryz.prog w=.ok (.enter 109 args) w:=enters_of Tryz.func109 (by kernel_rfl) rfl
 have HN:=Lib.hid wname_any
 have HB:=Lib.hid hb
 clear hv hv' hb
 go_enter Tryz.func145,Tryz.ntmps145
 go_wp2_with fail
 go_loopw [14] (fun i wr=>∃ pre post,l=pre++post/\i=I pre.length/\MapIs St wordV wr w.heap.size (firstsL Word.of pre)/\Ext w wr) (fun i _=>l.length - (intOf i).toNat)
 case atStart=>exact⟨[],l,rfl,rfl,MapIs.new w,(Ext.refl w).alloc _⟩
 case round =>
  obtain⟨pre,post,hl,rfl,hS,hx⟩:=hrel
  cases post with
  | cons x post =>
   obtain⟨b,o,rfl,k0,k1,k2,k3,k4,k5,k6⟩:=HAT.out pre post x wr hx hl
   have hlt:pre.length < l.length:=by rw [hl];simp
   have HL:=Lib.hid hl
   have hx1:=(Ext.refl wr).alloc (.cells #[St x.of,U x.has,St x.keeper,U x.round,.bool x.agreed,U x.cap,.bool x.pruned] 71)
   have R1:=Lib.hid (rowNew wr 71 [St x.of,U x.has,St x.keeper,U x.round,.bool x.agreed,U x.cap,.bool x.pruned])
   have hnm:=(hx.trans hx1).cell HB.out
   have HS:=Lib.hid (hS.ext hx1)
   have HX:=Lib.hid (hx.trans hx1)
   have HSZ:=Lib.hid hx.size
   have htb:=blk_of_cell HB.out
   clear hl hS hx hx1
   go_wp2_with fail
   have r1:=R1.out
   generalize hW1:wr.alloc (.cells #[St x.of,U x.has,St x.keeper,U x.round,.bool x.agreed,U x.cap,.bool x.pruned] 71)=W1 at *
   generalize wr.heap.size=n1 at *
   refine (HN.out x W1).mono ?_
   rintro e w2 ⟨rfl,hx2⟩
   have HX2:=Lib.hid (HX.out.trans hx2)
   have hnm2:=hx2.cell hnm
   have hS2:=HS.out.ext hx2
   obtain⟨-,hlk⟩:=run_lookup_MapIs (P:=Tryz.prog) Tryz.underlying151 keyStr HZ.out hS2 x.of
   generalize hG:getL word0 (firstsL Word.of pre) x.of=z at hlk
   have R2:=Lib.hid (r1.ext hx2)
   have HS2:=Lib.hid hS2
   clear hG hW1 hS2 hx2 hnm r1 R1 HS HX k0 k1 k2 k3 k4 k5 k6
   unfold wordV at hlk
   by_cases hin:x.of ∈ (firstsL Word.of pre).map Prod.fst
   ·simp only [hin,decide_true] at hlk
    have HF:=Lib.hid (show firstsL Word.of (pre++[x])=firstsL Word.of pre by rw [firstsL_snoc,if_pos hin])
    clear hin
    go_wp2_with fail
    go_roundw
    case rel=>exact⟨pre++[x],post,by rw [HL.out];simp,by simp,by rw [HF.out];exact HS2.out.ext ((Ext.refl _).alloc _),HX2.out.alloc _⟩
    case measure=>simp [intOf];omega
   ·simp only [hin,decide_false] at hlk
    have HF:=Lib.hid (show firstsL Word.of (pre++[x])=putL (firstsL Word.of pre) x.of x by rw [firstsL_snoc,if_neg hin])
    clear hin
    go_wp2_with fail
    have HX3:=Lib.hid (HX2.out.alloc (.cells #[St z.of,U z.has,St z.keeper,U z.round,.bool z.agreed,U z.cap,.bool z.pruned] 71))
    have HS3:=Lib.hid (HS2.out.ext ((Ext.refl w2).alloc (.cells #[St z.of,U z.has,St z.keeper,U z.round,.bool z.agreed,U z.cap,.bool z.pruned] 71)))
    have R3:=Lib.hid (R2.out.ext ((Ext.refl w2).alloc (.cells #[St z.of,U z.has,St z.keeper,U z.round,.bool z.agreed,U z.cap,.bool z.pruned] 71)))
    have hnm3:=((Ext.refl w2).alloc (.cells #[St z.of,U z.has,St z.keeper,U z.round,.bool z.agreed,U z.cap,.bool z.pruned] 71)).cell hnm2
    generalize w2.alloc (.cells #[St z.of,U z.has,St z.keeper,U z.round,.bool z.agreed,U z.cap,.bool z.pruned] 71)=W3 at *
    have hr3:=R3.out
    have HRC:=Lib.hid (fun (W:World) (he:Ext W3 W)=>(show W.cell? ⟨n1,0,none⟩=some (St x.of)/\W.cell? ⟨n1,1,none⟩=some (U x.has)/\W.cell? ⟨n1,2,none⟩=some (St x.keeper)/\W.cell? ⟨n1,3,none⟩=some (U x.round)/\W.cell? ⟨n1,4,none⟩=some (.bool x.agreed)/\W.cell? ⟨n1,5,none⟩=some (U x.cap)/\W.cell? ⟨n1,6,none⟩=some (.bool x.pruned) from ⟨(hr3.ext he).cell (j:=0) rfl,(hr3.ext he).cell (j:=1) rfl,(hr3.ext he).cell (j:=2) rfl,(hr3.ext he).cell (j:=3) rfl,(hr3.ext he).cell (j:=4) rfl,(hr3.ext he).cell (j:=5) rfl,(hr3.ext he).cell (j:=6) rfl⟩))
    clear hr3 R3 R2
    refine wp_region_facts [fun v _=>v=.map (some w.heap.size),fun v _=>v=nmF,fun v _=>v=wordV x,fun v _=>v=St x.of,fun v _=>v=wordV x] rfl (by kernel_rfl) ?hR ?hstep ?hend
    case hR =>
     simp only [List.mem_cons,List.not_mem_nil,or_false,forall_eq_or_imp,forall_eq]
     exact⟨fun v _ _ h _=>h,fun v _ _ h _=>h,fun v _ _ h _=>h,fun v _ _ h _=>h,fun v _ _ h _=>h⟩
    case hstep =>
     simp only [List.length_cons,List.length_nil,Nat.reduceAdd,List.take_succ_cons,List.take_zero,stepsAll,and_true]
     refine ⟨?_,?_,?_,?_,?_⟩
     ·intro y W he f
      have h:y 4=.map (some w.heap.size):=f.1
      go_wp
      exact stepQ_ok rfl (Ext.refl _)
     ·intro y W he f
      have h:y 1=.pointer (some ⟨tb,0,none⟩):=f.1
      have hc:=he.cell hnm3
      go_wp
      exact stepQ_ok rfl (Ext.refl _)
     ·intro y W he f
      have h:y 6=.pointer (some ⟨n1,0,none⟩):=f.1
      obtain⟨c0,c1,c2,c3,c4,c5,c6⟩:=HRC.out W he
      go_wp
      exact stepQ_ok rfl (Ext.refl _)
     ·intro y W he f
      have h:y 29=.func (.func 109) #[] #[]:=f.1
      have h':y 30=wordV x:=f.2.1
      go_wp
      refine (HN.out x W).mono ?_
      rintro e w1 ⟨rfl,hx1⟩
      dsimp only
      go_wp
      exact stepQ_ok rfl hx1
     ·intro y W he f
      have h:y 6=.pointer (some ⟨n1,0,none⟩):=f.1
      obtain⟨c0,c1,c2,c3,c4,c5,c6⟩:=HRC.out W he
      go_wp
      exact stepQ_ok rfl (Ext.refl _)
    case hend =>
     intro y W he f
     have h28:y 28=.map (some w.heap.size):=f.1
     have h31:y 31=St x.of:=f.2.2.2.1
     have h32:y 32=wordV x:=f.2.2.2.2.1
     simp only [List.length_cons,List.length_nil,Nat.reduceAdd,List.take_succ_cons,List.take_zero,List.filterMap_cons,List.filterMap_nil,List.drop_succ_cons,List.drop_zero,putAll,Act.put,List.setIfInBounds_toArray,List.set_cons_succ,List.set_cons_zero,h28,h31,h32]
     obtain⟨wn,hup,hsn,htn⟩:=run_update_MapIs (P:=Tryz.prog) Tryz.underlying151 keyStr (HS3.out.ext he) x.of x
     have HE:=Lib.hid (And.intro hsn ((HX3.out.trans he).turned htn (Nat.le_refl _)))
     clear h28 h31 h32 f hsn htn he
     go_wp2
     go_roundw
     case rel=>exact⟨pre++[x],post,by rw [HL.out];simp,by simp,by rw [HF.out];exact HE.out.1,HE.out.2⟩
     case measure=>simp [intOf];omega
  | nil =>
   rw [List.append_nil] at hl
   subst hl
   have HF:=Lib.hid (And.intro hS hx)
   clear hS hx
   go_wp2_with fail
   go_ret
   exact⟨_,rfl,Nat.le_refl _,HF.out.1,HF.out.2⟩
theorem merge_val {a:List Word} {done L:List (Str × Word)} {k:Str} (hd:k ∉ done.map Prod.fst) (hl:∀ j,L.lookup j=mrgO saidM ((firstsL Word.of a).lookup j) (done.lookup j)) (hin:k ∈ L.map Prod.fst) :
  ∃ x ∈ a,(firstsL Word.of a).lookup k=some x/\getL word0 L k=x:=by
 obtain⟨x,hx⟩:=Option.isSome_iff_exists.1 (memS.1 hin)
 have h2:=merge_at saidM hd hl
 rw [hx] at h2
 refine ⟨x,?_,h2.symm,by rw [lookS,hx];rfl⟩
 rw [firstsL_look] at h2
 exact List.mem_of_find?_eq_some h2.symm
theorem nmw_here (w:World):(w.alloc (.cells #[nmF] 125)).cell? ⟨w.heap.size,0,none⟩=some nmF:=by simp [go_sem]
theorem mergeW_any {S S':Nat->Prop} {v u:Value} {a b:List Word} {w:World} (ha:Sl wordT w S v a) (hb:Sl wordT w S' u b) (hk:∀ x,x ∈ a ∨ x ∈ b->x.of.length < 4294967296/\x.keeper.length < 4611686018427387904) (hl:a.length+b.length<=1099511627776) :
  Calls Tryz.prog 108 #[v,u,nmF,.func (.func 110) #[] #[]] w fun e w'=>∃ v',e=.returned v'/\Own w' w.heap.size 71 7 v' (mergeL Word.of saidM a b).length ((mergeL Word.of saidM a b).flatMap wordC)/\Ext w w':=by
 have hx0:=(Ext.refl w).alloc (.cells #[nmF] 125)
 have HF1:=Lib.hid (firstW_any (ha.ext (by decide) hx0) (nmw_here w))
 have HF2:=Lib.hid (fun W (h:Ext (w.alloc (.cells #[nmF] 125)) W)=>firstW_any (hb.ext (by decide) (hx0.trans h)) (h.cell (nmw_here w)))
 have eg1:∀ args w,(callFunc 145 args).run Tryz.prog w=.ok (.enter 145 args) w:=enters_of Tryz.func145 (by kernel_rfl) rfl
 have eg2:∀ args w,(callFunc 110 args).run Tryz.prog w=.ok (.enter 110 args) w:=enters_of Tryz.func110 (by kernel_rfl) rfl
 have HZ:=Lib.hid (show ∀ w,(zeroValue 71).run Tryz.prog w=.ok (wordV word0) w from Tryz.zeroValue71)
 have HK:=Lib.hid hk
 have HX0:=Lib.hid hx0
 obtain⟨A1,c1,rfl,-,-⟩:=ha.form
 obtain⟨A2,c2,rfl,-,-⟩:=hb.form
 have hs0:(w.alloc (.cells #[nmF] 125)).heap.size=w.heap.size+1:=by simp
 have HS0:=Lib.hid hs0
 clear ha hb hk hx0 hs0
 go_enter Tryz.func108,Tryz.ntmps108
 go_wp2_with fail
 generalize w.alloc (.cells #[nmF] 125)=W0 at *
 refine HF1.out.mono ?_
 rintro e w1 ⟨p1,rfl,hp1,hm1,hx1⟩
 have HP1:=Lib.hid (And.intro hp1 (And.intro hm1 hx1))
 clear hp1 hm1 hx1
 go_wp2_with fail
 refine (HF2.out w1 HP1.out.2.2).mono ?_
 rintro e w2 ⟨p2,rfl,hp2,hm2,hx2⟩
 have hm1:=HP1.out.2.1
 have HM1:=Lib.hid (hm1.ext hx2)
 obtain⟨W3,hr,hR,hx3,hsz⟩:=run_range_MapIs (P:=Tryz.prog) Tryz.underlying151 hm2
 have HN2:=Lib.hid hm2.nodup
 have HR:=Lib.hid hR
 have HM3:=Lib.hid (HM1.out.ext hx3)
 have HX3:=Lib.hid ((HX0.out.trans (HP1.out.2.2.trans hx2)).trans hx3)
 have hl1:=hm1.lt
 have hl2:=hm2.lt
 have HNE:=Lib.hid (show p1 ≠ p2/\p1 ≠ w2.heap.size/\w.heap.size<=p1/\p1 < w2.heap.size/\w.heap.size<=w2.heap.size from by
  have h1:=HP1.out.1
  have h2:=hx2.size
  have h3:=HS0.out
  have h4:=HP1.out.2.2.size
  omega)
 clear hm1 hm2 hx2 hR hx3 hp2 HP1 HM1 hl1 hl2
 go_wp2_with fail
 go_loopw [28] (fun u wr=>∃ done rest L,(done++rest).Perm (firstsL Word.of b)/\RangeIs St wordV wr p2 w2.heap.size (firstsL Word.of b) rest/\Hid (MapIs St wordV wr p1 L/\∀ j,L.lookup j=mrgO saidM ((firstsL Word.of a).lookup j) (done.lookup j))/\Ext w wr) (fun _ wr=>wr.rangeLeft p2 w2.heap.size)
 case atStart=>exact⟨[],_,firstsL Word.of a,.refl _,HR.out,Lib.hid ⟨HM3.out,fun j=>by cases (firstsL Word.of a).lookup j <;> rfl⟩,HX3.out⟩
 case round =>
  obtain⟨done,rest,L,hperm,hR,hML,hx⟩:=hrel
  rcases run_next_MapIs (P:=Tryz.prog) 0 hR with ⟨rfl,hrun⟩ | ⟨r1,q,r2,wn,rfl,hrun,hR2,ht,hent⟩
  ·have hnx:∀ ty,(Instr.next (.pointer (some ⟨w2.heap.size,0,none⟩)) false ty).run Tryz.prog wr=.ok (.tuple #[.bool false]) wr:=fun ty=>hrun
   have hd:done.Perm (firstsL Word.of b):=by simpa using hperm
   have hlo:∀ j,L.lookup j=mrgO saidM (a.find? fun x=>decide (x.of=j)) (b.find? fun x=>decide (x.of=j)):=fun j=>by
    rw [hML.out.2 j,perm_lookS ((hd.map Prod.fst).nodup_iff.2 HN2.out) hd,firstsL_look,firstsL_look]
   have hm:=hML.out.1
   have HRES:=Lib.hid (merge_is Word.of saidM word0 hm.nodup hlo)
   have HKL:=Lib.hid (show ∀ k ∈ L.map Prod.fst,k.length < 4294967296 from fun k hk=>by
    rcases (merge_keys Word.of saidM hlo k).1 hk with h | h
    ·obtain⟨x,hx,rfl⟩:=List.mem_map.1 h
     exact (HK.out x (.inl hx)).1
    ·obtain⟨x,hx,rfl⟩:=List.mem_map.1 h
     exact (HK.out x (.inr hx)).1)
   have HLEN:=Lib.hid (show L.length<=1099511627776 from Nat.le_trans (merge_len Word.of saidM hm.nodup hlo) hl)
   have HM:=Lib.hid hm
   have HX:=Lib.hid hx
   clear hrun hd hlo hm hML hx hperm hR hl
   go_wp2_with fail
   refine (keysS_anyW p1 wr).mono ?_
   rintro e w4 ⟨rfl,rfl⟩
   have hxb:=(Ext.refl wr).alloc (.cells #[.map (some p1)] 151)
   have HSRT:=Lib.hid (sortedW_any (p:=p1) (B:=wr.heap.size) (show (wr.alloc (.cells #[.map (some p1)] 151)).cell? ⟨wr.heap.size,0,none⟩=some (.map (some p1)) by simp [go_sem]) (HM.out.ext hxb) HKL.out HLEN.out)
   have HM4:=Lib.hid (HM.out.ext hxb)
   have HX4:=Lib.hid (HX.out.trans hxb)
   clear hxb
   go_wp2_with fail
   generalize wr.alloc (.cells #[.map (some p1)] 151)=W4 at *
   generalize wr.heap.size=nb at *
   refine HSRT.out.mono ?_
   rintro e w5 ⟨v',rfl,hv,hx5⟩
   have HM5:=Lib.hid (HM4.out.ext hx5)
   have HX5:=Lib.hid (HX4.out.trans hx5)
   have HYL:=Lib.hid (show (isort ltP (L.map Prod.fst)).length<=1099511627776 by rw [(isort_perm (lt:=ltP) _).length_eq,List.length_map];exact HLEN.out)
   generalize isort ltP (L.map Prod.fst)=ys at *
   obtain⟨Av,cv,rfl,-,-⟩:=hv.form
   have HY:=Lib.hid (fun (pre post:List Str) (k:Str) (wr:World) (h:Ext w5 wr) (hl:ys=pre++k :: post)=>(show ∃ g,Av=some ⟨g,0,none⟩/\wr.cell? ⟨g,pre.length,none⟩=some (St k) from by
    obtain⟨g,cap,cur,he,-⟩:=hv.pos (by rw [hl];simp;omega)
    injection he with e1 e2 e3
    subst e1
    refine ⟨g,rfl,h.cell (hv.cell rfl ?_)⟩
    rw [strC_flat,List.getElem?_map,hl,List.getElem?_append_right (Nat.le_refl _),Nat.sub_self]
    rfl))
   clear hv HSRT HM4 HX4 HM HX HKL HLEN hx5 HN2 HR HM3 HX3 HF1 HF2 HK HX0 HS0
   go_wp2_with fail
   go_loopw [16,51] (fun v i wr=>∃ pre post,ys=pre++post/\i=I pre.length/\Own wr w5.heap.size 71 7 v pre.length ((pre.map (getL word0 L)).flatMap wordC)/\Ext w5 wr) (fun _ i _=>ys.length - (intOf i).toNat)
   case atStart=>exact⟨[],ys,rfl,rfl,Own.nil _ _ _ _ _,Ext.refl _⟩
   case round =>
    obtain⟨pre,post,hl,rfl,hown,hx⟩:=hrel
    cases post with
    | cons k post =>
     obtain⟨g,rfl,hc⟩:=HY.out pre post k wr hx hl
     have hlt:pre.length < ys.length:=by rw [hl];simp
     have hyl:ys.length<=1099511627776:=HYL.out
     obtain⟨hlk,-⟩:=run_lookup_MapIs (P:=Tryz.prog) Tryz.underlying151 keyStr HZ.out (HM5.out.ext hx) k
     have HL:=Lib.hid hl
     have HE:=Lib.hid (show ((pre++[k]).map (getL word0 L)).flatMap wordC=(pre.map (getL word0 L)).flatMap wordC++wordC (getL word0 L k) by simp)
     generalize getL word0 L k=z at *
     unfold wordV at hlk
     generalize hcs:(pre.map (getL word0 L)).flatMap wordC=cs at *
     clear hcs
     have HO:=Lib.hid hown
     have HX:=Lib.hid hx
     have hn3:=hx.size
     have hnz:=Lib.hid ((HX5.out.trans hx).alloc (.cells #[St z.of,U z.has,St z.keeper,U z.round,.bool z.agreed,U z.cap,.bool z.pruned] 71))
     obtain⟨A4,c4,rfl,-,-⟩:=hown.form
     clear hl hx
     go_wp2_with (at_builtin;refine wpList_append_Own rfl (.tmp 55) (.tmp 59) 46 rfl w5.heap.size 71 7 72 (wordV word0) Tryz.underlying46 info_word rfl (by omega) _ pre.length cs rfl (hown.alloc _) _ 1 1 _ rfl (Src.new rfl (by intro u hu;simp at hu;rcases hu with rfl | rfl | rfl | rfl | rfl | rfl | rfl <;> rfl)) (by omega) (by omega) (by simp;omega) ?_;intro v' w' hown2 hgr;clear hown)
     go_roundw
     case rel=>exact⟨pre++[k],post,by rw [HL.out];simp,by simp,by rw [HE.out,List.length_append];exact hown2,Ext.grewOwn (HX.out.alloc _) hgr (HO.out.alloc _) (Nat.le_refl _)⟩
     case measure=>simp [intOf];omega
    | nil =>
     rw [List.append_nil] at hl
     subst hl
     have HF:=Lib.hid (And.intro hown (HX5.out.trans hx))
     obtain⟨A4,c4,rfl,-,-⟩:=hown.form
     clear hown hx
     go_wp2_with fail
     go_ret
     refine ⟨_,rfl,?_,HF.out.2⟩
     rw [<- HRES.out,List.length_map]
     exact HF.out.1.lower HX5.out.size
  ·have hnx:∀ ty,(Instr.next (.pointer (some ⟨w2.heap.size,0,none⟩)) false ty).run Tryz.prog wr=.ok (.tuple #[.bool true,St q.1,wordV q.2]) wn:=fun ty=>hrun
   have HNO:=Lib.hid (show q.1 ∉ done.map Prod.fst from by
    have h:=(hperm.map Prod.fst).nodup_iff.2 HN2.out
    simp only [List.map_append,List.map_cons] at h
    rw [List.nodup_append] at h
    exact fun hq=>h.2.2 _ hq _ (by simp) rfl)
   have HQB:=Lib.hid (firstsL_in Word.of (hperm.subset (by simp:q ∈ done++(r1++q :: r2))))
   have HPM:=Lib.hid (show ((done++[q])++(r1++r2)).Perm (firstsL Word.of b) from by
    refine List.Perm.trans ?_ hperm
    rw [List.append_assoc]
    exact (List.perm_middle (l₁:=r1) (a:=q) (l₂:=r2)).symm.append_left done)
   have hxn:Ext w wn:=hx.turned ht (by have:=HNE.out;omega)
   have hMn:=hML.out.1.turned ht HNE.out.2.1
   have HLK:=Lib.hid hML.out.2
   have HRL:=Lib.hid hR.left_eq
   clear hperm hR hx hML hrun
   obtain⟨k,y⟩:=q
   simp only at hent hnx HNO HQB HPM
   have hxm:=(Ext.refl wn).alloc (.cells #[St y.of,U y.has,St y.keeper,U y.round,.bool y.agreed,U y.cap,.bool y.pruned] 71)
   obtain⟨-,hlk⟩:=run_lookup_MapIs (P:=Tryz.prog) Tryz.underlying151 keyStr HZ.out (hMn.ext hxm) k
   generalize hG:getL word0 L k=z at hlk
   have HG:=Lib.hid hG
   have HMN:=Lib.hid hMn
   have HXN:=Lib.hid hxn
   have HR2:=Lib.hid hR2
   clear hG hMn hxn hR2 ht hxm
   unfold wordV at hlk hent hnx
   by_cases hin:k ∈ L.map Prod.fst
   ·simp only [hin,decide_true] at hlk
    obtain⟨z',hz1,hz2,hz3⟩:=merge_val HNO.out HLK.out hin
    have hzz:z=z':=HG.out.symm.trans hz3
    subst hzz
    have HST:=Lib.hid (merge_step saidM HNO.out HLK.out (y:=y) (saidM z y) (by rw [hz2]))
    have HSA:=Lib.hid (said_any z y (HK.out z (.inl hz1)).2 (HK.out y (.inr HQB.out.1)).2)
    generalize saidM z y=r at HST HSA
    have HSB:=Lib.hid (fun w=>show Calls Tryz.prog 110 #[.agg #[St z.of,U z.has,St z.keeper,U z.round,.bool z.agreed,U z.cap,.bool z.pruned],.agg #[St y.of,U y.has,St y.keeper,U y.round,.bool y.agreed,U y.cap,.bool y.pruned]] w fun e w'=>e=.returned (.agg #[St r.of,U r.has,St r.keeper,U r.round,.bool r.agreed,U r.cap,.bool r.pruned])/\Ext w w' from HSA.out w)
    clear hin hz1 hz2 hz3 HG HNO HLK HSA
    have R1:=rowNew wn 71 [St y.of,U y.has,St y.keeper,U y.round,.bool y.agreed,U y.cap,.bool y.pruned]
    have hxm:=((Ext.refl wn).alloc (.cells #[St y.of,U y.has,St y.keeper,U y.round,.bool y.agreed,U y.cap,.bool y.pruned] 71)).alloc (.cells #[St z.of,U z.has,St z.keeper,U z.round,.bool z.agreed,U z.cap,.bool z.pruned] 71)
    have hxm1:=(Ext.refl (wn.alloc (.cells #[St y.of,U y.has,St y.keeper,U y.round,.bool y.agreed,U y.cap,.bool y.pruned] 71))).alloc (.cells #[St z.of,U z.has,St z.keeper,U z.round,.bool z.agreed,U z.cap,.bool z.pruned] 71)
    have HE1:=Lib.hid (And.intro (RowIs.ext R1 hxm1) hxm)
    clear R1 hxm hxm1
    go_wp2_with fail
    obtain⟨r1',hxm⟩:=HE1.out
    generalize (wn.alloc (.cells #[St y.of,U y.has,St y.keeper,U y.round,.bool y.agreed,U y.cap,.bool y.pruned] 71)).alloc (.cells #[St z.of,U z.has,St z.keeper,U z.round,.bool z.agreed,U z.cap,.bool z.pruned] 71)=W4 at *
    refine (HSB.out W4).mono ?_
    rintro e w5 ⟨rfl,hx5⟩
    replace r1':=RowIs.ext r1' hx5
    have h15:=hxm.trans hx5
    have hxc:Ext wn (((((((w5.setCell ⟨wn.heap.size,0,none⟩ (St r.of)).setCell ⟨wn.heap.size,1,none⟩ (U r.has)).setCell ⟨wn.heap.size,2,none⟩ (St r.keeper)).setCell ⟨wn.heap.size,3,none⟩ (U r.round)).setCell ⟨wn.heap.size,4,none⟩ (.bool r.agreed)).setCell ⟨wn.heap.size,5,none⟩ (U r.cap)).setCell ⟨wn.heap.size,6,none⟩ (.bool r.pruned)):=(Ext.set (Ext.set (Ext.set (Ext.set (Ext.set (Ext.set (Ext.set h15 (p:=⟨wn.heap.size,0,none⟩) (Nat.le_refl _) (St r.of)) (p:=⟨wn.heap.size,1,none⟩) (Nat.le_refl _) (U r.has)) (p:=⟨wn.heap.size,2,none⟩) (Nat.le_refl _) (St r.keeper)) (p:=⟨wn.heap.size,3,none⟩) (Nat.le_refl _) (U r.round)) (p:=⟨wn.heap.size,4,none⟩) (Nat.le_refl _) (.bool r.agreed)) (p:=⟨wn.heap.size,5,none⟩) (Nat.le_refl _) (U r.cap)) (p:=⟨wn.heap.size,6,none⟩) (Nat.le_refl _) (.bool r.pruned))
    obtain⟨wu,hup,hsu,htu⟩:=run_update_MapIs (P:=Tryz.prog) Tryz.underlying151 keyStr (HMN.out.ext hxc) k r
    have HU:=Lib.hid (show _/\_/\_ from ⟨hsu,(HXN.out.trans hxc).turned htu HNE.out.2.2.1,(HR2.out.ext hxc).keep (htu.other _ HNE.out.1.symm) (htu.other _ HNE.out.2.1.symm)⟩)
    unfold wordV at hup
    have c0:=r1'.cell (j:=0) rfl
    have c1:=r1'.cell (j:=1) rfl
    have c2:=r1'.cell (j:=2) rfl
    have c3:=r1'.cell (j:=3) rfl
    have c4:=r1'.cell (j:=4) rfl
    have c5:=r1'.cell (j:=5) rfl
    have c6:=r1'.cell (j:=6) rfl
    have f0:=r1'.frozen 0
    have f1:=r1'.frozen 1
    have f2:=r1'.frozen 2
    have f3:=r1'.frozen 3
    have f4:=r1'.frozen 4
    have f5:=r1'.frozen 5
    have f6:=r1'.frozen 6
    generalize wn.heap.size=nn at *
    clear r1' hxm HE1 HSB hx5 h15 hxc hsu htu
    go_wp2_with fail
    have HM2:=HU.out.2.2.left_eq
    go_roundw
    case rel=>exact⟨done++[(k,y)],r1++r2,_,HPM.out,HU.out.2.2,Lib.hid ⟨HU.out.1,HST.out⟩,HU.out.2.1⟩
    case measure=>rw [HRL.out,HM2];simp
   ·simp only [hin,decide_false] at hlk
    have HST:=Lib.hid (merge_step saidM HNO.out HLK.out (y:=y) y (by
     have h2:=merge_at saidM HNO.out HLK.out
     rw [lookS_none hin] at h2
     rw [<- h2]))
    have R1:=rowNew wn 71 [St y.of,U y.has,St y.keeper,U y.round,.bool y.agreed,U y.cap,.bool y.pruned]
    have hxc:=((Ext.refl wn).alloc (.cells #[St y.of,U y.has,St y.keeper,U y.round,.bool y.agreed,U y.cap,.bool y.pruned] 71)).alloc (.cells #[St z.of,U z.has,St z.keeper,U z.round,.bool z.agreed,U z.cap,.bool z.pruned] 71)
    have hxm1:=(Ext.refl (wn.alloc (.cells #[St y.of,U y.has,St y.keeper,U y.round,.bool y.agreed,U y.cap,.bool y.pruned] 71))).alloc (.cells #[St z.of,U z.has,St z.keeper,U z.round,.bool z.agreed,U z.cap,.bool z.pruned] 71)
    replace R1:=RowIs.ext R1 hxm1
    have c0:=R1.cell (j:=0) rfl
    have c1:=R1.cell (j:=1) rfl
    have c2:=R1.cell (j:=2) rfl
    have c3:=R1.cell (j:=3) rfl
    have c4:=R1.cell (j:=4) rfl
    have c5:=R1.cell (j:=5) rfl
    have c6:=R1.cell (j:=6) rfl
    obtain⟨wu,hup,hsu,htu⟩:=run_update_MapIs (P:=Tryz.prog) Tryz.underlying151 keyStr (HMN.out.ext hxc) k y
    have HU:=Lib.hid (show _/\_/\_ from ⟨hsu,(HXN.out.trans hxc).turned htu HNE.out.2.2.1,(HR2.out.ext hxc).keep (htu.other _ HNE.out.1.symm) (htu.other _ HNE.out.2.1.symm)⟩)
    unfold wordV at hup
    clear hin HG HNO HLK R1 hxm1 hxc hsu htu
    go_wp2_with fail
    have HM2:=HU.out.2.2.left_eq
    go_roundw
    case rel=>exact⟨done++[(k,y)],r1++r2,_,HPM.out,HU.out.2.2,Lib.hid ⟨HU.out.1,HST.out⟩,HU.out.2.1⟩
    case measure=>rw [HRL.out,HM2];simp
end
end Go.Proofs.YtblkikjmocnllaaGreatDoor
