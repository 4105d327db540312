/- Laws. -/
import Derived.Test.YtaabaflgeljbjaaGreatPr26
import Derived.Test.YtaabaflgeljbjaaGreatPr31
set_option linter.unusedVariables false
set_option linter.unusedSimpArgs false
set_option maxRecDepth 100000
set_option maxHeartbeats 40000000
namespace Go.Proofs.YtaabaflgeljbjaaGreat
section
open Go.RowKit Go.Shelf
theorem zk2 {S:Nat->Prop} {s:State} {v1 v2 v3:Value} {w:World} (h:StAt w S s v1 v2 v3) (sm:SmallS s) :
  Calls Tryz.prog 39 #[stV v1 v2 v3] w fun r w'=>∃ u1 u2 u3,r=.returned (stV u1 u2 u3)/\(Own w' w.heap.size 97 2 u1 s.all.length (s.all.flatMap zaj)/\Own w' w.heap.size 9 1 u3 s.pruned.length (s.pruned.flatMap strC) /\
   ∃ m,w.heap.size<=m/\m<=w'.heap.size/\(∀ b,zad u1 b ∨ zad u3 b->b < m)/\OwnL entryF 46 w' m (fun b=>m<=b/\¬ zad u2 b) u2 s.entries)/\Ext w w':=by
 obtain⟨sa,se,sp⟩:=s;obtain⟨A1,n1,A2,n2,A3,n3,rfl,rfl,rfl⟩:=h.fm;have h':=h.entries;have HAT:=zH (fun (pre post:List Entry) (m:Entry) (wr:World) (hx:Ext w wr) (hl:se=pre++m :: post)=>zea h' hx hl);have H:=zH h;have SM:=zH sm;have hx0:=((Ext.refl w).alloc (.cells #[.slice A1 sa.length n1,.slice A2 se.length n2,.slice A3 sp.length n3] 26)).alloc (.cells #[.slice none 0 0,.slice none 0 0,.slice none 0 0] 26);have rB0:=(zaf w 26 [.slice A1 sa.length n1,.slice A2 se.length n2,.slice A3 sp.length n3]).alloc (.cells #[.slice none 0 0,.slice none 0 0,.slice none 0 0] 26);have rR0:=zaf (w.alloc (.cells #[.slice A1 sa.length n1,.slice A2 se.length n2,.slice A3 sp.length n3] 26)) 26 [.slice none 0 0,.slice none 0 0,.slice none 0 0];rw [World.size_alloc] at rR0;have hz0:w.heap.size+2<=((w.alloc (.cells #[.slice A1 sa.length n1,.slice A2 se.length n2,.slice A3 sp.length n3] 26)).alloc (.cells #[.slice none 0 0,.slice none 0 0,.slice none 0 0] 26)).heap.size:=by simp
 clear h h' sm;go_enter Tryz.func39,Tryz.ntmps39;go_wp2_with fail;generalize (w.alloc (.cells #[.slice A1 sa.length n1,.slice A2 se.length n2,.slice A3 sp.length n3] 26)).alloc (.cells #[.slice none 0 0,.slice none 0 0,.slice none 0 0] 26)=W0 at *
 refine zat [fun v _=>v=.pointer (some ⟨w.heap.size,0,none⟩),fun v _=>v=.slice A1 sa.length n1,fun v W=>Own W W0.heap.size 97 2 v sa.length (sa.flatMap zaj),
  fun v _=>v=.pointer (some ⟨w.heap.size,2,none⟩),fun v _=>v=.slice A3 sp.length n3,fun v W=>Own W W0.heap.size 9 1 v sp.length (sp.flatMap strC),
  fun v W=>∃ u1 u3,v=.agg #[u1,.slice none 0 0,u3]/\Own W W0.heap.size 97 2 u1 sa.length (sa.flatMap zaj)/\Own W W0.heap.size 9 1 u3 sp.length (sp.flatMap strC),
  fun v W=>∃ g,v=.pointer (some ⟨g,0,none⟩)/\W0.heap.size<=g/\RowIs W g 26 [.slice none 0 0,.slice none 0 0,.slice none 0 0] []] rfl (by kernel_rfl) ?hR ?hstep ?hend
 case hR =>
  simp only [List.mem_cons,List.not_mem_nil,or_false,forall_eq_or_imp,forall_eq]
  exact⟨kP,kP,fun v _ _ h he=>h.ext he,kP,kP,fun v _ _ h he=>h.ext he,fun v _ _ h he=>by obtain⟨u1,u3,e,a,b⟩:=h;exact⟨u1,u3,e,a.ext he,b.ext he⟩,
   fun v _ _ h he=>by obtain⟨g,e,a,b⟩:=h;exact⟨g,e,a,b.ext he⟩⟩
 case hstep =>
  simp only [List.length_cons,List.length_nil,Nat.reduceAdd,List.take_succ_cons,List.take_zero,zbj,and_true]
  and_intros <;> intro x W he f
  ·have h:x 1=.pointer (some ⟨w.heap.size,0,none⟩):=f.1;go_wp;exact sQ
  ·have h:_=_:=f.1;have hc:=(rB0.ext he).cell (j:=0) rfl;go_wp;exact sQ
  ·have h:_=_:=f.1;have hs:=he.size;have HC:=zH (zik (H.out.all.ext (by decide) (hx0.trans he)) (Nat.le_trans SM.out.all (by decide)));go_wp;refine HC.out.mono ?_;rintro r W2 ⟨v,rfl,hv,hx2⟩;dsimp only;go_wp;refine zaa (v:=v) ?_ hx2;exact (own_markT.1 hv).lower hs
  ·have h:x 1=.pointer (some ⟨w.heap.size,0,none⟩):=f.1;go_wp;exact sQ
  ·have h:_=_:=f.1;have hc:=(rB0.ext he).cell (j:=2) rfl;go_wp;exact sQ
  ·have h:_=_:=f.1;have hs:=he.size;have HC:=zH (zpa (H.out.pruned.ext (by decide) (hx0.trans he)) (Nat.le_trans SM.out.pruned (by decide)));go_wp;refine HC.out.mono ?_;rintro r W2 ⟨v,rfl,hv,hx2⟩;dsimp only;go_wp;refine zaa (v:=v) ?_ hx2;exact (OwnL.flat_iff.1 hv).lower hs
  ·have h1:Own W W0.heap.size 97 2 (x 8) sa.length (sa.flatMap zaj):=f.1;have h2:Own W W0.heap.size 9 1 (x 11) sp.length (sp.flatMap strC):=f.2.1;obtain⟨B1,m1,e1,-,-⟩:=h1.form;obtain⟨B3,m3,e3,-,-⟩:=h2.form;rw [e1] at h1;rw [e3] at h2;go_wp;exact zaa (v:=.agg #[.slice B1 sa.length m1,.slice none 0 0,.slice B3 sp.length m3]) ⟨_,_,rfl,h1,h2⟩ (Ext.refl _)
  ·have hs:=he.size;have hrow:=zaf W 26 [.slice none 0 0,.slice none 0 0,.slice none 0 0];go_wp;exact zaa ⟨W.heap.size,rfl,hs,hrow⟩ ((Ext.refl W).alloc _)
 case hend =>
  intro x W he f;obtain⟨g,h3,hgb,hg⟩:∃ g,x 3=.pointer (some ⟨g,0,none⟩)/\W0.heap.size<=g/\RowIs W g 26 [.slice none 0 0,.slice none 0 0,.slice none 0 0] []:=f.2.2.2.2.2.2.2.1;obtain⟨u1,u3,h12,ho1,ho3⟩:∃ u1 u3,x 12=.agg #[u1,.slice none 0 0,u3]/\Own W W0.heap.size 97 2 u1 sa.length (sa.flatMap zaj)/\Own W W0.heap.size 9 1 u3 sp.length (sp.flatMap strC):=f.2.2.2.2.2.2.1;clear f;obtain⟨B1,m1,rfl,-,-⟩:=ho1.form;obtain⟨B3,m3,rfl,-,-⟩:=ho3.form;simp only [List.length_cons,List.length_nil,Nat.reduceAdd,List.take_succ_cons,List.take_zero,List.filterMap_cons,List.filterMap_nil,List.drop_succ_cons,List.drop_zero,zav,Act.put,List.setIfInBounds_toArray,List.set_cons_succ,List.set_cons_zero,h3,h12];obtain⟨hg0,hg1,hg2⟩:=hg.p3;obtain⟨hf0,hf1,hf2⟩:=hg.q3;have hS:=((hg.set (j:=0) (by simp) (.slice B1 sa.length m1)).set (j:=1) (by simp) (.slice none 0 0)).set (j:=2) (by simp) (.slice B3 sp.length m3);simp only [List.set_cons_succ,List.set_cons_zero] at hS
  have hk:∀ b,b ≠ g->(((W.setCell ⟨g,0,none⟩ (.slice B1 sa.length m1)).setCell ⟨g,1,none⟩ (.slice none 0 0)).setCell ⟨g,2,none⟩ (.slice B3 sp.length m3)).heap[b]? = W.heap[b]?:=fun b hb=>((Below.heap_setCell _ _ _ _ hb).trans (Below.heap_setCell _ _ _ _ hb)).trans (Below.heap_setCell _ _ _ _ hb)
  have HO1:=zH ((ho1.keep (w':=((W.setCell ⟨g,0,none⟩ (.slice B1 sa.length m1)).setCell ⟨g,1,none⟩ (.slice none 0 0)).setCell ⟨g,2,none⟩ (.slice B3 sp.length m3)) fun b hb _=>hk b (fun e=>by subst e;exact ho1.apart hg (by decide) hb)).lower hz0);have HO3:=zH ((ho3.keep (w':=((W.setCell ⟨g,0,none⟩ (.slice B1 sa.length m1)).setCell ⟨g,1,none⟩ (.slice none 0 0)).setCell ⟨g,2,none⟩ (.slice B3 sp.length m3)) fun b hb _=>hk b (fun e=>by subst e;exact ho3.apart hg (by decide) hb)).lower hz0);have HS:=zH hS;have hx1:=(((hx0.trans he).set (p:=⟨g,0,none⟩) (by simp;omega) (.slice B1 sa.length m1)).set (p:=⟨g,1,none⟩) (by simp;omega) (.slice none 0 0)).set (p:=⟨g,2,none⟩) (by simp;omega) (.slice B3 sp.length m3);have HB:=zH ((rB0.ext he).keep (w':=((W.setCell ⟨g,0,none⟩ (.slice B1 sa.length m1)).setCell ⟨g,1,none⟩ (.slice none 0 0)).setCell ⟨g,2,none⟩ (.slice B3 sp.length m3)) (hk _ (by omega)));have HR:=zH ((rR0.ext he).keep (w':=((W.setCell ⟨g,0,none⟩ (.slice B1 sa.length m1)).setCell ⟨g,1,none⟩ (.slice none 0 0)).setCell ⟨g,2,none⟩ (.slice B3 sp.length m3)) (hk _ (by omega)));have b1:=HB.out.cell (j:=1) rfl;have b1o:=(rB0.ext he).cell (j:=1) rfl;have HX1:=zH hx1;clear ho1 ho3 hS hx1 hg he;go_wp;go_wp2_with fail;generalize ((W.setCell ⟨g,0,none⟩ (.slice B1 sa.length m1)).setCell ⟨g,1,none⟩ (.slice none 0 0)).setCell ⟨g,2,none⟩ (.slice B3 sp.length m3)=W1 at *;have hgw:=HS.out.lt;have HBL:=zH (show ∀ b,zad (.slice B1 sa.length m1) b ∨ zad (.slice B3 sp.length m3) b->b < W1.heap.size from fun b hb=>hb.elim (fun h=>(HO1.out.base_le h).2) fun h=>(HO3.out.base_le h).2);have hz1:w.heap.size+2<=W1.heap.size:=Nat.le_trans hz0 (by omega)
  go_loopw [16] (fun i wr=>∃ pre post vE,se=pre++post/\i=I pre.length/\Hid (RowIs wr g 26 [.slice B1 sa.length m1,vE,.slice B3 sp.length m3] []/\Own wr (w.heap.size+2) 97 2 (.slice B1 sa.length m1) sa.length (sa.flatMap zaj)/\Own wr (w.heap.size+2) 9 1 (.slice B3 sp.length m3) sp.length (sp.flatMap strC) /\
   RowF wr W1.heap.size g vE pre/\W1.heap.size<=wr.heap.size/\RowIs wr (w.heap.size+1) 26 [.slice none 0 0,.slice none 0 0,.slice none 0 0] [])/\Ext w wr) (fun i _=>se.length - (intOf i).toNat)
  case atStart=>exact⟨[],se,.slice none 0 0,rfl,rfl,zH ⟨HS.out,HO1.out,HO3.out,RowF.nil _ _ _ _,Nat.le_refl _,HR.out⟩,HX1.out⟩
  case round =>
   obtain⟨pre,post,vE,hl,rfl,hI,hx⟩:=hrel
   cases post with
   | cons m post =>
    obtain⟨b,o,a1,a2,a3,rfl,e0,e1,e2,e3,e4,e5,e6,hEA⟩:=HAT.out pre post m wr hx hl;obtain⟨C1,c1,C2,c2,C3,c3,rfl,rfl,rfl⟩:=hEA.fm;have hlt:pre.length < se.length:=(by rw [hl];simp);have HL:=zH hl;have hsm:=SM.out.each m (by show m ∈ se;rw [hl];simp);have hse:se.length<=549755813888:=SM.out.entries;have HEA:=zH (hEA.ext hx);clear hl hEA;go_wp2_with fail;obtain⟨hg,ho1,ho3,hE,hzr,hR⟩:=hI.out;have hxb:=(Ext.refl wr).alloc (.cells #[St m.key,.slice C1 m.seen.length c1,.slice C2 m.counts.length c2,.slice C3 m.items.length c3,U m.cell.1,St m.cell.2.1,.bool m.cell.2.2] 46);have rb:=zaf wr 46 [St m.key,.slice C1 m.seen.length c1,.slice C2 m.counts.length c2,.slice C3 m.items.length c3,U m.cell.1,St m.cell.2.1,.bool m.cell.2.2];have hgb:=hg.ext hxb;have ho1b:=ho1.ext hxb;have ho3b:=ho3.ext hxb;have hEb:=hE.ext hxb;have hzb:=Nat.le_trans hzr hxb.size;have hRb:=hR.ext hxb;have hEAb:=HEA.out.ext hxb;have hxwb:=hx.trans hxb;obtain⟨AE,cE,rfl,-,-⟩:=hE.form;generalize hWb:wr.alloc (.cells #[St m.key,.slice C1 m.seen.length c1,.slice C2 m.counts.length c2,.slice C3 m.items.length c3,U m.cell.1,St m.cell.2.1,.bool m.cell.2.2] 46)=Wb at *;clear hg ho1 ho3 hE hR hI HEA hxb hWb e0 e1 e2 e3 e4 e5 e6;have hgl:=hgb.lt;have hEl:∀ b,zad (.slice AE pre.length cE) b->b < Wb.heap.size:=fun b hb=>(hEb.base_le hb).2
    obtain⟨xE,hoE⟩:=hEb.own;have hEg:¬ zad (.slice AE pre.length cE) g:=hoE.apart hgb (by decide)
    refine zjj [.early (fun v _=>v=.pointer (some ⟨g,1,none⟩)),.early (fun v _=>v=.slice AE pre.length cE),.early (fun v _=>v=entV m (.slice C1 m.seen.length c1) (.slice C2 m.counts.length c2) (.slice C3 m.items.length c3)),
     .early (fun v W=>∃ u1 u2 u3,v=entV m u1 u2 u3/\EntNew W Wb.heap.size m u1 u2 u3),
     .early (fun v W=>∃ h u1 u2 u3,v=.slice (some ⟨h,0,none⟩) 1 1/\Wb.heap.size<=h/\RowIs W h 46 (entL m u1 u2 u3) []/\EntNew W Wb.heap.size m u1 u2 u3),
     .move (fun v W=>RowF W W1.heap.size g v (pre++[m])),.late (fun v _=>v=.pointer (some ⟨g,1,none⟩))] 5 (fun W=>Ext Wb W) (fun W=>Moved (.slice AE pre.length cE) Wb W) Ext (MvR (.slice AE pre.length cE)) rfl (by kernel_rfl) (by kernel_rfl) ?hR ?hRq ?hJ ?hstep ?hend
    case hR=>simp only [List.mem_cons,List.not_mem_nil,or_false,forall_eq_or_imp,forall_eq,HF.fact];exact⟨kP,kP,kP,fun v _ _ h he=>by obtain⟨u1,u2,u3,e,a⟩:=h;exact⟨u1,u2,u3,e,a.ext he⟩,fun v _ _ h he=>by obtain⟨k,u1,u2,u3,e,a,b,c⟩:=h;exact⟨k,u1,u2,u3,e,a,b.ext he,c.ext he⟩,fun v _ _ h he=>h.ext he,kP⟩
    case hRq =>
     simp only [List.mem_cons,List.not_mem_nil,or_false,forall_eq_or_imp,forall_eq,HF.fact,HF.isStore]
     exact⟨fun _ v _ _ h _=>h,fun _ v _ _ h _=>h,fun _ v _ _ h _=>h,fun _ v _ _ h he=>by obtain⟨u1,u2,u3,e,a⟩:=h;exact⟨u1,u2,u3,e,a.mvR he hEl⟩,
      fun _ v _ _ h he=>by obtain⟨k,u1,u2,u3,e,a,b,c⟩:=h;exact⟨k,u1,u2,u3,e,a,b.mvR he (fun ho=>by have:=hEl k ho;omega),c.mvR he hEl⟩,fun h=>(by cases h),fun _ v _ _ h _=>h⟩
    case hJ=>exact (Ext.refl Wb).drew
    case hstep =>
     simp only [List.length_cons,List.length_nil,Nat.reduceAdd,List.take_succ_cons,List.take_zero,zes,and_true]
     and_intros
     ·intro x W hj f;have h:x 3=.pointer (some ⟨g,0,none⟩):=f.1;go_wp;exact zai rfl ⟨hj,Ext.refl _⟩
     ·intro x W hj f;have h:_=_:=f.1;have hc:=(hgb.ext hj).cell (j:=1) rfl;go_wp;exact zai rfl ⟨hj,Ext.refl _⟩
     ·intro x W hj f;have h:x 5=.pointer (some ⟨wr.heap.size,0,none⟩):=f.1;have q0:=(rb.ext hj).cell (j:=0) rfl;have q1:=(rb.ext hj).cell (j:=1) rfl;have q2:=(rb.ext hj).cell (j:=2) rfl;have q3:=(rb.ext hj).cell (j:=3) rfl;have q4:=(rb.ext hj).cell (j:=4) rfl;have q5:=(rb.ext hj).cell (j:=5) rfl;have q6:=(rb.ext hj).cell (j:=6) rfl;go_wp;exact zai rfl ⟨hj,Ext.refl _⟩
     ·intro x W hj f;have h:_=_:=f.1;have hs:=hj.size;have HC:=zH (zgs (hEAb.ext hj) (Nat.le_trans hsm.seen (by decide)) (Nat.le_trans hsm.counts (by decide)) (Nat.le_trans hsm.items (by decide)) (fun it hit=>Nat.le_trans (hsm.dots it hit) (by decide)));go_wp;refine HC.out.mono ?_;rintro r W2 ⟨u1,u2,u3,rfl,hn,hx2⟩;dsimp only;go_wp;exact zai (v:=entV m u1 u2 u3) ⟨u1,u2,u3,rfl,hn.lower hs⟩ ⟨hj.trans hx2,hx2⟩
     ·intro x W hj f;obtain⟨u1,u2,u3,h,hn⟩:∃ u1 u2 u3,x 23=entV m u1 u2 u3/\EntNew W Wb.heap.size m u1 u2 u3:=f.1;have hs:=hj.size;obtain⟨D1,d1,D2,d2,D3,d3,rfl,rfl,rfl⟩:=hn.fm;have hrow:=zaf W 46 (entL m (.slice D1 m.seen.length d1) (.slice D2 m.counts.length d2) (.slice D3 m.items.length d3));have hxa:=(Ext.refl W).alloc (.cells (entL m (.slice D1 m.seen.length d1) (.slice D2 m.counts.length d2) (.slice D3 m.items.length d3)).toArray 46);go_wp;exact zai (v:=.slice (some ⟨W.heap.size,0,none⟩) 1 1) ⟨W.heap.size,_,_,_,rfl,hs,hrow,hn.ext hxa⟩ ⟨hj.trans hxa,hxa⟩
     ·intro x W hj f;have h21:_=_:=f.1;obtain⟨k,u1,u2,u3,h24,hk,hrow,hn⟩:∃ h u1 u2 u3,x 24=.slice (some ⟨h,0,none⟩) 1 1/\Wb.heap.size<=h/\RowIs W h 46 (entL m u1 u2 u3) []/\EntNew W Wb.heap.size m u1 u2 u3:=f.2.1;have hs:=hj.size;have hone:=zgm (hn.rd (S:=fun _=>True) (fun _ _ _=>trivial));obtain⟨vss,g1,g2,g3⟩:=hEb.ext hj
      refine zal rfl (.tmp 21) (.tmp 24) 23 rfl W1.heap.size 46 7 120 zeroEnt Tryz.underlying23 zc0 rfl (by omega) (.slice AE pre.length cE) pre.length vss.flatten (by simp [go_sem,h21]) g3 (some ⟨k,0,none⟩) 1 1 (entL m u1 u2 u3) (by simp [go_sem,h24])
       ⟨by simp,hone,fun _=>⟨k,0,rfl,fun j u hj=>by rw [Nat.zero_add];exact hrow.cell hj⟩⟩ (by omega) (by omega) (by omega) ?_
      intro v' w' hown hgr;exact zai (RowF.snoc g1 g2 hn hEl hgl (by omega) hown hgr) ⟨Grew.moved hj hgr,hgr.size,hgr.same⟩
     ·intro x W b hj f;have h:x 3=.pointer (some ⟨g,0,none⟩):=f.1;go_wp;exact zai rfl ⟨hj,Ext.refl _⟩
    case hend =>
     intro x W hj f;have h25:RowF W W1.heap.size g (x 25) (pre++[m]):=f.2.2.2.2.2.1;have h26:x 26=.pointer (some ⟨g,1,none⟩):=f.2.2.2.2.2.2.1;clear f;obtain⟨AF,cF,hF,-,-⟩:=h25.form;rw [show (pre++[m]).length=pre.length+1 by simp] at hF;simp only [List.length_cons,List.length_nil,Nat.reduceAdd,List.take_succ_cons,List.take_zero,List.filterMap_cons,List.filterMap_nil,List.drop_succ_cons,List.drop_zero,zav,Act.put,List.setIfInBounds_toArray,List.set_cons_succ,List.set_cons_zero,h26,hF];rw [hF] at h25;have hgW:=hgb.mvR hj.mv hEg;have hRW:=hRb.mvR hj.mv (hoE.apart hRb (by decide));have ho1W:=ho1b.mvR hj.mv (ho1b.apart2 hoE (by decide));have ho3W:=ho3b.mvR hj.mv (ho3b.apart2 hoE (by decide));have hxW:=hxwb.moved hj (fun b hb=>by have:=(hEb.base_le hb).1;omega);have hc:=hgW.cell (j:=1) rfl;have hf:=hgW.frozen 1;have hgS:=hgW.set (j:=1) (by simp) (.slice AF (pre.length+1) cF);simp only [List.set_cons_succ,List.set_cons_zero] at hgS
     have HI:=zH (show RowIs (W.setCell ⟨g,1,none⟩ (.slice AF (pre.length+1) cF)) g 26 [.slice B1 sa.length m1,.slice AF (pre.length+1) cF,.slice B3 sp.length m3] []/\Own (W.setCell ⟨g,1,none⟩ (.slice AF (pre.length+1) cF)) (w.heap.size+2) 97 2 (.slice B1 sa.length m1) sa.length (sa.flatMap zaj)/\Own (W.setCell ⟨g,1,none⟩ (.slice AF (pre.length+1) cF)) (w.heap.size+2) 9 1 (.slice B3 sp.length m3) sp.length (sp.flatMap strC) /\
      RowF (W.setCell ⟨g,1,none⟩ (.slice AF (pre.length+1) cF)) W1.heap.size g (.slice AF (pre.length+1) cF) (pre++[m])/\W1.heap.size<=(W.setCell ⟨g,1,none⟩ (.slice AF (pre.length+1) cF)).heap.size/\RowIs (W.setCell ⟨g,1,none⟩ (.slice AF (pre.length+1) cF)) (w.heap.size+1) 26 [.slice none 0 0,.slice none 0 0,.slice none 0 0] [] from
      ⟨hgS,ho1W.keep fun b hb _=>Below.heap_setCell _ _ _ _ (fun e=>ho1W.apart hgW (by decide) (by have e2:b=g:=e;rw [<- e2];exact hb)),ho3W.keep fun b hb _=>Below.heap_setCell _ _ _ _ (fun e=>ho3W.apart hgW (by decide) (by have e2:b=g:=e;rw [<- e2];exact hb)),
       h25.set hgW (by decide),by rw [World.size_setCell];exact Nat.le_trans hzb hj.mv.1,hRW.other (by simp;omega) _⟩)
     have HXW:=zH (hxW.set (p:=⟨g,1,none⟩) (by simp;omega) (.slice AF (pre.length+1) cF));clear h25 hgS hgW hRW ho1W ho3W hxW hgb hRb ho1b ho3b hEb hoE hEAb rb;go_wp;exact⟨⟨pre++[m],post,_,by rw [HL.out];simp,by simp,HI,HXW.out⟩,by simp [intOf];omega⟩
   | nil =>
    rw [List.append_nil] at hl;subst hl;obtain⟨hg,ho1,ho3,hE,-,hR⟩:=hI.out;obtain⟨AE,cE,rfl,-,-⟩:=hE.form;obtain⟨k0,k1,k2⟩:=hg.p3;obtain⟨r0,r1,r2⟩:=hR.p3;obtain⟨f0,f1,f2⟩:=hR.q3;have HI:=hI;have HX:=zH hx;clear hI hg ho1 ho3 hE hR hx;go_wp2_with fail
    (try simp only [Exit.inBlock,Exit.then])
    refine bodyPost_ret (v:=stV (.slice B1 sa.length m1) (.slice AE se.length cE) (.slice B3 sp.length m3)) (by simp [results,Tryz.f39,go_sem,r0,r1,r2]) rfl ?_;obtain⟨hg,ho1,ho3,hE,hzr,hR⟩:=HI.out
    have hk:∀ b,b ≠ w.heap.size+1->(((wr.setCell ⟨w.heap.size+1,0,none⟩ (.slice B1 sa.length m1)).setCell ⟨w.heap.size+1,1,none⟩ (.slice AE se.length cE)).setCell ⟨w.heap.size+1,2,none⟩ (.slice B3 sp.length m3)).heap[b]? = wr.heap[b]?:=fun b hb=>((Below.heap_setCell _ _ _ _ hb).trans (Below.heap_setCell _ _ _ _ hb)).trans (Below.heap_setCell _ _ _ _ hb)
    refine ⟨.slice B1 sa.length m1,.slice AE se.length cE,.slice B3 sp.length m3,rfl,⟨?_,?_,W1.heap.size,by omega,by simp only [World.size_setCell];exact hzr,HBL.out,?_⟩,?_⟩
    ·exact (ho1.keep fun b hb _=>hk b (by have:=(ho1.base_le hb).1;omega)).lower (by omega)
    ·exact (ho3.keep fun b hb _=>hk b (by have:=(ho3.base_le hb).1;omega)).lower (by omega)
    ·exact OwnL.mono (OwnL.keep (w':=((wr.setCell ⟨w.heap.size+1,0,none⟩ (.slice B1 sa.length m1)).setCell ⟨w.heap.size+1,1,none⟩ (.slice AE se.length cE)).setCell ⟨w.heap.size+1,2,none⟩ (.slice B3 sp.length m3)) hE (fun b hb _=>hk b (by have:=hb.1;omega)) (fun b hb _=>hk b (by have:=(hE.base_le hb).1;omega))) (S':=fun b=>W1.heap.size<=b/\¬ zad (.slice AE se.length cE) b) fun b _ hb=>⟨hb.1,hb.2.2⟩
    ·exact ((HX.out.set (p:=⟨w.heap.size+1,0,none⟩) (by simp) _).set (p:=⟨w.heap.size+1,1,none⟩) (by simp) _).set (p:=⟨w.heap.size+1,2,none⟩) (by simp) _
theorem zu1 {S:Nat->Prop} {s:State} {v1 v2 v3:Value} {w:World} (h:StAt w S s v1 v2 v3) (sm:SmallS s) :
  Calls Tryz.prog 39 #[stV v1 v2 v3] w fun r w'=>∃ u1 u2 u3,r=.returned (stV u1 u2 u3)/\StNewF w' w.heap.size s u1 u2 u3/\Ext w w':=by
 refine (zk2 h sm).mono ?_;rintro r w' ⟨u1,u2,u3,e,⟨h1,h3,m,hm,-,-,h2⟩,hx⟩;exact⟨u1,u2,u3,e,⟨h1,(h2.mono fun b _ hb=>⟨Nat.le_trans hm hb.1,hb.2⟩).lower hm,h3⟩,hx⟩
theorem zjx {S:Nat->Prop} {s:State} {v1 v2 v3:Value} {w:World} (h:StAt w S s v1 v2 v3) (sm:SmallS s) :
  Calls Tryz.prog 39 #[stV v1 v2 v3] w fun r w'=>∃ u1 u2 u3,r=.returned (stV u1 u2 u3)/\StNew w' w.heap.size s u1 u2 u3/\Ext w w':=by
 refine (zu1 h sm).mono ?_;rintro r w' ⟨u1,u2,u3,e,hn,hx⟩;exact⟨u1,u2,u3,e,hn.new,hx⟩
end
end Go.Proofs.YtaabaflgeljbjaaGreat

