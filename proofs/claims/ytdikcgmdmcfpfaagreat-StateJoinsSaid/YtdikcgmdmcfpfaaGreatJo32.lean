/- Contracts and plain laws. -/
import Derived.Test.YtdikcgmdmcfpfaaGreatJo24
import Derived.Test.YtdikcgmdmcfpfaaGreatJo25
import Derived.Test.YtdikcgmdmcfpfaaGreatJo19
import Derived.Test.YtdikcgmdmcfpfaaGreatJo22
import Derived.Test.YtdikcgmdmcfpfaaGreatJo08
import Derived.Test.YtdikcgmdmcfpfaaGreatJo18
import Derived.Test.YtdikcgmdmcfpfaaGreatJo11
import Derived.StillTailTactics
import Derived.Test.YtdikcgmdmcfpfaaGreatJo31
import Derived.Test.YtdikcgmdmcfpfaaGreatJo06
set_option linter.unusedVariables false
set_option linter.unusedSimpArgs false
set_option maxRecDepth 100000
set_option maxHeartbeats 40000000
namespace Go.Proofs.YtdikcgmdmcfpfaaGreat
section
open Go.RowKit Go.Shelf
abbrev entL (e:Entry) (v1 v2 v3:Value):List Value:=[St e.key,v1,v2,v3,U e.cell.1,St e.cell.2.1,.bool e.cell.2.2]
theorem zah (w:World) (T:Nat) (xs:List Value):RowIs (w.alloc (.cells xs.toArray T)) w.heap.size T xs []:=by
 unfold RowIs;rw [List.append_nil];exact Go.heap_alloc_new w _
theorem zfu {S:Nat->Prop} {e:Entry} {v1 v2 v3:Value} {w:World} (h:EntAt w S e v1 v2 v3) (hl1:e.seen.length<=1099511627776) (hl2:e.counts.length<=1099511627776) (hl3:e.items.length<=1099511627776) (hl4:∀ it ∈ e.items,it.2.length<=1099511627776) :
  Calls Tryz.prog 62 #[entV e v1 v2 v3] w fun r w'=>∃ u1 u2 u3,r=.returned (entV e u1 u2 u3)/\EntNew w' w.heap.size e u1 u2 u3/\Ext w w':=by
 have h':=h.mono (S':=fun b=>S b/\b < w.heap.size) (fun b hb hS=>⟨hS,hb⟩);obtain⟨ek,es,ec,ei,x1,x2,x3⟩:=e;obtain⟨A1,n1,rfl,-,-⟩:=h.seen.form;obtain⟨A2,n2,rfl,-,-⟩:=h.counts.form;obtain⟨A3,n3,rfl,-,-⟩:=h.items.form;have H:=zH h';have hx0:=((Ext.refl w).alloc (.cells #[St ek,.slice A1 es.length n1,.slice A2 ec.length n2,.slice A3 ei.length n3,U x1,St x2,.bool x3] 37)).alloc (.cells #[St [],.slice none 0 0,.slice none 0 0,.slice none 0 0,.int .u64 0,St [],.bool false] 37);have hb0:=(zah w 37 [St ek,.slice A1 es.length n1,.slice A2 ec.length n2,.slice A3 ei.length n3,U x1,St x2,.bool x3]).alloc (.cells #[St [],.slice none 0 0,.slice none 0 0,.slice none 0 0,.int .u64 0,St [],.bool false] 37);have hr0:=zah (w.alloc (.cells #[St ek,.slice A1 es.length n1,.slice A2 ec.length n2,.slice A3 ei.length n3,U x1,St x2,.bool x3] 37)) 37 [St [],.slice none 0 0,.slice none 0 0,.slice none 0 0,.int .u64 0,St [],.bool false];rw [World.size_alloc] at hr0;have hz1:w.heap.size+2<=((w.alloc (.cells #[St ek,.slice A1 es.length n1,.slice A2 ec.length n2,.slice A3 ei.length n3,U x1,St x2,.bool x3] 37)).alloc (.cells #[St [],.slice none 0 0,.slice none 0 0,.slice none 0 0,.int .u64 0,St [],.bool false] 37)).heap.size:=by simp
 clear h h';go_enter Tryz.func62,Tryz.ntmps62;go_wp2_with fail;generalize hW0:(w.alloc (.cells #[St ek,.slice A1 es.length n1,.slice A2 ec.length n2,.slice A3 ei.length n3,U x1,St x2,.bool x3] 37)).alloc (.cells #[St [],.slice none 0 0,.slice none 0 0,.slice none 0 0,.int .u64 0,St [],.bool false] 37)=W0 at *;clear hW0;have H1:=zH (zhb (H.out.seen.ext (by decide) hx0) hl1);refine H1.out.mono ?_;rintro r W1 ⟨u1,rfl,hu1,hx1⟩;have hx01:=hx0.trans hx1;have hb1:=hb0.ext hx1;have hr1:=hr0.ext hx1;have hf1:=hb1.frozen 1;have hc1:=hb1.cell (j:=1) rfl;have hu1':=(own_markT.1 hu1).lower hz1;obtain⟨B1,m1,rfl,-,-⟩:=hu1.form;have HU1:=zH hu1';have hsb:=(hb1.set (j:=1) (by simp) (.slice B1 es.length m1))
 have hc2:=hsb.cell (j:=2) rfl;have hr1':=hr1.other (p:=⟨w.heap.size,1,none⟩) (by simp) (.slice B1 es.length m1);have hx1':=hx01.set (p:=⟨w.heap.size,1,none⟩) (Nat.le_refl _) (.slice B1 es.length m1);have HU1':=zH (hu1'.keep (w':=W1.setCell ⟨w.heap.size,1,none⟩ (.slice B1 es.length m1)) fun b hb _=>Below.heap_setCell _ _ _ _ (fun e=>by have:=(hu1'.base_le hb).1;have e2:b=w.heap.size:=e;omega));have hz2:W0.heap.size<=(W1.setCell ⟨w.heap.size,1,none⟩ (.slice B1 es.length m1)).heap.size:=by rw [World.size_setCell];exact hx1.size
 replace hz2:=Nat.le_trans hz1 hz2;clear hu1 hu1' HU1;go_wp2_with fail;generalize W1.setCell ⟨w.heap.size,1,none⟩ (.slice B1 es.length m1)=W1s at *;clear hx1 hr1 hb1 hx01 hx0 hr0 hb0 hc1 hf1 hc2 hz1 H1;clear W1 W0;simp only [List.set_cons_succ,List.set_cons_zero] at hsb;have H2:=zH (zrq (H.out.counts.ext (by decide) hx1') hl2);refine H2.out.mono ?_;rintro r W2 ⟨u2,rfl,hu2,hx2⟩;have hx12:=hx1'.trans hx2;have hb2:=hsb.ext hx2;have hr2:=hr1'.ext hx2;have hf2:=hb2.frozen 2;have hc2:=hb2.cell (j:=2) rfl;have hu2':=((OwnL.flat_iff (S:=fun b=>S b/\b < w.heap.size)).1 hu2).lower hz2;obtain⟨B2,m2,rfl,-,-⟩:=hu2.form;have HU1:=zH (HU1'.out.ext hx2);have hsb2:=(hb2.set (j:=2) (by simp) (.slice B2 ec.length m2))
 have hc3:=hsb2.cell (j:=3) rfl;have hr2':=hr2.other (p:=⟨w.heap.size,2,none⟩) (by simp) (.slice B2 ec.length m2);have hx2':=hx12.set (p:=⟨w.heap.size,2,none⟩) (Nat.le_refl _) (.slice B2 ec.length m2);have HV1:=zH (HU1.out.keep (w':=W2.setCell ⟨w.heap.size,2,none⟩ (.slice B2 ec.length m2)) fun b hb _=>Below.heap_setCell _ _ _ _ (fun e=>by have:=(HU1.out.base_le hb).1;have e2:b=w.heap.size:=e;omega));have HU2:=zH (hu2'.keep (w':=W2.setCell ⟨w.heap.size,2,none⟩ (.slice B2 ec.length m2)) fun b hb _=>Below.heap_setCell _ _ _ _ (fun e=>by have:=(hu2'.base_le hb).1;have e2:b=w.heap.size:=e;omega));have hz3:w.heap.size+2<=(W2.setCell ⟨w.heap.size,2,none⟩ (.slice B2 ec.length m2)).heap.size:=by rw [World.size_setCell];exact Nat.le_trans hz2 hx2.size
 clear hu2 hu2' HU1 HU1';go_wp2_with fail;generalize W2.setCell ⟨w.heap.size,2,none⟩ (.slice B2 ec.length m2)=W2s at *;clear hx2 hr2 hb2 hx12 hc2 hf2 hc3 H2 hsb hr1' hx1' hz2;clear W2 W1s;simp only [List.set_cons_succ,List.set_cons_zero] at hsb2;have H3:=zH (ztb (H.out.items.ext (by decide) hx2') hl3);refine H3.out.mono ?_;rintro r W3 ⟨u3,rfl,hu3,hx3⟩;have hx23:=hx2'.trans hx3;have hb3:=hsb2.ext hx3;have hr3:=hr2'.ext hx3;have hf3:=hb3.frozen 3;have hc3:=hb3.cell (j:=3) rfl;have hB1:∀ b,zae (.slice B1 es.length m1) b->b < W2s.heap.size:=fun b hb=>(HV1.out.base_le hb).2
 have hB2:∀ b,zae (.slice B2 ec.length m2) b->b < W2s.heap.size:=fun b hb=>(HU2.out.base_le hb).2
 have hz5:=hx3.size;generalize W2s.heap.size=Z at hu3 hB1 hB2 hz3 hz5;have hu3':=hu3;obtain⟨B3,m3,rfl,-,-⟩:=hu3.form;have HU1:=zH (HV1.out.ext hx3);have HU2':=zH (HU2.out.ext hx3);have hsb3:=(hb3.set (j:=3) (by simp) (.slice B3 ei.length m3))
 have hc4:=hsb3.cell (j:=3) rfl;have hr3':=hr3.other (p:=⟨w.heap.size,3,none⟩) (by simp) (.slice B3 ei.length m3);have hx3':=hx23.set (p:=⟨w.heap.size,3,none⟩) (Nat.le_refl _) (.slice B3 ei.length m3);have HU1'':=zH (HU1.out.keep (w':=W3.setCell ⟨w.heap.size,3,none⟩ (.slice B3 ei.length m3)) fun b hb _=>Below.heap_setCell _ _ _ _ (fun e=>by have:=(HU1.out.base_le hb).1;have e2:b=w.heap.size:=e;omega));have HU2'':=zH (HU2'.out.keep (w':=W3.setCell ⟨w.heap.size,3,none⟩ (.slice B3 ei.length m3)) fun b hb _=>Below.heap_setCell _ _ _ _ (fun e=>by have:=(HU2'.out.base_le hb).1;have e2:b=w.heap.size:=e;omega));have HU3:=zH (hu3'.keep (w':=W3.setCell ⟨w.heap.size,3,none⟩ (.slice B3 ei.length m3)) (fun b hb _=>Below.heap_setCell _ _ _ _ (fun e=>by have:=hb.2;have e2:b=w.heap.size:=e;omega)) (fun b hb _=>Below.heap_setCell _ _ _ _ (fun e=>by have:=(hu3'.base_le hb).1;have e2:b=w.heap.size:=e;omega)));have hz4:Z<=(W3.setCell ⟨w.heap.size,3,none⟩ (.slice B3 ei.length m3)).heap.size:=by rw [World.size_setCell];exact hz5
 clear hu3 hu3' HU1 HU2 HU2' HV1;go_wp2_with fail;generalize W3.setCell ⟨w.heap.size,3,none⟩ (.slice B3 ei.length m3)=W3s at *;clear hx3 hr3 hb3 hx23 hc3 hf3 hc4 H3 hsb2 hr2' hx2' hz5;clear W3 W2s;simp only [List.set_cons_succ,List.set_cons_zero] at hsb3
 go_loopw [19] (fun i wr=>∃ A B,ei=A++B/\i=I A.length/\Hid (RowIs wr w.heap.size 37 [St ek,.slice B1 es.length m1,.slice B2 ec.length m2,.slice B3 ei.length m3,U x1,St x2,.bool x3] []/\RowIs wr (w.heap.size+1) 37 [St [],.slice none 0 0,.slice none 0 0,.slice none 0 0,.int .u64 0,St [],.bool false] []/\Own wr (w.heap.size+2) 25 2 (.slice B1 es.length m1) es.length (es.flatMap zag) /\
   Own wr (w.heap.size+2) 93 3 (.slice B2 ec.length m2) ec.length (ec.flatMap za6)/\HalfRow wr Z (fun b=>S b/\b < w.heap.size) (.slice B3 ei.length m3) A B)/\Ext w wr/\Z<=wr.heap.size) (fun i _=>ei.length - (intOf i).toNat)
 case atStart=>exact⟨[],ei,rfl,rfl,zH ⟨hsb3,hr3',HU1''.out,HU2''.out,HalfRow.start HU3.out⟩,hx3',hz4⟩
 case round =>
  obtain⟨A,B,hl,rfl,hrow,hx,hzz⟩:=hrel
  cases B with
  | cons it B =>
   have hlt:A.length < ei.length:=(by rw [hl];simp);have HL:=zH hl;have hit:=hl4 it (by rw [hl];simp);clear hl;go_wp2_with fail;obtain⟨hb,hr,ho1,ho2,hh⟩:=hrow.out;obtain⟨g,cap,dv,e,hcap1,hcap2,hgb,hdc,hdf,hds⟩:=hh.next;obtain⟨e1,e2,e3⟩:B3=some ⟨g,0,none⟩/\ei.length=A.length+(B.length+1)/\m3=cap:=by injection e with e1 e2 e3;exact⟨e1,e2,e3⟩
   subst e1;subst e3;have HE2:=zH e2;clear e e2 hrow
   refine zaq [fun v _=>v=.pointer (some ⟨w.heap.size,3,none⟩),fun v _=>v=.slice (some ⟨g,0,none⟩) ei.length m3,fun v _=>v=I A.length,fun v _=>v=.pointer (some ⟨w.heap.size,3,none⟩),fun v _=>v=.slice (some ⟨g,0,none⟩) ei.length m3,fun v _=>v=I A.length,
    fun v _=>v=.pointer (some ⟨g,A.length * 2,none⟩),fun v _=>v=.pointer (some ⟨g,A.length * 2+1,none⟩),fun v _=>v=dv,fun v W=>Own W wr.heap.size 97 2 v it.2.length (it.2.flatMap zag)] rfl (by kernel_rfl) ?hR ?hstep ?hend
   case hR=>simp only [List.mem_cons,List.not_mem_nil,or_false,forall_eq_or_imp,forall_eq];exact⟨kP,kP,kP,kP,kP,kP,kP,kP,kP,fun v _ _ h he=>h.ext he⟩
   case hstep =>
    simp only [List.length_cons,List.length_nil,Nat.reduceAdd,List.take_succ_cons,List.take_zero,zbf,and_true];refine ⟨?_,?_,?_,?_,?_,?_,?_,?_,?_,?_⟩
    ·intro x W he f;have h1:x 1=.pointer (some ⟨w.heap.size,0,none⟩):=f.1;go_wp;exact sQ
    ·intro x W he f;have h22:x 22=.pointer (some ⟨w.heap.size,3,none⟩):=f.1;have hc:=(hb.ext he).cell (j:=3) rfl;go_wp;exact sQ
    ·intro x W he f;have h3:x 3=I A.length:=f.1;go_wp;exact sQ
    ·intro x W he f;have h1:x 1=.pointer (some ⟨w.heap.size,0,none⟩):=f.1;go_wp;exact sQ
    ·intro x W he f;have h25:x 25=.pointer (some ⟨w.heap.size,3,none⟩):=f.1;have hc:=(hb.ext he).cell (j:=3) rfl;go_wp;exact sQ
    ·intro x W he f;have h3:x 3=I A.length:=f.1;go_wp;exact sQ
    ·intro x W he f;have h26:x 26=.slice (some ⟨g,0,none⟩) ei.length m3:=f.1;have h27:x 27=I A.length:=f.2.1;go_wp;exact sQ
    ·intro x W he f;have h28:x 28=.pointer (some ⟨g,A.length * 2,none⟩):=f.1;go_wp;exact sQ
    ·intro x W he f;have h29:x 29=.pointer (some ⟨g,A.length * 2+1,none⟩):=f.1;have hc:=he.cell hdc;obtain⟨Ad,cd,rfl,hcd1,hcd2⟩:=hds.form;go_wp;exact sQ
    ·intro x W he f;have h30:x 30=dv:=f.1;have hs:=he.size;have HC:=zH (zu8 (hds.ext (by decide) he) hit);go_wp;refine HC.out.mono ?_;rintro r W2 ⟨dv',rfl,hd,hx2⟩;dsimp only;go_wp;refine zaa (v:=dv') ?_ hx2;exact (own_markT.1 hd).lower hs
   case hend =>
    intro x W he f
    obtain⟨h22,h23,h24,-,-,-,-,-,-,h31,-⟩:x 22=.pointer (some ⟨w.heap.size,3,none⟩)/\x 23=.slice (some ⟨g,0,none⟩) ei.length m3/\x 24=I A.length/\x 25=.pointer (some ⟨w.heap.size,3,none⟩)/\x 26=.slice (some ⟨g,0,none⟩) ei.length m3/\x 27=I A.length /\
     x 28=.pointer (some ⟨g,A.length * 2,none⟩)/\x 29=.pointer (some ⟨g,A.length * 2+1,none⟩)/\x 30=dv/\Own W wr.heap.size 97 2 (x 31) it.2.length (it.2.flatMap zag)/\True:=f
    simp only [List.length_cons,List.length_nil,Nat.reduceAdd,List.take_succ_cons,List.take_zero,List.filterMap_cons,List.filterMap_nil,List.drop_succ_cons,List.drop_zero,zaw,Act.put,List.setIfInBounds_toArray,List.set_cons_succ,List.set_cons_zero,h22,h23,h24];have hdc':=he.cell hdc;have hdf':=(he.frozen (o:=A.length * 2+1) (zaf hdc)).trans hdf;have hsw:=he.size;have hg0:=zaf hdc;have hput:=hh.ext he;obtain⟨Ad,cd,hx31,hcd1,hcd2⟩:=h31.form;rw [hx31] at h31;simp only [hx31];have HP:=zH (HE2.out ▸ (HE2.out ▸ hput).put (fun b hb=>by omega) h31 (by omega) hg0);go_wp
    refine ⟨⟨A++[it],B,by rw [HL.out];simp,by simp,zH ⟨(hb.ext he).other (by simp;omega) _,(hr.ext he).other (by simp;omega) _,(ho1.ext he).keep fun b hb' _=>Below.heap_setCell _ _ _ _ (fun e=>by have:=hB1 b hb';have e2:b=g:=e;omega),
     (ho2.ext he).keep fun b hb' _=>Below.heap_setCell _ _ _ _ (fun e=>by have:=hB2 b hb';have e2:b=g:=e;omega),HE2.out ▸ HP.out⟩,(hx.trans he).set (by simp;omega) _,by rw [World.size_setCell];omega⟩,?_⟩
    have:=HE2.out;simp only [intOf];omega
  | nil =>
   obtain⟨hb,hr,ho1,ho2,hh⟩:=hrow.out;rw [List.append_nil] at hl;subst hl;have HD:=zH hh.done;have k0:=hb.cell (j:=0) rfl;have r0:=hr.cell (j:=0) rfl;have f0:=hr.frozen 0;have k1:=hb.cell (j:=1) rfl;have r1:=hr.cell (j:=1) rfl;have f1:=hr.frozen 1;have k2:=hb.cell (j:=2) rfl;have r2:=hr.cell (j:=2) rfl;have f2:=hr.frozen 2;have k3:=hb.cell (j:=3) rfl;have r3:=hr.cell (j:=3) rfl;have f3:=hr.frozen 3;have k4:=hb.cell (j:=4) rfl;have r4:=hr.cell (j:=4) rfl;have f4:=hr.frozen 4;have k5:=hb.cell (j:=5) rfl;have r5:=hr.cell (j:=5) rfl;have f5:=hr.frozen 5;have k6:=hb.cell (j:=6) rfl;have r6:=hr.cell (j:=6) rfl;have f6:=hr.frozen 6;clear hh;go_wp2_with fail
   (try simp only [Exit.inBlock,Exit.then])
   refine bodyPost_ret (v:=entV ⟨ek,es,ec,ei,(x1,x2,x3)⟩ (.slice B1 es.length m1) (.slice B2 ec.length m2) (.slice B3 ei.length m3)) (by simp [results,Tryz.f62,go_sem,entV,r0,r1,r2,r3,r4,r5,r6]) rfl ?_;have hle:w.heap.size<=(⟨w.heap.size+1,0,none⟩:Addr).block:=by simp
   have hX:=zH (((((((hx.set (p:=⟨w.heap.size+1,0,none⟩) hle (.string { data:=List.toArray ek })).set (p:=⟨w.heap.size+1,1,none⟩) hle (.slice B1 es.length m1)).set (p:=⟨w.heap.size+1,2,none⟩) hle (.slice B2 ec.length m2)).set (p:=⟨w.heap.size+1,3,none⟩) hle (.slice B3 ei.length m3)).set
    (p:=⟨w.heap.size+1,4,none⟩) hle (.int .u64 x1)).set (p:=⟨w.heap.size+1,5,none⟩) hle (.string { data:=List.toArray x2 })).set (p:=⟨w.heap.size+1,6,none⟩) hle (.bool x3))
   refine ⟨_,_,_,rfl,?_,hX.out⟩
   have hs:∀ b,b ≠ w.heap.size+1->(((((((wr.setCell ⟨w.heap.size+1,0,none⟩ (.string { data:=List.toArray ek })).setCell ⟨w.heap.size+1,1,none⟩ (.slice B1 es.length m1)).setCell ⟨w.heap.size+1,2,none⟩ (.slice B2 ec.length m2)).setCell ⟨w.heap.size+1,3,none⟩ (.slice B3 ei.length m3)).setCell
    ⟨w.heap.size+1,4,none⟩ (.int .u64 x1)).setCell ⟨w.heap.size+1,5,none⟩ (.string { data:=List.toArray x2 })).setCell ⟨w.heap.size+1,6,none⟩ (.bool x3)).heap[b]? = wr.heap[b]?:=fun b hb =>
    ((((((Below.heap_setCell _ _ _ b hb).trans (Below.heap_setCell _ _ _ b hb)).trans (Below.heap_setCell _ _ _ b hb)).trans (Below.heap_setCell _ _ _ b hb)).trans (Below.heap_setCell _ _ _ b hb)).trans (Below.heap_setCell _ _ _ b hb)).trans (Below.heap_setCell _ _ _ b hb)
   exact⟨(ho1.keep fun b hb _=>hs b (by have:=(ho1.base_le hb).1;omega)).lower (by omega),(ho2.keep fun b hb _=>hs b (by have:=(ho2.base_le hb).1;omega)).lower (by omega),
    (((HD.out.keep (fun b hb _=>hs b (by omega)) (fun b hb _=>hs b (by have:=(HD.out.base_le hb).1;omega))).lower (by omega)).mono fun b _ hb=>by omega)⟩
end
section
open Go.RowKit Go.Shelf
abbrev put7 (w:World) (q:Nat) (e:Entry) (v1 v2 v3:Value):World :=
 ((((((w.setCell ⟨q,0,none⟩ (St e.key)).setCell ⟨q,1,none⟩ v1).setCell ⟨q,2,none⟩ v2).setCell ⟨q,3,none⟩ v3).setCell ⟨q,4,none⟩ (U e.cell.1)).setCell ⟨q,5,none⟩ (St e.cell.2.1)).setCell ⟨q,6,none⟩ (.bool e.cell.2.2)
theorem zjt {w wr:World} {q base:Nat} {e:Entry} {v1 v2 v3:Value} (hx:Ext w wr) (hq:w.heap.size<=q) (hn:EntNew wr base e v1 v2 v3) (hb:q < base):EntNew (put7 wr q e v1 v2 v3) w.heap.size e v1 v2 v3/\Ext w (put7 wr q e v1 v2 v3):=by
 have hle:w.heap.size<=(⟨q,0,none⟩:Addr).block:=hq
 have hs:∀ b,b ≠ q->(put7 wr q e v1 v2 v3).heap[b]? = wr.heap[b]?:=fun b hb=>((((((Below.heap_setCell _ _ _ b hb).trans (Below.heap_setCell _ _ _ b hb)).trans (Below.heap_setCell _ _ _ b hb)).trans (Below.heap_setCell _ _ _ b hb)).trans (Below.heap_setCell _ _ _ b hb)).trans (Below.heap_setCell _ _ _ b hb)).trans (Below.heap_setCell _ _ _ b hb)
 obtain⟨h1,h2,h3⟩:=hn
 refine ⟨⟨(h1.keep fun b hb _=>hs b (by have:=(h1.base_le hb).1;omega)).lower (by omega),(h2.keep fun b hb _=>hs b (by have:=(h2.base_le hb).1;omega)).lower (by omega),
  (((h3.keep (fun b hb _=>hs b (by omega)) (fun b hb _=>hs b (by have:=(h3.base_le hb).1;omega))).lower (by omega)).mono fun b _ hb=>by omega)⟩,?_⟩
 exact ((((((hx.set (p:=⟨q,0,none⟩) hq _).set (p:=⟨q,1,none⟩) hq _).set (p:=⟨q,2,none⟩) hq _).set (p:=⟨q,3,none⟩) hq _).set (p:=⟨q,4,none⟩) hq _).set (p:=⟨q,5,none⟩) hq _).set (p:=⟨q,6,none⟩) hq _
structure SmallE (e:Entry):Prop where
 seen:e.seen.length<=549755813888
 counts:e.counts.length<=549755813888
 items:e.items.length<=549755813888
 dots:∀ it ∈ e.items,it.2.length<=549755813888
 places:(zac e.items).length<=549755813888
def zav (a b:Entry):Entry:=if za8 a zai then b else if a.key=b.key then ⟨a.key,zat a.seen b.seen,zbl a.counts b.counts,zb9 a.items a.seen b.items b.seen,zdd a.cell b.cell⟩ else a
theorem zin {S1 S2:Nat->Prop} {a b:Entry} {a1 a2 a3 b1 b2 b3:Value} {w:World} (ha:EntAt w S1 a a1 a2 a3) (hb:EntAt w S2 b b1 b2 b3) (sa:SmallE a) (sb:SmallE b) :
  Calls Tryz.prog 54 #[entV a a1 a2 a3,entV b b1 b2 b3] w fun r w'=>∃ u1 u2 u3,r=.returned (entV (zav a b) u1 u2 u3)/\EntNew w' w.heap.size (zav a b) u1 u2 u3/\Ext w w':=by
 have HJ:=zH (show zav a b=if za8 a zai then b else if a.key=b.key then ⟨a.key,zat a.seen b.seen,zbl a.counts b.counts,zb9 a.items a.seen b.items b.seen,zdd a.cell b.cell⟩ else a from rfl);generalize zav a b=J at *;obtain⟨sa1,sa2,sa3,sa4,sa5⟩:=sa;obtain⟨sb1,sb2,sb3,sb4,sb5⟩:=sb;obtain⟨k,aS,ac,ai,p1,p2,p3⟩:=a;obtain⟨kb,bs,bc,bi,q1,q2,q3⟩:=b;obtain⟨A1,n1,rfl,-,-⟩:=ha.seen.form;obtain⟨A2,n2,rfl,-,-⟩:=ha.counts.form;obtain⟨A3,n3,rfl,-,-⟩:=ha.items.form;obtain⟨B1,m1,rfl,-,-⟩:=hb.seen.form;obtain⟨B2,m2,rfl,-,-⟩:=hb.counts.form;obtain⟨B3,m3,rfl,-,-⟩:=hb.items.form;simp only at sa1 sa2 sa3 sa4 sa5 sb1 sb2 sb3 sb4 sb5;have hx0:=(((Ext.refl w).alloc (.cells #[St k,.slice A1 aS.length n1,.slice A2 ac.length n2,.slice A3 ai.length n3,U p1,St p2,.bool p3] 37)).alloc (.cells #[St kb,.slice B1 bs.length m1,.slice B2 bc.length m2,.slice B3 bi.length m3,U q1,St q2,.bool q3] 37)).alloc (.cells #[St [],.slice none 0 0,.slice none 0 0,.slice none 0 0,.int .u64 0,St [],.bool false] 37);have rA:=((zah w 37 [St k,.slice A1 aS.length n1,.slice A2 ac.length n2,.slice A3 ai.length n3,U p1,St p2,.bool p3]).alloc (.cells #[St kb,.slice B1 bs.length m1,.slice B2 bc.length m2,.slice B3 bi.length m3,U q1,St q2,.bool q3] 37)).alloc (.cells #[St [],.slice none 0 0,.slice none 0 0,.slice none 0 0,.int .u64 0,St [],.bool false] 37);have rB:=(zah (w.alloc (.cells #[St k,.slice A1 aS.length n1,.slice A2 ac.length n2,.slice A3 ai.length n3,U p1,St p2,.bool p3] 37)) 37 [St kb,.slice B1 bs.length m1,.slice B2 bc.length m2,.slice B3 bi.length m3,U q1,St q2,.bool q3]).alloc (.cells #[St [],.slice none 0 0,.slice none 0 0,.slice none 0 0,.int .u64 0,St [],.bool false] 37);have rR:=zah ((w.alloc (.cells #[St k,.slice A1 aS.length n1,.slice A2 ac.length n2,.slice A3 ai.length n3,U p1,St p2,.bool p3] 37)).alloc (.cells #[St kb,.slice B1 bs.length m1,.slice B2 bc.length m2,.slice B3 bi.length m3,U q1,St q2,.bool q3] 37)) 37 [St [],.slice none 0 0,.slice none 0 0,.slice none 0 0,.int .u64 0,St [],.bool false];rw [World.size_alloc] at rB;rw [World.size_alloc,World.size_alloc] at rR;have hz:w.heap.size+3<=(((w.alloc (.cells #[St k,.slice A1 aS.length n1,.slice A2 ac.length n2,.slice A3 ai.length n3,U p1,St p2,.bool p3] 37)).alloc (.cells #[St kb,.slice B1 bs.length m1,.slice B2 bc.length m2,.slice B3 bi.length m3,U q1,St q2,.bool q3] 37)).alloc (.cells #[St [],.slice none 0 0,.slice none 0 0,.slice none 0 0,.int .u64 0,St [],.bool false] 37)).heap.size:=by simp
 have HA:=zH ha;have HB:=zH hb;clear ha hb;obtain⟨k0,k1,k2,k3,k4,k5,k6⟩:=rA.p7;obtain⟨j0,j1,j2,j3,j4,j5,j6⟩:=rB.p7;go_enter Tryz.func54,Tryz.ntmps54;go_wp2_with fail;generalize hW0:((w.alloc (.cells #[St k,.slice A1 aS.length n1,.slice A2 ac.length n2,.slice A3 ai.length n3,U p1,St p2,.bool p3] 37)).alloc (.cells #[St kb,.slice B1 bs.length m1,.slice B2 bc.length m2,.slice B3 bi.length m3,U q1,St q2,.bool q3] 37)).alloc (.cells #[St [],.slice none 0 0,.slice none 0 0,.slice none 0 0,.int .u64 0,St [],.bool false] 37)=W0 at *;clear hW0;have HN:=zH (zo4 (HA.out.ext hx0));refine HN.out.mono ?_;rintro r W1 ⟨rfl,hx1⟩;have hx01:=hx0.trans hx1;have rA1:=rA.ext hx1;have rB1:=rB.ext hx1;have rR1:=rR.ext hx1;have hz1:=Nat.le_trans hz hx1.size;clear rA rB rR hx0 hz k0 k1 k2 k3 k4 k5 k6 j0 j1 j2 j3 j4 j5 j6;obtain⟨k0,k1,k2,k3,k4,k5,k6⟩:=rA1.p7;obtain⟨j0,j1,j2,j3,j4,j5,j6⟩:=rB1.p7;cases hn:za8 ⟨k,aS,ac,ai,(p1,p2,p3)⟩ zai
 case true =>
  obtain rfl:J=⟨kb,bs,bc,bi,(q1,q2,q3)⟩:=by rw [HJ.out,hn];rfl
  clear HJ hn;have HC:=zH (zfu (HB.out.ext hx01) (by simp only;omega) (by simp only;omega) (by simp only;omega) (fun it hit=>Nat.le_trans (sb4 it hit) (by omega)));go_wp2_with fail;refine HC.out.mono ?_;rintro r W2 ⟨u1,u2,u3,rfl,hu,hx2⟩;obtain⟨C1,c1,rfl,-,-⟩:=hu.seen.form;obtain⟨C2,c2,rfl,-,-⟩:=hu.counts.form;obtain⟨C3,c3,rfl,-,-⟩:=hu.items.form;have hr2:=rR1.ext hx2;obtain⟨r0,r1,r2,r3,r4,r5,r6⟩:=hr2.p7;obtain⟨f0,f1,f2,f3,f4,f5,f6⟩:=hr2.q7;have HU:=zH hu;have HX:=zH (hx01.trans hx2);clear hu;go_wp2_with fail
  (try simp only [Exit.inBlock,Exit.then])
  refine bodyPost_ret (v:=entV ⟨kb,bs,bc,bi,(q1,q2,q3)⟩ (.slice C1 bs.length c1) (.slice C2 bc.length c2) (.slice C3 bi.length c3)) (by simp [results,Tryz.f54,go_sem,entV,r0,r1,r2,r3,r4,r5,r6]) rfl ?_;have hp:=zjt (q:=w.heap.size+1+1) HX.out (by omega) HU.out (by omega);refine ⟨.slice C1 bs.length c1,.slice C2 bc.length c2,.slice C3 bi.length c3,rfl,?_⟩;exact hp
 case false =>
  by_cases hk:k=kb
  ·subst hk;obtain rfl:J=⟨k,zat aS bs,zbl ac bc,zb9 ai aS bi bs,zdd (p1,p2,p3) (q1,q2,q3)⟩:=by rw [HJ.out,hn];simp
   clear HJ hn HN;have HsA:Hid (Sl markT W1 S1 (.slice A1 aS.length n1) aS):=zH (HA.out.seen.ext (by decide) hx01);have HcA:Hid (Sl zbh W1 S1 (.slice A2 ac.length n2) ac):=zH (HA.out.counts.ext (by decide) hx01);have HiA:Hid (Sl itemT W1 S1 (.slice A3 ai.length n3) ai):=zH (HA.out.items.ext (by decide) hx01);have HsB:Hid (Sl markT W1 S2 (.slice B1 bs.length m1) bs):=zH (HB.out.seen.ext (by decide) hx01);have HcB:Hid (Sl zbh W1 S2 (.slice B2 bc.length m2) bc):=zH (HB.out.counts.ext (by decide) hx01);have HiB:Hid (Sl itemT W1 S2 (.slice B3 bi.length m3) bi):=zH (HB.out.items.ext (by decide) hx01);go_wp2_with fail
   refine zaq [fun v _=>v=.pointer (some ⟨w.heap.size,0,none⟩),
    fun v _=>v=St k,
    fun v _=>v=.pointer (some ⟨w.heap.size,1,none⟩),
    fun v _=>v=.slice A1 aS.length n1,
    fun v _=>v=.pointer (some ⟨(w.heap.size+1),1,none⟩),
    fun v _=>v=.slice B1 bs.length m1,
    fun v W=>Own W W1.heap.size 25 2 v (zat aS bs).length ((zat aS bs).flatMap zag),
    fun v _=>v=.pointer (some ⟨w.heap.size,2,none⟩),
    fun v _=>v=.slice A2 ac.length n2,
    fun v _=>v=.pointer (some ⟨(w.heap.size+1),2,none⟩),
    fun v _=>v=.slice B2 bc.length m2,
    fun v W=>Own W W1.heap.size 93 3 v (zbl ac bc).length ((zbl ac bc).flatMap za6),
    fun v _=>v=.pointer (some ⟨w.heap.size,3,none⟩),
    fun v _=>v=.slice A3 ai.length n3,
    fun v _=>v=.pointer (some ⟨w.heap.size,1,none⟩),
    fun v _=>v=.slice A1 aS.length n1,
    fun v _=>v=.pointer (some ⟨(w.heap.size+1),3,none⟩),
    fun v _=>v=.slice B3 bi.length m3,
    fun v _=>v=.pointer (some ⟨(w.heap.size+1),1,none⟩),
    fun v _=>v=.slice B1 bs.length m1,
    fun v W=>OwnL itemT 96 W W1.heap.size (fun b=>W1.heap.size<=b) v (zb9 ai aS bi bs),
    fun v _=>v=.pointer (some ⟨w.heap.size,4,none⟩),
    fun v _=>v=zbe (p1,p2,p3),
    fun v _=>v=.pointer (some ⟨(w.heap.size+1),4,none⟩),
    fun v _=>v=zbe (q1,q2,q3),
    fun v _=>v=zbe (zdd (p1,p2,p3) (q1,q2,q3))] rfl (by kernel_rfl) ?hR ?hstep ?hend
   case hR=>simp only [List.mem_cons,List.not_mem_nil,or_false,forall_eq_or_imp,forall_eq];exact⟨kP,kP,kP,kP,kP,kP,fun v _ _ h he=>h.ext he,kP,kP,kP,kP,fun v _ _ h he=>h.ext he,kP,kP,kP,kP,kP,kP,kP,kP,fun v _ _ h he=>h.ext he,kP,kP,kP,kP,kP⟩
   case hstep =>
    simp only [List.length_cons,List.length_nil,Nat.reduceAdd,List.take_succ_cons,List.take_zero,zbf,and_true];refine ⟨?_,?_,?_,?_,?_,?_,?_,?_,?_,?_,?_,?_,?_,?_,?_,?_,?_,?_,?_,?_,?_,?_,?_,?_,?_,?_⟩
    ·intro x W he f;have h:x 2=.pointer (some ⟨w.heap.size,0,none⟩):=f.1;go_wp;exact sQ
    ·intro x W he f;have h:x 16=.pointer (some ⟨w.heap.size,0,none⟩):=f.1;have hc0:=(rA1.ext he).cell (j:=0) rfl;go_wp;exact sQ
    ·intro x W he f;have h:x 2=.pointer (some ⟨w.heap.size,0,none⟩):=f.1;go_wp;exact sQ
    ·intro x W he f;have h:x 18=.pointer (some ⟨w.heap.size,1,none⟩):=f.1;have hc1:=(rA1.ext he).cell (j:=1) rfl;go_wp;exact sQ
    ·intro x W he f;have h:x 3=.pointer (some ⟨(w.heap.size+1),0,none⟩):=f.1;go_wp;exact sQ
    ·intro x W he f;have h:x 20=.pointer (some ⟨(w.heap.size+1),1,none⟩):=f.1;have hc1:=(rB1.ext he).cell (j:=1) rfl;go_wp;exact sQ
    ·intro x W he f;have h19:x 19=.slice A1 aS.length n1:=f.1;have h21:x 21=.slice B1 bs.length m1:=f.2.1;have hs:=he.size;have HC:=zH (zhx (HsA.out.ext (by decide) he) (HsB.out.ext (by decide) he) (by omega) (by omega));go_wp;refine HC.out.mono ?_;rintro r W2 ⟨v,rfl,hv,hx2⟩;dsimp only;go_wp;refine zaa (v:=v) ?_ hx2;exact hv.lower hs
    ·intro x W he f;have h:x 2=.pointer (some ⟨w.heap.size,0,none⟩):=f.1;go_wp;exact sQ
    ·intro x W he f;have h:x 23=.pointer (some ⟨w.heap.size,2,none⟩):=f.1;have hc2:=(rA1.ext he).cell (j:=2) rfl;go_wp;exact sQ
    ·intro x W he f;have h:x 3=.pointer (some ⟨(w.heap.size+1),0,none⟩):=f.1;go_wp;exact sQ
    ·intro x W he f;have h:x 25=.pointer (some ⟨(w.heap.size+1),2,none⟩):=f.1;have hc2:=(rB1.ext he).cell (j:=2) rfl;go_wp;exact sQ
    ·intro x W he f;have h24:x 24=.slice A2 ac.length n2:=f.1;have h26:x 26=.slice B2 bc.length m2:=f.2.1;have hs:=he.size;have HC:=zH (zv6 (HcA.out.ext (by decide) he) (HcB.out.ext (by decide) he) (by omega));go_wp;refine HC.out.mono ?_;rintro r W2 ⟨v,rfl,hv,hx2⟩;dsimp only;go_wp;refine zaa (v:=v) ?_ hx2;exact hv.lower hs
    ·intro x W he f;have h:x 2=.pointer (some ⟨w.heap.size,0,none⟩):=f.1;go_wp;exact sQ
    ·intro x W he f;have h:x 28=.pointer (some ⟨w.heap.size,3,none⟩):=f.1;have hc3:=(rA1.ext he).cell (j:=3) rfl;go_wp;exact sQ
    ·intro x W he f;have h:x 2=.pointer (some ⟨w.heap.size,0,none⟩):=f.1;go_wp;exact sQ
    ·intro x W he f;have h:x 30=.pointer (some ⟨w.heap.size,1,none⟩):=f.1;have hc1:=(rA1.ext he).cell (j:=1) rfl;go_wp;exact sQ
    ·intro x W he f;have h:x 3=.pointer (some ⟨(w.heap.size+1),0,none⟩):=f.1;go_wp;exact sQ
    ·intro x W he f;have h:x 32=.pointer (some ⟨(w.heap.size+1),3,none⟩):=f.1;have hc3:=(rB1.ext he).cell (j:=3) rfl;go_wp;exact sQ
    ·intro x W he f;have h:x 3=.pointer (some ⟨(w.heap.size+1),0,none⟩):=f.1;go_wp;exact sQ
    ·intro x W he f;have h:x 34=.pointer (some ⟨(w.heap.size+1),1,none⟩):=f.1;have hc1:=(rB1.ext he).cell (j:=1) rfl;go_wp;exact sQ
    ·intro x W he f;have h29:x 29=.slice A3 ai.length n3:=f.1;have h31:x 31=.slice A1 aS.length n1:=f.2.1;have h33:x 33=.slice B3 bi.length m3:=f.2.2.1;have h35:x 35=.slice B1 bs.length m1:=f.2.2.2.1;have hs:=he.size;have HC:=zH (zv0 (HiA.out.ext (by decide) he) (HsA.out.ext (by decide) he) (HiB.out.ext (by decide) he) (HsB.out.ext (by decide) he) (by omega) (by omega) (by omega));go_wp;refine HC.out.mono ?_;rintro r W2 ⟨v,rfl,hv,hx2⟩;dsimp only;go_wp;refine zaa (v:=v) ?_ hx2;exact (hv.lower hs).mono fun b _ h=>Nat.le_trans hs h
    ·intro x W he f;have h:x 2=.pointer (some ⟨w.heap.size,0,none⟩):=f.1;go_wp;exact sQ
    ·intro x W he f;have h:x 37=.pointer (some ⟨w.heap.size,4,none⟩):=f.1;have hc4:=(rA1.ext he).cell (j:=4) rfl;have hc5:=(rA1.ext he).cell (j:=5) rfl;have hc6:=(rA1.ext he).cell (j:=6) rfl;go_wp;exact sQ
    ·intro x W he f;have h:x 3=.pointer (some ⟨(w.heap.size+1),0,none⟩):=f.1;go_wp;exact sQ
    ·intro x W he f;have h:x 39=.pointer (some ⟨(w.heap.size+1),4,none⟩):=f.1;have hc4:=(rB1.ext he).cell (j:=4) rfl;have hc5:=(rB1.ext he).cell (j:=5) rfl;have hc6:=(rB1.ext he).cell (j:=6) rfl;go_wp;exact sQ
    ·intro x W he f;have h38:x 38=zbe (p1,p2,p3):=f.1;have h40:x 40=zbe (q1,q2,q3):=f.2.1;have hs:=he.size;have HC:=zH (zwf (p1,p2,p3) (q1,q2,q3) W);go_wp;refine HC.out.mono ?_;rintro r W2 ⟨rfl,hx2⟩;dsimp only;go_wp;exact zaa rfl hx2
   case hend =>
    intro x W he f;obtain⟨-,h17,-,-,-,-,h22,-,-,-,-,h27,-,-,-,-,-,-,-,-,h36,-,-,-,-,h41,-⟩:(x 16)=.pointer (some ⟨w.heap.size,0,none⟩)/\(x 17)=St k/\(x 18)=.pointer (some ⟨w.heap.size,1,none⟩)/\(x 19)=.slice A1 aS.length n1/\(x 20)=.pointer (some ⟨(w.heap.size+1),1,none⟩)/\(x 21)=.slice B1 bs.length m1/\Own W W1.heap.size 25 2 (x 22) (zat aS bs).length ((zat aS bs).flatMap zag)/\(x 23)=.pointer (some ⟨w.heap.size,2,none⟩)/\(x 24)=.slice A2 ac.length n2/\(x 25)=.pointer (some ⟨(w.heap.size+1),2,none⟩)/\(x 26)=.slice B2 bc.length m2/\Own W W1.heap.size 93 3 (x 27) (zbl ac bc).length ((zbl ac bc).flatMap za6)/\(x 28)=.pointer (some ⟨w.heap.size,3,none⟩)/\(x 29)=.slice A3 ai.length n3/\(x 30)=.pointer (some ⟨w.heap.size,1,none⟩)/\(x 31)=.slice A1 aS.length n1/\(x 32)=.pointer (some ⟨(w.heap.size+1),3,none⟩)/\(x 33)=.slice B3 bi.length m3/\(x 34)=.pointer (some ⟨(w.heap.size+1),1,none⟩)/\(x 35)=.slice B1 bs.length m1/\OwnL itemT 96 W W1.heap.size (fun b=>W1.heap.size<=b) (x 36) (zb9 ai aS bi bs)/\(x 37)=.pointer (some ⟨w.heap.size,4,none⟩)/\(x 38)=zbe (p1,p2,p3)/\(x 39)=.pointer (some ⟨(w.heap.size+1),4,none⟩)/\(x 40)=zbe (q1,q2,q3)/\(x 41)=zbe (zdd (p1,p2,p3) (q1,q2,q3))/\True:=f;simp only [List.length_cons,List.length_nil,Nat.reduceAdd,List.take_succ_cons,List.take_zero,List.filterMap_cons,List.filterMap_nil,List.drop_succ_cons,List.drop_zero,zaw,Act.put,List.setIfInBounds_toArray,List.set_cons_succ,List.set_cons_zero,h17,h41];obtain⟨C1,c1,e1,-,-⟩:=h22.form;obtain⟨C2,c2,e2,-,-⟩:=h27.form;obtain⟨C3,c3,e3,-,-⟩:=h36.form;have hrW:=rR1.ext he;have r0:=hrW.cell (j:=0) rfl;have f0:=hrW.frozen 0;have r1:=hrW.cell (j:=1) rfl;have f1:=hrW.frozen 1;have r2:=hrW.cell (j:=2) rfl;have f2:=hrW.frozen 2;have r3:=hrW.cell (j:=3) rfl;have f3:=hrW.frozen 3;have r4:=hrW.cell (j:=4) rfl;have f4:=hrW.frozen 4;have r5:=hrW.cell (j:=5) rfl;have f5:=hrW.frozen 5;have r6:=hrW.cell (j:=6) rfl;have f6:=hrW.frozen 6;have HU:=zH (EntNew.mk (e:=⟨k,zat aS bs,zbl ac bc,zb9 ai aS bi bs,zdd (p1,p2,p3) (q1,q2,q3)⟩) h22 h27 h36);simp only [e1,e2,e3] at HU ⊢;clear h22 h27 h36;have HX:=zH (hx01.trans he);go_wp2_with fail
    (try simp only [Exit.inBlock,Exit.then])
    refine bodyPost_ret (v:=entV ⟨k,zat aS bs,zbl ac bc,zb9 ai aS bi bs,zdd (p1,p2,p3) (q1,q2,q3)⟩ (.slice C1 (zat aS bs).length c1) (.slice C2 (zbl ac bc).length c2) (.slice C3 (zb9 ai aS bi bs).length c3)) (by simp [results,Tryz.f54,go_sem,entV,r0,r1,r2,r3,r4,r5,r6]) rfl ?_;have hp:=zjt (q:=w.heap.size+1+1) HX.out (by omega) HU.out (by omega);refine ⟨.slice C1 (zat aS bs).length c1,.slice C2 (zbl ac bc).length c2,.slice C3 (zb9 ai aS bi bs).length c3,rfl,?_⟩;exact hp
  ·have hkb:(k == kb)=false:=(by simp [hk]);obtain rfl:J=⟨k,aS,ac,ai,(p1,p2,p3)⟩:=by rw [HJ.out,hn];simp [hk]
   clear HJ hn;have HC:=zH (zfu (HA.out.ext hx01) (by simp only;omega) (by simp only;omega) (by simp only;omega) (fun it hit=>Nat.le_trans (sa4 it hit) (by omega)));go_wp2_with fail;refine HC.out.mono ?_;rintro r W2 ⟨u1,u2,u3,rfl,hu,hx2⟩;obtain⟨C1,c1,rfl,-,-⟩:=hu.seen.form;obtain⟨C2,c2,rfl,-,-⟩:=hu.counts.form;obtain⟨C3,c3,rfl,-,-⟩:=hu.items.form;have hr2:=rR1.ext hx2;obtain⟨r0,r1,r2,r3,r4,r5,r6⟩:=hr2.p7;obtain⟨f0,f1,f2,f3,f4,f5,f6⟩:=hr2.q7;have HU:=zH hu;have HX:=zH (hx01.trans hx2);clear hu;go_wp2_with fail
   (try simp only [Exit.inBlock,Exit.then])
   refine bodyPost_ret (v:=entV ⟨k,aS,ac,ai,(p1,p2,p3)⟩ (.slice C1 aS.length c1) (.slice C2 ac.length c2) (.slice C3 ai.length c3)) (by simp [results,Tryz.f54,go_sem,entV,r0,r1,r2,r3,r4,r5,r6]) rfl ?_;have hp:=zjt (q:=w.heap.size+1+1) HX.out (by omega) HU.out (by omega);refine ⟨.slice C1 aS.length c1,.slice C2 ac.length c2,.slice C3 ai.length c3,rfl,?_⟩;exact hp
end
section
open Go.RowKit Go.Shelf
def zau (l:List Entry) (k:Str):Option Entry:=l.find? fun e=>decide (e.key=k)
theorem zgx:∀ (l:List Entry) (k:Str),match l.findIdx? (fun e=>decide (e.key=k)) with
  | none=>zau l k=none
  | some j=>∃ pre m post,l=pre++m :: post/\pre.length=j/\m.key=k/\zau l k=some m
 | [],k=>rfl
 | e :: r,k=>by
  by_cases h:e.key=k
  ·simp only [List.findIdx?_cons,decide_eq_true h,if_true];exact⟨[],e,r,rfl,rfl,h,by simp [zau,h]⟩
  ·have ih:=zgx r k;simp only [List.findIdx?_cons,decide_eq_false h,Bool.false_eq_true,if_false]
   cases hf:r.findIdx? (fun e=>decide (e.key=k)) with
   | none=>rw [hf] at ih;simp only [Option.map_none];rw [zau,List.find?_cons_of_neg (by simp [h])];exact ih
   | some j=>rw [hf] at ih;obtain⟨pre,m,post,e1,e2,e3,e4⟩:=ih;simp only [Option.map_some];refine ⟨e :: pre,m,post,by rw [e1];rfl,by simp [e2],e3,?_⟩;rw [zau,List.find?_cons_of_neg (by simp [h])];exact e4
theorem zb4 {w wr:World} {q:Nat} (hx:Ext w wr) (hq:w.heap.size<=q) (e:Entry) (v1 v2 v3:Value):Ext w (put7 wr q e v1 v2 v3) :=
 ((((((hx.set (p:=⟨q,0,none⟩) hq _).set (p:=⟨q,1,none⟩) hq _).set (p:=⟨q,2,none⟩) hq _).set (p:=⟨q,3,none⟩) hq _).set (p:=⟨q,4,none⟩) hq _).set (p:=⟨q,5,none⟩) hq _).set (p:=⟨q,6,none⟩) hq _
theorem EntAt.none (w:World) (S:Nat->Prop) (A B C:Option Addr):EntAt w S zai (.slice A 0 0) (.slice B 0 0) (.slice C 0 0):=⟨Sl.nil _ _ (by decide),Sl.nil _ _ (by decide),Sl.nil _ _ (by decide)⟩
theorem zms {S:Nat->Prop} {v:Value} {l:List Entry} {w:World} (k:Str) (hv:Sl entryT w S v l) :
  Calls Tryz.prog 41 #[v,St k] w fun r w'=>∃ v1 v2 v3,r=.returned (.tuple #[entV ((zau l k).getD zai) v1 v2 v3,.bool (zau l k).isSome])/\EntAt w' S ((zau l k).getD zai) v1 v2 v3/\Ext w w':=by
 have hx0:=(Ext.refl w).alloc (.cells #[St [],.slice none 0 0,.slice none 0 0,.slice none 0 0,.int .u64 0,St [],.bool false] 37);have hr0:=zah w 37 [St [],.slice none 0 0,.slice none 0 0,.slice none 0 0,.int .u64 0,St [],.bool false];have HP:=zH (zjs (hv.ext (by decide) hx0));have hv':=hv;obtain⟨A,c,rfl,hc1,hc2⟩:=hv.form;have HAT:=zH (fun (pre post:List Entry) (m:Entry) (wr:World) (h:Ext w wr) (hl:l=pre++m :: post)=>zbq hv' h hl);clear hv hv';go_enter Tryz.func41,Tryz.ntmps41;go_wp2_with fail;generalize hW0:w.alloc (.cells #[St [],.slice none 0 0,.slice none 0 0,.slice none 0 0,.int .u64 0,St [],.bool false] 37)=W0 at *;clear hW0;refine HP.out.mono ?_;rintro r W1 ⟨m,rfl,hm1,hM,hx1⟩;have hlk:=(zbc (P:=Tryz.prog) (z:=0) Tryz.underlying112 zd6 zlh hM k).2;have hpl:=zga l 0 [] k;have hsp:=zgx l k;have hx01:=hx0.trans hx1;have hr1:=hr0.ext hx1;rw [zft,show ∀ L:List (Str × Int),getL 0 L k=(zcr L k).getD 0 from fun _=>rfl,hpl] at hlk;simp only [show zcr ([]:List (Str × Int)) k=none from rfl,Nat.zero_add] at hlk;clear hM hpl HP hx0 hr0 hx1
 cases hf:l.findIdx? (fun e=>decide (e.key=k)) with
 | none =>
  rw [hf] at hlk hsp;simp only at hsp;simp only [Option.map_none,Option.getD_none,Option.isSome_none] at hlk;obtain⟨f0,f1,f2,f3,f4,f5,f6⟩:=hr1.q7;obtain⟨r0,r1,r2,r3,r4,r5,r6⟩:=hr1.p7;have HX:=zH hx01;have HF:=zH hsp;clear hsp hf hx01 hr1 HAT;go_wp2_with fail
  (try simp only [Exit.inBlock,Exit.then])
  refine bodyPost_ret (v:=.tuple #[entV zai (.slice none 0 0) (.slice none 0 0) (.slice none 0 0),.bool false]) (by simp [results,Tryz.f41,go_sem,entV,entC,zai,r0,r1,r2,r3,r4,r5,r6]) rfl ?_;have hp:=zb4 (q:=w.heap.size) HX.out (Nat.le_refl _) zai (.slice none 0 0) (.slice none 0 0) (.slice none 0 0);have hq:=EntAt.none (put7 W1 w.heap.size zai (.slice none 0 0) (.slice none 0 0) (.slice none 0 0)) S none none none;refine ⟨.slice none 0 0,.slice none 0 0,.slice none 0 0,by rw [HF.out];rfl,?_⟩;rw [HF.out];exact⟨hq,hp⟩
 | some j =>
  rw [hf] at hlk hsp;obtain⟨pre,m,post,hl,hj,hk,hfe⟩:=hsp;simp only [Option.map_some,Option.getD_some,Option.isSome_some] at hlk;obtain⟨b,o,v1,v2,v3,rfl,e0,e1,e2,e3,e4,e5,e6,hEA⟩:=HAT.out pre post m W1 hx01 hl;obtain⟨A1,n1,rfl,-,-⟩:=hEA.seen.form;obtain⟨A2,n2,rfl,-,-⟩:=hEA.counts.form;obtain⟨A3,n3,rfl,-,-⟩:=hEA.items.form;have hlt:pre.length < l.length:=by rw [hl];simp
  subst hj;have HEA:=zH hEA;obtain⟨f0,f1,f2,f3,f4,f5,f6⟩:=hr1.q7;obtain⟨r0,r1,r2,r3,r4,r5,r6⟩:=hr1.p7;have HX:=zH hx01;have HF:=zH hfe;clear hf hx01 hr1 hl hEA HAT hfe hk;go_wp2_with fail
  (try simp only [Exit.inBlock,Exit.then])
  refine bodyPost_ret (v:=.tuple #[entV m (.slice A1 m.seen.length n1) (.slice A2 m.counts.length n2) (.slice A3 m.items.length n3),.bool true]) (by simp [results,Tryz.f41,go_sem,entV,entC,r0,r1,r2,r3,r4,r5,r6]) rfl ?_;have hp:=zb4 (q:=w.heap.size) HX.out (Nat.le_refl _) m (.slice A1 m.seen.length n1) (.slice A2 m.counts.length n2) (.slice A3 m.items.length n3);have hq:=HEA.out.ext hp;refine ⟨.slice A1 m.seen.length n1,.slice A2 m.counts.length n2,.slice A3 m.items.length n3,by rw [HF.out];rfl,?_⟩;rw [HF.out];exact⟨hq,hp⟩
end
section
open Go.RowKit Go.Shelf
def zck:List Entry->List Entry->Bool
 | [],[]=>true
 | a :: r,b :: s=>za8 a b && zck r s
 | _,_=>false
theorem sameEs_iff:∀ {a b:List Entry},zck a b=true↔a=b
 | [],[]=>by simp [zck]
 | [],_ :: _=>by simp [zck]
 | _ :: _,[]=>by simp [zck]
 | a :: r,b :: s=>by simp [zck,sameE_iff,sameEs_iff]
theorem zni {a b:List Entry} (h:a.length ≠ b.length):zck a b=false:=by
 cases hs:zck a b with
 | false=>rfl
 | true=>exact absurd (congrArg List.length (sameEs_iff.1 hs)) h
theorem zl7 (pre:List Entry) (a b:List Entry):zck (pre++a) (pre++b)=zck a b:=by
 induction pre with
 | nil=>rfl
 | cons x r ih=>simp [zck,ih,sameE_iff.2 (rfl:x=x)]
theorem zpw {S S':Nat->Prop} {va vb:Value} {A B:List Entry} {w:World} (ha:Sl entryT w S va A) (hb:Sl entryT w S' vb B) :
  Calls Tryz.prog 101 #[va,vb,.func (.func 102) #[] #[]] w fun e w'=>e=.returned (.bool (zck A B))/\Ext w w':=by
 have ha':=ha;have hb':=hb;obtain⟨Aa,ca,rfl,h1,h2⟩:=ha.form;obtain⟨Ab,cb,rfl,h3,h4⟩:=hb.form;have eg:∀ args w,(callFunc 102 args).run Tryz.prog w=.ok (.enter 102 args) w:=enters_of Tryz.func102 (by kernel_rfl) rfl;clear ha hb
 by_cases hlen:A.length=B.length
 ·have HE:=zH hlen;have k0:((A.length:Int) != (B.length:Int))=false:=by simp [hlen]
  have k1:(A.length != B.length)=false:=by simp [hlen]
  have k2:((A.length:Int) == (B.length:Int))=true:=by simp [hlen]
  have HAT:=zH (fun (pre post:List Entry) (m:Entry) (wr:World) (h:Ext w wr) (hl:A=pre++m :: post)=>zbq ha' h hl);have HBT:=zH (fun (pre post:List Entry) (m:Entry) (wr:World) (h:Ext w wr) (hl:B=pre++m :: post)=>zbq hb' h hl);have hlb:A.length<=B.length:=by omega
  have HS1:=zH (fun (S S':Nat->Prop) (a b:Entry) (a1 a2 a3 b1 b2 b3:Value) (W:World)=>@zo3 S S' a b a1 a2 a3 b1 b2 b3 W);clear hlen ha' hb';go_enter Tryz.func101,Tryz.ntmps101;go_wp2_with fail;clear k0 k1 k2
  go_loopw [17] (fun i wr=>∃ pre pa pb,A=pre++pa/\B=pre++pb/\i=I pre.length/\Ext w wr) (fun i _=>A.length - (intOf i).toNat)
  case atStart=>exact⟨[],A,B,rfl,rfl,rfl,Ext.refl _⟩
  case round =>
   obtain⟨pre,pa,pb,hla,hlb2,rfl,hx⟩:=hrel;have hpp:pa.length=pb.length:=by have:=HE.out;rw [hla,hlb2] at this;simpa using this
   cases pa with
   | cons x pa =>
    cases pb with
    | nil=>simp at hpp
    | cons y pb =>
     obtain⟨b1,o1,a1,a2,a3,rfl,p0,p1,p2,p3,p4,p5,p6,hsx⟩:=HAT.out pre pa x wr hx hla;obtain⟨b2,o2,c1,c2,c3,rfl,q0,q1,q2,q3,q4,q5,q6,hsy⟩:=HBT.out pre pb y wr hx hlb2;have hlt:pre.length < A.length:=(by rw [hla];simp);have hltb:pre.length < B.length:=(by rw [hlb2];simp);have HLA:=zH hla;have HLB:=zH hlb2;have HX:=zH hx;have hxa:=(Ext.refl wr).alloc (.cells #[St x.key,a1,a2,a3,U x.cell.1,St x.cell.2.1,.bool x.cell.2.2] 37);have hxb:=hxa.alloc (.cells #[St y.key,c1,c2,c3,U y.cell.1,St y.cell.2.1,.bool y.cell.2.2] 37);have s0:=hxa.cell q0;have s1:=hxa.cell q1;have s2:=hxa.cell q2;have s3:=hxa.cell q3;have s4:=hxa.cell q4;have s5:=hxa.cell q5;have s6:=hxa.cell q6;have HC:=zH (HS1.out _ _ _ _ _ _ _ _ _ _ _ ((hsx.ext hx).ext hxb) ((hsy.ext hx).ext hxb));have HX0:=zH (hx.trans hxb);obtain⟨A1,n1,rfl,-,-⟩:=hsx.seen.form;obtain⟨A2,n2,rfl,-,-⟩:=hsx.counts.form;obtain⟨A3,n3,rfl,-,-⟩:=hsx.items.form;obtain⟨C1,m1,rfl,-,-⟩:=hsy.seen.form;obtain⟨C2,m2,rfl,-,-⟩:=hsy.counts.form;obtain⟨C3,m3,rfl,-,-⟩:=hsy.items.form;have HSM:=zH (show zck A B=(za8 x y && zck pa pb) by rw [hla,hlb2,zl7];rfl);have HIF:=zH (@sameE_iff x y);clear hla hlb2 hpp hx hsx hsy hxa hxb
     cases hxy:za8 x y with
     | true =>
      obtain rfl:=HIF.out.1 hxy;rw [hxy] at HC;go_wp2_with fail;refine HC.out.mono ?_;rintro e w2 ⟨rfl,hx2⟩;go_wp2_with fail;go_roundw
      case rel=>exact⟨pre++[x],pa,pb,by rw [HLA.out];simp,by rw [HLB.out];simp,by simp,HX0.out.trans hx2⟩
      case measure=>simp [intOf];omega
     | false=>rw [hxy] at HC HSM;go_wp2_with fail;refine HC.out.mono ?_;rintro e w2 ⟨rfl,hx2⟩;go_wp2_with fail;go_ret;exact⟨by rw [HSM.out];rfl,HX0.out.trans hx2⟩
   | nil=>have hb0:pb = []:=List.eq_nil_of_length_eq_zero (by simpa using hpp.symm);subst hb0;rw [List.append_nil] at hla hlb2;have hl:A.length=pre.length:=(by rw [hla]);have HF:=zH (show zck A B=true by rw [hla,hlb2];exact sameEs_iff.2 rfl);have HX:=zH hx;clear hla hlb2 hpp hx;go_wp2_with fail;go_ret;exact⟨by rw [HF.out];rfl,HX.out⟩
 ·have HF:=zH (zni hlen);have k0:((A.length:Int) != (B.length:Int))=true:=by simp;omega
  have k2:((A.length:Int) == (B.length:Int))=false:=by rw [beq_eq_false_iff_ne];omega
  clear ha' hb';go_enter Tryz.func101,Tryz.ntmps101;go_wp2_with fail;go_ret;exact⟨by rw [HF.out];rfl,Ext.refl _⟩
abbrev stV (v1 v2 v3:Value):Value:=.agg #[v1,v2,v3]
structure StAt (w:World) (S:Nat->Prop) (s:State) (v1 v2 v3:Value):Prop where
 all:Sl markT w S v1 s.all
 entries:Sl entryT w S v2 s.entries
 pruned:Sl strT w S v3 s.pruned
theorem StAt.ext {w w':World} {S:Nat->Prop} {s:State} {v1 v2 v3:Value} (h:StAt w S s v1 v2 v3) (he:Ext w w'):StAt w' S s v1 v2 v3 :=
 ⟨h.all.ext (by decide) he,h.entries.ext (by decide) he,h.pruned.ext (by decide) he⟩
theorem StAt.mono {w:World} {S S':Nat->Prop} {s:State} {v1 v2 v3:Value} (h:StAt w S s v1 v2 v3) (hs:∀ b,b < w.heap.size->S b->S' b):StAt w S' s v1 v2 v3 :=
 ⟨h.all.mono (by decide) hs,h.entries.mono (by decide) hs,h.pruned.mono (by decide) hs⟩
def zdb (a b:State):Bool:=decide (a.all=b.all) && (decide (a.pruned=b.pruned) && zck a.entries b.entries)
theorem sameSt_iff {a b:State}:zdb a b=true↔a=b:=by
 obtain⟨a1,a2,a3⟩:=a;obtain⟨b1,b2,b3⟩:=b;simp only [zdb,Bool.and_eq_true,decide_eq_true_eq,sameEs_iff,State.mk.injEq]
 constructor
 ·rintro⟨h1,h2,h3⟩;exact⟨h1,h3,h2⟩
 ·rintro⟨h1,h2,h3⟩;exact⟨h1,h3,h2⟩
theorem zo5 {S S':Nat->Prop} {a b:State} {a1 a2 a3 b1 b2 b3:Value} {w:World} (ha:StAt w S a a1 a2 a3) (hb:StAt w S' b b1 b2 b3) :
  Calls Tryz.prog 48 #[stV a1 a2 a3,stV b1 b2 b3] w fun e w'=>e=.returned (.bool (zdb a b))/\Ext w w':=by
 obtain⟨al,ae,ap⟩:=a;obtain⟨bl,be,bp⟩:=b;have HA:=zH ha;have HB:=zH hb;obtain⟨A1,n1,rfl,-,-⟩:=ha.all.form;obtain⟨A2,n2,rfl,-,-⟩:=ha.entries.form;obtain⟨A3,n3,rfl,-,-⟩:=ha.pruned.form;obtain⟨B1,m1,rfl,-,-⟩:=hb.all.form;obtain⟨B2,m2,rfl,-,-⟩:=hb.entries.form;obtain⟨B3,m3,rfl,-,-⟩:=hb.pruned.form;have hx:=((Ext.refl w).alloc (.cells #[.slice A1 al.length n1,.slice A2 ae.length n2,.slice A3 ap.length n3] 30)).alloc (.cells #[.slice B1 bl.length m1,.slice B2 be.length m2,.slice B3 bp.length m3] 30);have rA:=(zah w 30 [.slice A1 al.length n1,.slice A2 ae.length n2,.slice A3 ap.length n3]).alloc (.cells #[.slice B1 bl.length m1,.slice B2 be.length m2,.slice B3 bp.length m3] 30);have rB:=zah (w.alloc (.cells #[.slice A1 al.length n1,.slice A2 ae.length n2,.slice A3 ap.length n3] 30)) 30 [.slice B1 bl.length m1,.slice B2 be.length m2,.slice B3 bp.length m3];rw [World.size_alloc] at rB;have H1:=zH (zng (HA.out.all.ext (by decide) hx) (HB.out.all.ext (by decide) hx));clear ha hb;go_enter Tryz.func48,Tryz.ntmps48;go_wp2_with fail;generalize (w.alloc (.cells #[.slice A1 al.length n1,.slice A2 ae.length n2,.slice A3 ap.length n3] 30)).alloc (.cells #[.slice B1 bl.length m1,.slice B2 be.length m2,.slice B3 bp.length m3] 30)=W0 at *;refine H1.out.mono ?_;rintro e W1 ⟨rfl,hx1⟩;have hx01:=hx.trans hx1;have a2:=(rA.ext hx1).cell (j:=2) rfl;have b2:=(rB.ext hx1).cell (j:=2) rfl;have HRA:=zH (rA.ext hx1);have HRB:=zH (rB.ext hx1);have H2:=zH (zv9 (HA.out.pruned.ext (by decide) hx01) (HB.out.pruned.ext (by decide) hx01));have HX:=zH hx01;have HD:=zH (show zdb ⟨al,ae,ap⟩ ⟨bl,be,bp⟩=(decide (al=bl) && (decide (ap=bp) && zck ae be)) from rfl);clear rA rB hx hx1 hx01
 by_cases h1:al=bl
 ·rw [decide_eq_true h1] at HD ⊢;clear h1;go_wp2_with fail;refine H2.out.mono ?_;rintro e W2 ⟨rfl,hx2⟩;have a1:=(HRA.out.ext hx2).cell (j:=1) rfl;have b1:=(HRB.out.ext hx2).cell (j:=1) rfl;have HX2:=zH (HX.out.trans hx2);have H3:=zH (zpw (HA.out.entries.ext (by decide) HX2.out) (HB.out.entries.ext (by decide) HX2.out));clear hx2 a2 b2
  by_cases h2:ap=bp
  ·rw [decide_eq_true h2] at HD ⊢;clear h2;go_wp2_with fail;refine H3.out.mono ?_;rintro e W3 ⟨rfl,hx3⟩;go_wp2_with fail;go_ret;exact⟨by rw [HD.out];simp,HX2.out.trans hx3⟩
  ·rw [decide_eq_false h2] at HD ⊢;clear h2;go_wp2_with fail;go_ret;exact⟨by rw [HD.out];rfl,HX2.out⟩
 ·rw [decide_eq_false h1] at HD ⊢;clear h1;go_wp2_with fail;go_ret;exact⟨by rw [HD.out];rfl,HX.out⟩
end
section
open Go.RowKit Go.Shelf
def SE (base g:Nat) (v:Value) (b:Nat):Prop:=base<=b/\b ≠ g/\¬ zae v b
def RowE (w:World) (base g:Nat) (v:Value) (l:List Entry):Prop:=OwnL entryT 37 w base (SE base g v) v l
theorem Own.apart {w:World} {base T T' k n g:Nat} {v:Value} {xs ys tl:List Value} (h:Own w base T k v n xs) (hr:RowIs w g T' ys tl) (hT:T ≠ T'):¬ zae v g:=by
 rintro⟨g',n',c,hv,hc,rfl⟩;rcases h.2 with ⟨A,rfl,-⟩ | ⟨g',cap,cur,rfl,hb,hg,-⟩
 ·cases hv;omega
 ·cases hv;unfold RowIs at hr;rw [hg] at hr;injection hr with e
  injection e with e1 e2 e3
  exact hT e2
theorem RowE.own {w:World} {base g:Nat} {v:Value} {l:List Entry} (h:RowE w base g v l):∃ xs,Own w base 37 7 v l.length xs:=OwnL.own h
theorem RowE.form {w:World} {base g:Nat} {v:Value} {l:List Entry} (h:RowE w base g v l):∃ A c,v=.slice A l.length c/\l.length<=c/\c<=9223372036854775807:=OwnL.form h
theorem RowE.nil (w:World) (base g:Nat) (A:Option Addr):RowE w base g (.slice A 0 0) []:=OwnL.nil w A
theorem RowE.ext {w w':World} {base g:Nat} {v:Value} {l:List Entry} (h:RowE w base g v l) (he:Ext w w'):RowE w' base g v l:=OwnL.ext h he
theorem RowE.base_le {w:World} {base g:Nat} {v:Value} {l:List Entry} (h:RowE w base g v l) {b:Nat} (hb:zae v b):base<=b/\b < w.heap.size:=OwnL.base_le h hb
theorem RowE.set {w:World} {base g j T:Nat} {v u:Value} {l:List Entry} {ys tl:List Value} (h:RowE w base g v l) (hr:RowIs w g T ys tl) (hT:37 ≠ T):RowE (w.setCell ⟨g,j,none⟩ u) base g v l:=by
 obtain⟨xs,ho⟩:=h.own;exact OwnL.keep h (fun b hb _=>Below.heap_setCell _ _ _ _ hb.2.1) fun b hb _=>Below.heap_setCell _ _ _ _ fun e=>ho.apart hr hT (by have e2:b=g:=e;rw [<- e2];exact hb)
theorem RowE.keep {w w':World} {base g:Nat} {v:Value} {l:List Entry} (h:RowE w base g v l) (hs:∀ b,base<=b->b < w.heap.size->b ≠ g ∨ zae v b->w'.heap[b]? = w.heap[b]?):RowE w' base g v l :=
 OwnL.keep h (fun b hb hlt=>hs b hb.1 hlt (.inl hb.2.1)) fun b hb hlt=>hs b (OwnL.base_le h hb).1 hlt (.inr hb)
theorem EntNew.keep {w w':World} {lo:Nat} {e:Entry} {v1 v2 v3:Value} (h:EntNew w lo e v1 v2 v3) (hs:∀ b,lo<=b->b < w.heap.size->w'.heap[b]? = w.heap[b]?):EntNew w' lo e v1 v2 v3 :=
 ⟨h.seen.keep fun b hb hlt=>hs b (h.seen.base_le hb).1 hlt,h.counts.keep fun b hb hlt=>hs b (h.counts.base_le hb).1 hlt,h.items.keep (fun b hb hlt=>hs b hb hlt) fun b hb hlt=>hs b (h.items.base_le hb).1 hlt⟩
theorem EntNew.rd {w:World} {lo:Nat} {e:Entry} {v1 v2 v3:Value} {S:Nat->Prop} (h:EntNew w lo e v1 v2 v3) (hS:∀ b,b < w.heap.size->lo<=b->S b):entryT.rd w S e (entL e v1 v2 v3):=by
 have h2:=h.at.mono (S':=S) (fun b hb h=>hS b hb h);exact⟨v1,v2,v3,rfl,h2.seen,h2.counts,h2.items⟩
theorem EntAt.rd {w:World} {e:Entry} {v1 v2 v3:Value} {S S':Nat->Prop} (h:EntAt w S e v1 v2 v3) (hS:∀ b,b < w.heap.size->S b->S' b):entryT.rd w S' e (entL e v1 v2 v3):=by
 have h2:=h.mono hS;exact⟨v1,v2,v3,rfl,h2.seen,h2.counts,h2.items⟩
theorem zfo {w:World} {S:Nat->Prop} {e:Entry} {vs:List Value} (h:entryT.rd w S e vs):∀ u ∈ vs,u.oneCell'=true:=entryT.one h
theorem RowE.snoc {W W':World} {base g lo:Nat} {v v':Value} {l:List Entry} {m:Entry} {u1 u2 u3:Value} {vss:List (List Value)} (h1:vss.length=l.length) (h2:∀ (i:Nat) x vs,l[i]? = some x->vss[i]? = some vs->entryT.rd W (SE base g v) x vs)
  (hn:EntNew W lo m u1 u2 u3) (hlo:∀ b,zae v b->b < lo) (hg:g < lo) (hbl:base<=lo) (h3:Own W' base 37 7 v' (l.length+1) (vss.flatten++entL m u1 u2 u3)) (hgr:Grew W W' v v'):RowE W' base g v' (l++[m]):=by
 refine OwnL.snoc (T:=entryT) h1 (fun i x vs hi hv=>?_) ?_ h3
 ·have a:=entryT.mono (S':=fun b=>SE base g v b/\b < W.heap.size) (h2 i x vs hi hv) (fun b hb h=>⟨h,hb⟩);have b:=entryT.keep (w':=W') a (fun b hb hlt=>hgr.same b hlt hb.1.2.2)
  exact entryT.mono b fun b _ hb=>⟨hb.1.1,hb.1.2.1,fun ho=>by
   rcases hgr.blk b ho with h | h
   ·exact hb.1.2.2 h
   ·have:=hb.2;omega⟩
 ·have a:entryT.rd W (fun b=>lo<=b/\b < W.heap.size) m (entL m u1 u2 u3):=hn.rd fun b hb h=>⟨h,hb⟩
  have b:=entryT.keep (w':=W') a (fun b hb hlt=>hgr.same b hlt fun ho=>by have:=hlo b ho;omega)
  exact entryT.mono b fun b _ hb=>⟨by omega,by omega,fun ho=>by
   rcases hgr.blk b ho with h | h
   ·have:=hlo b h;omega
   ·have:=hb.2;omega⟩
def MvR (v:Value) (w w':World):Prop:=w.heap.size<=w'.heap.size/\∀ b,b < w.heap.size->¬ zae v b->w'.heap[b]? = w.heap[b]?
structure Moved (v:Value) (w w':World):Prop where
 os:w'.os=w.os
 tape:w'.tape=w.tape
 output:w'.output=w.output
 mv:MvR v w w'
theorem Grew.moved {w w1 w':World} {v v':Value} (he:Ext w w1) (h:Grew w1 w' v v'):Moved v w w' :=
 ⟨h.os.trans he.os,h.tape.trans he.tape,h.output.trans he.output,Nat.le_trans he.size h.size,fun b hb hn=>(h.same b (Nat.lt_of_lt_of_le hb he.size) hn).trans (he.block b hb)⟩
theorem Ext.moved {w0 w w':World} {v:Value} (he:Ext w0 w) (h:Moved v w w') (hv:∀ b,zae v b->w0.heap.size<=b):Ext w0 w' :=
 ⟨h.os.trans he.os,h.tape.trans he.tape,h.output.trans he.output,Nat.le_trans he.size h.mv.1,fun b hb=>(h.mv.2 b (Nat.lt_of_lt_of_le hb he.size) (fun ho=>by have:=hv b ho;omega)).trans (he.block b hb)⟩
theorem EntNew.mvR {w w':World} {lo:Nat} {e:Entry} {v1 v2 v3 v:Value} (h:EntNew w lo e v1 v2 v3) (m:MvR v w w') (hv:∀ b,zae v b->b < lo):EntNew w' lo e v1 v2 v3 :=
 h.keep fun b hb hlt=>m.2 b hlt fun ho=>by have:=hv b ho;omega
theorem RowIs.mvR {w w':World} {g T:Nat} {xs tl:List Value} {v:Value} (h:RowIs w g T xs tl) (m:MvR v w w') (hv:¬ zae v g):RowIs w' g T xs tl:=h.keep (m.2 g h.lt hv)
theorem Own.mvR {w w':World} {base T k n:Nat} {u v:Value} {xs:List Value} (h:Own w base T k u n xs) (m:MvR v w w') (hv:∀ b,zae u b->¬ zae v b):Own w' base T k u n xs :=
 h.keep fun b hb hlt=>m.2 b hlt (hv b hb)
theorem Own.apart2 {w:World} {base base' T T' k k' n n':Nat} {u v:Value} {xs ys:List Value} (h:Own w base T k u n xs) (h':Own w base' T' k' v n' ys) (hT:T ≠ T'):∀ b,zae u b->¬ zae v b:=by
 rintro b ⟨g,m,c,rfl,hc,rfl⟩ ⟨g',m',c',rfl,hc',rfl⟩;rcases h.2 with ⟨A,e,-⟩ | ⟨g1,cap,cur,e,hb,hg,-⟩
 ·cases e;omega
 ·cases e;rcases h'.2 with ⟨A,e,-⟩ | ⟨g1,cap',cur',e,hb',hg',-⟩
  ·cases e;omega
  ·cases e;rw [hg] at hg';injection hg' with e
   injection e with e1 e2 e3
   exact hT e2
structure StNew (w:World) (base:Nat) (s:State) (v1 v2 v3:Value):Prop where
 all:Own w base 25 2 v1 s.all.length (s.all.flatMap zag)
 entries:OwnL entryT 37 w base (fun b=>base<=b/\¬ zae v2 b) v2 s.entries
 pruned:Own w base 9 1 v3 s.pruned.length (s.pruned.flatMap strC)
theorem StNew.at {w:World} {base:Nat} {s:State} {v1 v2 v3:Value} (h:StNew w base s v1 v2 v3):StAt w (fun b=>base<=b) s v1 v2 v3 :=
 ⟨zax h.all,h.entries.sl (by decide) (fun _ _ h=>h.1) (fun _ h _=>h),(OwnL.flat_iff (S:=fun b=>base<=b).2 h.pruned).sl (by decide) (fun _ _ h=>h) (fun _ h _=>h)⟩
structure SmallS (s:State):Prop where
 all:s.all.length<=549755813888
 entries:s.entries.length<=549755813888
 pruned:s.pruned.length<=549755813888
 each:∀ e ∈ s.entries,SmallE e
end
section
open Go.RowKit Go.Shelf
def zgq (e:Entry):Bool:=e.counts.all fun c=>!(c.1 != [] && ofM e.seen c.1 == 0)
def zhq (e:Entry):Bool:=e.items.all fun it=>it.2.all fun d=>hasM e.seen d
theorem zwl {S:Nat->Prop} {A:Option Addr} {n c:Nat} {l pre post:List zad} {m:zad} {w wr:World} (hv:Sl zbh w S (.slice A n c) l) (h:Ext w wr) (hl:l=pre++m :: post) :
  ∃ b o,A=some ⟨b,o,none⟩/\wr.cell? ⟨b,o+pre.length * 3,none⟩=some (St m.1)/\wr.cell? ⟨b,o+pre.length * 3+1,none⟩=some (U m.2.1)/\wr.cell? ⟨b,o+pre.length * 3+2,none⟩=some (U m.2.2):=by
 obtain⟨b,o,vs,c',e,-,rfl,hc⟩:=(hv.ext (by decide) h).at_ hl;injection e with e1 e2 e3
 exact⟨b,o,e1,hc 0 _ rfl,hc 1 _ rfl,hc 2 _ rfl⟩
theorem zqt {S:Nat->Prop} {e:Entry} {v1 v2 v3:Value} {w:World} (h:EntAt w S e v1 v2 v3) :
  Calls Tryz.prog 120 #[entV e v1 v2 v3] w fun r w'=>r=.returned (.bool (zgq e))/\Ext w w':=by
 obtain⟨ek,es,ec,ei,x1,x2,x3⟩:=e;have hc:=h.counts;have H:=zH h;obtain⟨A1,n1,rfl,-,-⟩:=h.seen.form;obtain⟨A2,n2,rfl,hn1,hn2⟩:=h.counts.form;obtain⟨A3,n3,rfl,-,-⟩:=h.items.form;simp only at hn1;have HAT:=zH (fun (pre post:List zad) (m:zad) (wr:World) (h:Ext w wr) (hl:ec=pre++m :: post)=>zwl hc h hl);have HE:=zH (show zgq ⟨ek,es,ec,ei,(x1,x2,x3)⟩=ec.all fun c=>!(c.1 != [] && ofM es c.1 == 0) from rfl);generalize zgq ⟨ek,es,ec,ei,(x1,x2,x3)⟩=R at *;have hx0:=(Ext.refl w).alloc (.cells #[St ek,.slice A1 es.length n1,.slice A2 ec.length n2,.slice A3 ei.length n3,U x1,St x2,.bool x3] 37);have hb0:=zah w 37 [St ek,.slice A1 es.length n1,.slice A2 ec.length n2,.slice A3 ei.length n3,U x1,St x2,.bool x3];have k2:=hb0.cell (j:=2) rfl;clear h hc;go_enter Tryz.func120,Tryz.ntmps120;go_wp2_with fail;generalize hW0:w.alloc (.cells #[St ek,.slice A1 es.length n1,.slice A2 ec.length n2,.slice A3 ei.length n3,U x1,St x2,.bool x3] 37)=W0 at *;clear hW0
 go_loopw [8] (fun i wr=>∃ pre post,ec=pre++post/\i=I pre.length/\Hid (R=post.all fun c=>!(c.1 != [] && ofM es c.1 == 0))/\Ext W0 wr) (fun i _=>ec.length - (intOf i).toNat)
 case atStart=>exact⟨[],ec,rfl,rfl,HE,Ext.refl _⟩
 case round =>
  obtain⟨pre,post,hl,rfl,hR,hx⟩:=hrel
  cases post with
  | cons c post =>
   obtain⟨b,o,rfl,hd0,hd1,hd2⟩:=HAT.out pre post c wr (hx0.trans hx) hl;have hlt:pre.length < ec.length:=(by rw [hl];simp);have HL:=zH hl;have hx1:=hx.alloc (.cells #[St c.1,U c.2.1,U c.2.2] 93);have t0:(wr.alloc (.cells #[St c.1,U c.2.1,U c.2.2] 93)).cell? ⟨wr.heap.size,0,none⟩=some (St c.1):=(by simp [go_sem]);have ks:=(hb0.ext hx1).cell (j:=1) rfl;have HS:=zH (zkf c.1 (H.out.seen.ext (by decide) (hx0.trans hx1)));clear hl;obtain⟨cs,cp,cm⟩:=c;simp only at hd0 hd1 hd2 hx1 t0 ks HS
   cases cs with
   | nil =>
    have hR2:=zH (show R=post.all fun c=>!(c.1 != [] && ofM es c.1 == 0) by rw [hR.out];simp);have HX1:=zH hx1;clear hR hx1 HS;go_wp2_with fail;go_roundw
    case rel=>exact⟨pre++[([],cp,cm)],post,by rw [HL.out];simp,by simp,hR2,HX1.out⟩
    case measure=>simp [intOf];omega
   | cons ch cs =>
    go_wp2_with fail;refine HS.out.mono ?_;rintro r W1 ⟨rfl,hx2⟩;have HX1:=zH (hx1.trans hx2)
    cases hof:ofM es (ch :: cs) with
    | zero =>
     have hR2:=zH (show R=false by rw [hR.out];simp [hof]);clear hR hx1 hx2;go_wp2_with fail
     (try simp only [Exit.inBlock,Exit.then])
     exact bodyPost_ret (results_tmp rfl _ _ _) rfl ⟨by rw [hR2.out];rfl,hx0.trans HX1.out⟩
    | succ m =>
     have hR2:=zH (show R=post.all fun c=>!(c.1 != [] && ofM es c.1 == 0) by rw [hR.out];simp [hof]);clear hR hx1 hx2;go_wp2_with fail;go_roundw
     case rel=>exact⟨pre++[(ch :: cs,cp,cm)],post,by rw [HL.out];simp,by simp,hR2,HX1.out⟩
     case measure=>simp [intOf];omega
  | nil =>
   rw [List.append_nil] at hl;have hR2:=zH (show R=true by rw [hR.out];rfl);have hlen:ec.length=pre.length:=(by rw [hl]);clear hR hl;go_wp2_with fail
   (try simp only [Exit.inBlock,Exit.then])
   exact bodyPost_ret (results_tmp rfl _ _ _) rfl ⟨by rw [hR2.out];rfl,hx0.trans hx⟩
theorem zr3 {S:Nat->Prop} {e:Entry} {v1 v2 v3:Value} {w:World} (h:EntAt w S e v1 v2 v3) :
  Calls Tryz.prog 123 #[entV e v1 v2 v3] w fun r w'=>r=.returned (.bool (zhq e))/\Ext w w':=by
 obtain⟨ek,es,ec,ei,x1,x2,x3⟩:=e;have hc:=h.items;have H:=zH h;obtain⟨A1,n1,rfl,-,-⟩:=h.seen.form;obtain⟨A2,n2,rfl,-,-⟩:=h.counts.form;obtain⟨A3,n3,rfl,hn1,hn2⟩:=h.items.form;simp only at hn1;have HAT:=zH (fun (pre post:List Item) (m:Item) (wr:World) (h:Ext w wr) (hl:ei=pre++m :: post)=>zcu hc h hl);have HE:=zH (show zhq ⟨ek,es,ec,ei,(x1,x2,x3)⟩=ei.all fun it=>it.2.all fun d=>hasM es d from rfl);generalize zhq ⟨ek,es,ec,ei,(x1,x2,x3)⟩=R at *;have hx0:=(Ext.refl w).alloc (.cells #[St ek,.slice A1 es.length n1,.slice A2 ec.length n2,.slice A3 ei.length n3,U x1,St x2,.bool x3] 37);have hb0:=zah w 37 [St ek,.slice A1 es.length n1,.slice A2 ec.length n2,.slice A3 ei.length n3,U x1,St x2,.bool x3];have k3:=hb0.cell (j:=3) rfl;clear h hc;go_enter Tryz.func123,Tryz.ntmps123;go_wp2_with fail;generalize hW0:w.alloc (.cells #[St ek,.slice A1 es.length n1,.slice A2 ec.length n2,.slice A3 ei.length n3,U x1,St x2,.bool x3] 37)=W0 at *;clear hW0
 go_loopw [10] (fun i wr=>∃ pre post,ei=pre++post/\i=I pre.length/\Hid (R=post.all fun it=>it.2.all fun d=>hasM es d)/\Ext W0 wr) (fun i _=>ei.length - (intOf i).toNat)
 case atStart=>exact⟨[],ei,rfl,rfl,HE,Ext.refl _⟩
 case round =>
  obtain⟨pre,post,hl,rfl,hR,hx⟩:=hrel
  cases post with
  | cons it post =>
   obtain⟨b,o,vd,rfl,hd0,hd1,hsl⟩:=HAT.out pre post it wr (hx0.trans hx) hl;have hlt:pre.length < ei.length:=(by rw [hl];simp);have HL:=zH hl;have hsl':=hsl;obtain⟨A4,n4,rfl,hn3,hn4⟩:=hsl.form;have hx1:=hx.alloc (.cells #[St it.1,.slice A4 it.2.length n4] 96);have t1:(wr.alloc (.cells #[St it.1,.slice A4 it.2.length n4] 96)).cell? ⟨wr.heap.size,1,none⟩=some (.slice A4 it.2.length n4):=(by simp [go_sem]);have hxa:=(Ext.refl wr).alloc (.cells #[St it.1,.slice A4 it.2.length n4] 96);have HIN:=zH (fun (p2 q2:List Dot) (x:Dot) (wr':World) (h:Ext w wr') (hl:it.2=p2++x :: q2)=>zdv hsl' h hl);clear hl hsl hsl';go_wp2_with fail;generalize hW1:wr.alloc (.cells #[St it.1,.slice A4 it.2.length n4] 96)=W1 at *;clear hW1;obtain⟨wo,hwo⟩:∃ wo:World,wo=wr:=⟨_,rfl⟩
   subst hwo
   go_loopw [17] (fun j wr2=>∃ p2 q2,it.2=p2++q2/\j=I p2.length/\Hid (R=((q2.all fun d=>hasM es d) && post.all fun it=>it.2.all fun d=>hasM es d))/\Ext W1 wr2) (fun j _=>it.2.length - (intOf j).toNat)
   case atStart=>exact⟨[],it.2,rfl,rfl,by rw [hR.out];exact zH (by simp),Ext.refl _⟩
   case round =>
    obtain⟨p2,q2,hl2,rfl,hR2,hx2⟩:=hrel
    cases q2 with
    | cons x q2 =>
     have hx02:=hx0.trans (hx1.trans hx2);obtain⟨b2,o2,rfl,e0,e1⟩:=HIN.out p2 q2 x wr hx02 hl2;have hlt2:p2.length < it.2.length:=(by rw [hl2];simp);have hx3:=hx2.alloc (.cells #[St x.1,U x.2] 97);have s0:(wr.alloc (.cells #[St x.1,U x.2] 97)).cell? ⟨wr.heap.size,0,none⟩=some (St x.1):=(by simp [go_sem]);have s1:(wr.alloc (.cells #[St x.1,U x.2] 97)).cell? ⟨wr.heap.size,1,none⟩=some (U x.2):=(by simp [go_sem]);have ks:=(hb0.ext (hx1.trans hx3)).cell (j:=1) rfl;have HS:=zH (zn4 x (H.out.seen.ext (by decide) (hx0.trans (hx1.trans hx3))));have HL2:=zH hl2;clear hl2;go_wp2_with fail;refine HS.out.mono ?_;rintro r W2 ⟨rfl,hx4⟩;have HX3:=zH (hx3.trans hx4)
     cases hof:hasM es x with
     | false =>
      have hR3:=zH (show R=false by rw [hR2.out];simp [hof]);have HXX:=zH (hx0.trans (hx1.trans HX3.out));clear hR hR2 hx4 hx3 hx2 hx02;go_wp2_with fail
      (try simp only [Exit.inBlock,Exit.then])
      exact bodyPost_ret (results_tmp rfl _ _ _) rfl ⟨by rw [hR3.out];rfl,HXX.out⟩
     | true =>
      have hR3:=zH (show R=((q2.all fun d=>hasM es d) && post.all fun it=>it.2.all fun d=>hasM es d) by rw [hR2.out];simp [hof]);clear hR hR2 hx4 hx3 hx2 hx02;go_wp2_with fail;go_roundw
      case rel=>exact⟨p2++[x],q2,by rw [HL2.out];simp,by simp,hR3,HX3.out⟩
      case measure=>simp [intOf];omega
    | nil =>
     rw [List.append_nil] at hl2;have hR3:=zH (show R=post.all fun it=>it.2.all fun d=>hasM es d by rw [hR2.out];rfl);have hlen:it.2.length=p2.length:=(by rw [hl2]);have HX2:=zH (hx1.trans hx2);clear hR hR2 hl2 hx2;go_wp2_with fail;go_roundw
     case rel=>exact⟨pre++[it],post,by rw [HL.out];simp,by simp,hR3,HX2.out⟩
     case measure=>simp [intOf];omega
  | nil =>
   rw [List.append_nil] at hl;have hR2:=zH (show R=true by rw [hR.out];rfl);have hlen:ei.length=pre.length:=(by rw [hl]);clear hR hl;go_wp2_with fail
   (try simp only [Exit.inBlock,Exit.then])
   exact bodyPost_ret (results_tmp rfl _ _ _) rfl ⟨by rw [hR2.out];rfl,hx0.trans hx⟩
end
section
open Go.RowKit Go.Shelf
def zyb (w:World) (S:Nat->Prop) (v:Value):Prop:=∀ b o n c,v=.slice (some ⟨b,o,none⟩) n c->0 < n->S b/\∃ cur T,w.heap[b]? = some (.cells cur T (0,0))
def entryF:Shape Entry where
 k:=7
 rd w S x vs:=entryT.rd w S x vs/\∀ v,vs[1]? = some v->zyb w S v
 len h:=entryT.len h.1
 one h:=entryT.one h.1
 keep h hs:=⟨entryT.keep h.1 hs,fun v hv b o n c e hn=>by obtain⟨hS,cur,T,hc⟩:=h.2 v hv b o n c e hn;exact⟨hS,cur,T,(hs b hS (Array.getElem?_eq_some_iff.1 hc).1).trans hc⟩⟩
 mono h hs:=⟨entryT.mono h.1 hs,fun v hv b o n c e hn=>by obtain⟨hS,cur,T,hc⟩:=h.2 v hv b o n c e hn;exact⟨hs b (Array.getElem?_eq_some_iff.1 hc).1 hS,cur,T,hc⟩⟩
theorem EntNew.rdF {w:World} {lo:Nat} {e:Entry} {v1 v2 v3:Value} {S:Nat->Prop} (h:EntNew w lo e v1 v2 v3) (hS:∀ b,b < w.heap.size->lo<=b->S b):entryF.rd w S e (entL e v1 v2 v3):=by
 refine ⟨h.rd hS,fun v hv b o n c he hn=>?_⟩;have hv1:v1=v:=by simpa using hv
 subst hv1;rcases h.seen.2 with ⟨A,h0,-⟩ | ⟨g,cap,cur,h0,hb,hg,-⟩
 ·rw [h0] at he;cases he;omega
 ·rw [h0] at he;cases he;exact⟨hS _ (Array.getElem?_eq_some_iff.1 hg).1 hb,cur,_,hg⟩
def RowF (w:World) (base g:Nat) (v:Value) (l:List Entry):Prop:=OwnL entryF 37 w base (SE base g v) v l
theorem RowF.own {w:World} {base g:Nat} {v:Value} {l:List Entry} (h:RowF w base g v l):∃ xs,Own w base 37 7 v l.length xs:=OwnL.own h
theorem RowF.form {w:World} {base g:Nat} {v:Value} {l:List Entry} (h:RowF w base g v l):∃ A c,v=.slice A l.length c/\l.length<=c/\c<=9223372036854775807:=OwnL.form h
theorem RowF.nil (w:World) (base g:Nat) (A:Option Addr):RowF w base g (.slice A 0 0) []:=OwnL.nil w A
theorem RowF.ext {w w':World} {base g:Nat} {v:Value} {l:List Entry} (h:RowF w base g v l) (he:Ext w w'):RowF w' base g v l:=OwnL.ext h he
theorem RowF.base_le {w:World} {base g:Nat} {v:Value} {l:List Entry} (h:RowF w base g v l) {b:Nat} (hb:zae v b):base<=b/\b < w.heap.size:=OwnL.base_le h hb
theorem RowF.set {w:World} {base g j T:Nat} {v u:Value} {l:List Entry} {ys tl:List Value} (h:RowF w base g v l) (hr:RowIs w g T ys tl) (hT:37 ≠ T):RowF (w.setCell ⟨g,j,none⟩ u) base g v l:=by
 obtain⟨xs,ho⟩:=h.own;exact OwnL.keep h (fun b hb _=>Below.heap_setCell _ _ _ _ hb.2.1) fun b hb _=>Below.heap_setCell _ _ _ _ fun e=>ho.apart hr hT (by have e2:b=g:=e;rw [<- e2];exact hb)
theorem RowF.snoc {W W':World} {base g lo:Nat} {v v':Value} {l:List Entry} {m:Entry} {u1 u2 u3:Value} {vss:List (List Value)} (h1:vss.length=l.length) (h2:∀ (i:Nat) x vs,l[i]? = some x->vss[i]? = some vs->entryF.rd W (SE base g v) x vs)
  (hn:EntNew W lo m u1 u2 u3) (hlo:∀ b,zae v b->b < lo) (hg:g < lo) (hbl:base<=lo) (h3:Own W' base 37 7 v' (l.length+1) (vss.flatten++entL m u1 u2 u3)) (hgr:Grew W W' v v'):RowF W' base g v' (l++[m]):=by
 refine OwnL.snoc (T:=entryF) h1 (fun i x vs hi hv=>?_) ?_ h3
 ·have a:=entryF.mono (S':=fun b=>SE base g v b/\b < W.heap.size) (h2 i x vs hi hv) (fun b hb h=>⟨h,hb⟩);have b:=entryF.keep (w':=W') a (fun b hb hlt=>hgr.same b hlt hb.1.2.2)
  exact entryF.mono b fun b _ hb=>⟨hb.1.1,hb.1.2.1,fun ho=>by
   rcases hgr.blk b ho with h | h
   ·exact hb.1.2.2 h
   ·have:=hb.2;omega⟩
 ·have a:entryF.rd W (fun b=>lo<=b/\b < W.heap.size) m (entL m u1 u2 u3):=hn.rdF fun b hb h=>⟨h,hb⟩
  have b:=entryF.keep (w':=W') a (fun b hb hlt=>hgr.same b hlt fun ho=>by have:=hlo b ho;omega)
  exact entryF.mono b fun b _ hb=>⟨by omega,by omega,fun ho=>by
   rcases hgr.blk b ho with h | h
   ·have:=hlo b h;omega
   ·have:=hb.2;omega⟩
theorem OwnL.toT {w:World} {base:Nat} {S:Nat->Prop} {v:Value} {l:List Entry} (h:OwnL entryF 37 w base S v l):OwnL entryT 37 w base S v l:=by
 obtain⟨vss,h1,h2,h3⟩:=h;exact⟨vss,h1,fun i x vs hi hv=>(h2 i x vs hi hv).1,h3⟩
structure StNewF (w:World) (base:Nat) (s:State) (v1 v2 v3:Value):Prop where
 all:Own w base 25 2 v1 s.all.length (s.all.flatMap zag)
 entries:OwnL entryF 37 w base (fun b=>base<=b/\¬ zae v2 b) v2 s.entries
 pruned:Own w base 9 1 v3 s.pruned.length (s.pruned.flatMap strC)
theorem StNewF.new {w:World} {base:Nat} {s:State} {v1 v2 v3:Value} (h:StNewF w base s v1 v2 v3):StNew w base s v1 v2 v3:=⟨h.all,h.entries.toT,h.pruned⟩
end
section
open Go.RowKit Go.Shelf
theorem zmv {vss:List (List Value)} (h:∀ x ∈ vss,x.length=7):vss.flatten.length=vss.length * 7:=by
 induction vss with
 | nil=>rfl
 | cons a r ih=>rw [List.flatten_cons,List.length_append,ih fun x hx=>h x (by simp [hx]),h a (by simp),List.length_cons,Nat.add_mul];omega
theorem zwp {vss:List (List Value)} (h:∀ x ∈ vss,x.length=7) (i:Nat) (hi:i<=vss.length):vss.flatten.take (i * 7)=(vss.take i).flatten/\vss.flatten.drop (i * 7)=(vss.drop i).flatten:=by
 have e:vss.flatten=(vss.take i).flatten++(vss.drop i).flatten:=by rw [<- List.flatten_append,List.take_append_drop]
 have hl:(vss.take i).flatten.length=i * 7:=by rw [zmv fun x hx=>h x (List.mem_of_mem_take hx),List.length_take,Nat.min_eq_left hi]
 rw [e,<- hl];exact⟨List.take_left,List.drop_left⟩
theorem RowIs.set7 {w:World} {g T o:Nat} {X1 X2 tail:List Value} {c0 c1 c2 c3 c4 c5 c6:Value} (h:RowIs w g T (X1++([c0,c1,c2,c3,c4,c5,c6]++X2)) tail) (ho:X1.length=o) (d0 d1 d2 d3 d4 d5 d6:Value) :
  RowIs (((((((w.setCell ⟨g,o,none⟩ d0).setCell ⟨g,o+1,none⟩ d1).setCell ⟨g,o+2,none⟩ d2).setCell ⟨g,o+3,none⟩ d3).setCell ⟨g,o+4,none⟩ d4).setCell ⟨g,o+5,none⟩ d5).setCell ⟨g,o+6,none⟩ d6) g T (X1++([d0,d1,d2,d3,d4,d5,d6]++X2)) tail:=by
 subst ho;have a:=((((((h.set (j:=X1.length) (by simp) d0).set (j:=X1.length+1) (by simp) d1).set (j:=X1.length+2) (by simp) d2).set (j:=X1.length+3) (by simp) d3).set (j:=X1.length+4) (by simp) d4).set (j:=X1.length+5) (by simp) d5).set (j:=X1.length+6) (by simp) d6
 have e:((((((((X1++([c0,c1,c2,c3,c4,c5,c6]++X2)).set X1.length d0).set (X1.length+1) d1).set (X1.length+2) d2).set (X1.length+3) d3).set (X1.length+4) d4).set (X1.length+5) d5).set (X1.length+6) d6)=X1++([d0,d1,d2,d3,d4,d5,d6]++X2):=by simp [List.set_append]
 rw [e] at a;exact a
theorem yad {w:World} {g T o:Nat} {X1 X2 tail:List Value} {c0 c1 c2 c3 c4 c5 c6:Value} (h:RowIs w g T (X1++([c0,c1,c2,c3,c4,c5,c6]++X2)) tail) (ho:X1.length=o) :
  w.cell? ⟨g,o,none⟩=some c0/\w.cell? ⟨g,o+1,none⟩=some c1/\w.cell? ⟨g,o+2,none⟩=some c2/\w.cell? ⟨g,o+3,none⟩=some c3/\w.cell? ⟨g,o+4,none⟩=some c4/\w.cell? ⟨g,o+5,none⟩=some c5/\w.cell? ⟨g,o+6,none⟩=some c6:=by
 subst ho;exact⟨h.cell (by simp),h.cell (by simp),h.cell (by simp),h.cell (by simp),h.cell (by simp),h.cell (by simp),h.cell (by simp)⟩
theorem len7 {l:List Value} (h:l.length=7):∃ c0 c1 c2 c3 c4 c5 c6,l = [c0,c1,c2,c3,c4,c5,c6]:=by
 match l,h with
 | [c0,c1,c2,c3,c4,c5,c6],_=>exact⟨c0,c1,c2,c3,c4,c5,c6,rfl⟩
theorem zo7 {W:World} {base n:Nat} {S:Nat->Prop} {v:Value} {l:List Entry} {vss:List (List Value)} (h1:vss.length=l.length) (h2:∀ (i:Nat) x vs,l[i]? = some x->vss[i]? = some vs->entryT.rd W S x vs) (hn:n=l.length) (h3:Own W base 37 7 v n vss.flatten) (hb:∀ b,zae v b->S b):Sl entryT W S v l:=by
 subst hn;obtain⟨A,c,rfl,hc1,hc2⟩:=h3.form;refine ⟨A,c,rfl,hc1,hc2,fun pre x post hl=>?_⟩;have hlen:pre.length < l.length:=by rw [hl];simp
 have hx:l[pre.length]? = some x:=by rw [hl];simp
 have hv:vss[pre.length]? = some (vss[pre.length]'(by omega)):=List.getElem?_eq_getElem (by omega);have hr:=h2 _ _ _ hx hv;obtain⟨g,cap,cur,hv',hb',hg,-,hnc,-⟩:=h3.pos (by omega);injection hv' with e1 e2 e3
 subst e1;subst e3;refine ⟨g,0,_,rfl,hb g ⟨g,_,_,rfl,by omega,rfl⟩,hr,fun j u hj=>?_⟩;rw [Nat.zero_add];refine h3.cell (g:=g) (c:=c) rfl (zfx vss _ j _ u ?_ hv hj);intro y hy;obtain⟨i,hi⟩:=List.getElem?_of_mem hy;have hi':i < l.length:=by rw [<- h1];exact (List.getElem?_eq_some_iff.1 hi).1
 exact entryT.len (h2 i _ y (List.getElem?_eq_getElem hi') hi)
theorem zyp {W:World} {base i:Nat} {v:Value} {l:List Entry} {e:Entry} {u1 u2 u3:Value} {S S0 Sx:Nat->Prop} (h:OwnL entryT 37 W base S0 v l) (hi:i < l.length) (he:EntAt W S e u1 u2 u3) (hS:∀ b,S b->¬ zae v b/\Sx b) (hS0:∀ b,S0 b->¬ zae v b/\Sx b) (hx:∀ b,zae v b->Sx b) :
  ∃ g cap X1 X2 tail c0 c1 c2 c3 c4 c5 c6,v=.slice (some ⟨g,0,none⟩) l.length cap/\base<=g/\RowIs W g 37 (X1++([c0,c1,c2,c3,c4,c5,c6]++X2)) tail/\X1.length=i * 7 /\
   ∀ W':World,RowIs W' g 37 (X1++(entL e u1 u2 u3++X2)) tail->(∀ b,b ≠ g->b < W.heap.size->W'.heap[b]? = W.heap[b]?)->Sl entryT W' Sx v (l.set i e):=by
 obtain⟨vss,h1,h2,h3⟩:=h
 have h7:∀ x ∈ vss,x.length=7:=fun x hx=>by
  obtain⟨j,hj⟩:=List.getElem?_of_mem hx;have hjl:j < l.length:=by rw [<- h1];exact (List.getElem?_eq_some_iff.1 hj).1
  exact entryT.len (h2 j _ x (List.getElem?_eq_getElem hjl) hj)
 have hiv:i < vss.length:=by omega
 obtain⟨g,cap,tail,rfl,hb,hg,hc,hm,hl⟩:=h3.row (by omega);have hsp:vss=vss.take i++vss[i] :: vss.drop (i+1):=by rw [List.getElem_cons_drop,List.take_append_drop]
 have hf:vss.flatten=(vss.take i).flatten++(vss[i]++(vss.drop (i+1)).flatten):=by rw [<- List.flatten_cons,<- List.flatten_append,List.getElem_cons_drop,List.take_append_drop]
 obtain⟨c0,c1,c2,c3,c4,c5,c6,hcs⟩:=len7 (h7 _ (List.getElem_mem hiv));rw [hcs] at hf;have hX1:(vss.take i).flatten.length=i * 7:=by rw [zmv fun x hx=>h7 x (List.mem_of_mem_take hx),List.length_take,Nat.min_eq_left (by omega)]
 have hob:zae (.slice (some ⟨g,0,none⟩) l.length cap) g:=⟨g,l.length,cap,rfl,by omega,rfl⟩
 refine ⟨g,cap,_,_,tail,c0,c1,c2,c3,c4,c5,c6,rfl,hb,by rw [<- hf];exact hg,hX1,fun W' hg' hk=>?_⟩
 have hf2:(vss.set i (entL e u1 u2 u3)).flatten=(vss.take i).flatten++(entL e u1 u2 u3++(vss.drop (i+1)).flatten):=by rw [List.set_eq_take_append_cons_drop,if_pos hiv];simp
 have hlen2:((vss.set i (entL e u1 u2 u3)).flatten).length=l.length * 7:=by
  rw [zmv fun x hx=>by
   rcases List.mem_or_eq_of_mem_set hx with h | h
   ·exact h7 x h
   ·rw [h];rfl,List.length_set,h1]
 refine zo7 (vss:=vss.set i (entL e u1 u2 u3)) (base:=base) (n:=l.length) (by simp [h1]) (fun j x vs hj hv=>?_) (by simp) ?_ hx
 ·by_cases hij:i=j
  ·subst hij;rw [List.getElem?_set_self hi] at hj;rw [List.getElem?_set_self hiv] at hv;cases hj;cases hv;have a:=he.rd (S':=fun b=>S b/\b < W.heap.size) (fun b hb h=>⟨h,hb⟩);exact entryT.mono (entryT.keep (w':=W') a fun b hb hlt=>hk b (fun e=>(hS b hb.1).1 (by rw [e];exact hob)) hlt) fun b _ hb=>(hS b hb.1).2
  ·rw [List.getElem?_set_ne hij] at hj hv;have a:=entryT.keep (w':=W') (h2 j x vs hj hv) fun b hb hlt=>hk b (fun e=>(hS0 b hb).1 (by rw [e];exact hob)) hlt
   exact entryT.mono a fun b _ hb=>(hS0 b hb).2
 ·have:(entL e u1 u2 u3++(vss.drop (i+1)).flatten).length+(vss.take i).flatten.length+tail.length=cap * 7:=by
   have e1:=congrArg List.length hf2;rw [hlen2] at e1;have hl':=hl;rw [show entryT.k=7 from rfl] at hl';have h31:=h3.1;rw [show entryT.k=7 from rfl] at h31;simp only [List.length_append] at e1 hl' ⊢;rw [h31] at hl';omega
  refine hg'.own hb hc hm (by simp only [List.length_append] at this ⊢;omega) ?_ hlen2;rw [<- hf2,<- hlen2,List.take_length]
theorem zr9 {W:World} {base i:Nat} {v:Value} {l:List Entry} {e:Entry} {u1 u2 u3:Value} {S S0 Sx:Nat->Prop} (h:OwnL entryT 37 W base S0 v l) (hi:i<=l.length) (he:EntAt W S e u1 u2 u3) (hS:∀ b,S b->¬ zae v b/\Sx b) (hS0:∀ b,S0 b->¬ zae v b/\Sx b) (hx:∀ b,zae v b->Sx b) (hnew:Sx W.heap.size) :
  ∃ xs,Own W base 37 7 v l.length xs/\(∀ u ∈ xs,u.oneCell'=true) /\
   ∀ (W':World) (v':Value),Own W' base 37 7 v' (l.length+1) (xs.take (i * 7)++entL e u1 u2 u3++xs.drop (i * 7))->Grew W W' v v'->Sl entryT W' Sx v' (l.take i++e :: l.drop i):=by
 obtain⟨vss,h1,h2,h3⟩:=h
 have h7:∀ x ∈ vss,x.length=7:=fun x hx=>by
  obtain⟨j,hj⟩:=List.getElem?_of_mem hx;have hjl:j < l.length:=by rw [<- h1];exact (List.getElem?_eq_some_iff.1 hj).1
  exact entryT.len (h2 j _ x (List.getElem?_eq_getElem hjl) hj)
 refine ⟨vss.flatten,h3,fun u hu=>?_,fun W' v' ho hg=>?_⟩
 ·obtain⟨x,hx,hu⟩:=List.mem_flatten.1 hu;obtain⟨j,hj⟩:=List.getElem?_of_mem hx;have hjl:j < l.length:=by rw [<- h1];exact (List.getElem?_eq_some_iff.1 hj).1
  exact entryT.one (h2 j _ x (List.getElem?_eq_getElem hjl) hj) u hu
 obtain⟨f1,f2⟩:=zwp h7 i (by omega);rw [f1,f2] at ho;refine zo7 (vss:=vss.take i++entL e u1 u2 u3 :: vss.drop i) (base:=base) (n:=l.length+1) (by simp [h1]) (fun j x vs hj hv=>?_) (by simp <;> omega) (by simpa using ho) (fun b hb=>(hg.blk b hb).elim (hx b) (fun h=>h ▸ hnew));have hli:(l.take i).length=i:=by simp;omega
 have hvi:(vss.take i).length=i:=by simp;omega
 have old:∀ k,l[k]? = some x->vss[k]? = some vs->entryT.rd W' Sx x vs:=fun k hk hvk=>by
  have a:=entryT.keep (w':=W') (h2 k x vs hk hvk) fun b hb hlt=>hg.same b hlt (hS0 b hb).1
  exact entryT.mono a fun b _ hb=>(hS0 b hb).2
 rcases Nat.lt_trichotomy j i with hji | rfl | hji
 ·rw [List.getElem?_append_left (by omega),List.getElem?_take_of_lt hji] at hj;rw [List.getElem?_append_left (by omega),List.getElem?_take_of_lt hji] at hv;exact old j hj hv
 ·rw [List.getElem?_append_right (by omega),hli,Nat.sub_self] at hj;rw [List.getElem?_append_right (by omega),hvi,Nat.sub_self] at hv;simp only [List.getElem?_cons_zero,Option.some.injEq] at hj hv;subst hj;subst hv;have a:=he.rd (S':=fun b=>S b/\b < W.heap.size) (fun b hb h=>⟨h,hb⟩);exact entryT.mono (entryT.keep (w':=W') a fun b hb hlt=>hg.same b hlt (hS b hb.1).1) fun b _ hb=>(hS b hb.1).2
 ·obtain⟨t,rfl⟩:∃ t,j=i+1+t:=⟨j - (i+1),by omega⟩
  rw [List.getElem?_append_right (by omega),hli,show i+1+t - i=t+1 by omega,List.getElem?_cons_succ,List.getElem?_drop] at hj;rw [List.getElem?_append_right (by omega),hvi,show i+1+t - i=t+1 by omega,List.getElem?_cons_succ,List.getElem?_drop] at hv;exact old (i+t) hj hv
end
section
open Go.RowKit Go.Shelf
theorem zh7 {S S':Nat->Prop} {va vb:Value} {A B:List (Mark)} {w:World} (ha:Sl markT w S va A) (hb:Sl markT w S' vb B) :
  Calls Tryz.prog 22 #[va,vb] w fun e w'=>e=.returned (.bool (decide (A=B)))/\Ext w w':=by
 have ha':=ha;have hb':=hb;obtain⟨Aa,ca,rfl,h1,h2⟩:=ha.form;obtain⟨Ab,cb,rfl,h3,h4⟩:=hb.form;clear ha hb
 by_cases hlen:A.length=B.length
 ·have HE:=zH hlen;have k0:((A.length:Int) != (B.length:Int))=false:=by simp [hlen]
  have k1:(A.length != B.length)=false:=by simp [hlen]
  have k2:((A.length:Int) == (B.length:Int))=true:=by simp [hlen]
  have HAT:=zH (fun (pre post:List (Mark)) (m:Mark) (wr:World) (h:Ext w wr) (hl:A=pre++m :: post)=>zct ha' h hl);have HBT:=zH (fun (pre post:List (Mark)) (m:Mark) (wr:World) (h:Ext w wr) (hl:B=pre++m :: post)=>zct hb' h hl);have hlb:A.length<=B.length:=by omega
  clear hlen ha' hb';go_enter Tryz.func22,Tryz.ntmps22;go_wp2_with fail;clear k0 k1 k2
  go_loopw [5] (fun i wr=>∃ pre pa pb,A=pre++pa/\B=pre++pb/\i=I pre.length/\Ext w wr) (fun i _=>A.length - (intOf i).toNat)
  case atStart=>exact⟨[],A,B,rfl,rfl,rfl,Ext.refl _⟩
  case round =>
   obtain⟨pre,pa,pb,hla,hlb2,rfl,hx⟩:=hrel;have hpp:pa.length=pb.length:=by have:=HE.out;rw [hla,hlb2] at this;simpa using this
   cases pa with
   | cons x pa =>
    cases pb with
    | nil=>simp at hpp
    | cons y pb =>
     obtain⟨b1,o1,rfl,hxa,hxb⟩:=HAT.out pre pa x wr hx hla;obtain⟨b2,o2,rfl,hya,hyb⟩:=HBT.out pre pb y wr hx hlb2;have hlt:pre.length < A.length:=(by rw [hla];simp);have hltb:pre.length < B.length:=(by rw [hlb2];simp);have HLA:=zH hla;have HLB:=zH hlb2;have HX:=zH hx;clear hla hlb2 hpp hx;have hgd:Tryz.prog.eqGuardType Tryz.prog.depth 25=false:=by kernel_rfl
     by_cases hxy:x=y
     ·subst hxy;have hne:=fun W=>zjr x x W
      simp only [decide_true,Bool.not_true] at hne;go_wp2_with fail;go_quiet (fail);go_wp2_with fail;go_roundw
      case rel=>exact⟨pre++[x],pa,pb,by rw [HLA.out];simp,by rw [HLB.out];simp,by simp,HX.out.drewN _⟩
      case measure=>simp [intOf];omega
     ·have hne:=fun W=>zjr x y W
      simp only [hxy,decide_false,Bool.not_false] at hne
      have HF:=zH (show decide (A=B)=false by rw [HLA.out,HLB.out];simp [hxy])
      clear hxy;go_wp2_with fail;go_quiet (fail);go_wp2_with fail;go_ret;exact⟨by rw [HF.out];rfl,HX.out.drewN _⟩
   | nil=>have hb0:pb = []:=List.eq_nil_of_length_eq_zero (by simpa using hpp.symm);subst hb0;rw [List.append_nil] at hla hlb2;have hl:A.length=pre.length:=(by rw [hla]);have HF:=zH (show decide (A=B)=true by rw [hla,hlb2];simp);have HX:=zH hx;clear hla hlb2 hpp hx;go_wp2_with fail;go_ret;exact⟨by rw [HF.out];rfl,HX.out⟩
 ·have HF:=zH (show decide (A=B)=false by simp;intro e;exact hlen (by rw [e]));have k0:((A.length:Int) != (B.length:Int))=true:=by simp;omega
  have k2:((A.length:Int) == (B.length:Int))=false:=by rw [beq_eq_false_iff_ne];omega
  clear ha' hb';go_enter Tryz.func22,Tryz.ntmps22;go_wp2_with fail;go_ret;exact⟨by rw [HF.out];rfl,Ext.refl _⟩
theorem zpx {S S':Nat->Prop} {va vb:Value} {A B:List (zad)} {w:World} (ha:Sl zbh w S va A) (hb:Sl zbh w S' vb B) :
  Calls Tryz.prog 67 #[va,vb] w fun e w'=>e=.returned (.bool (decide (A=B)))/\Ext w w':=by
 have ha':=ha;have hb':=hb;obtain⟨Aa,ca,rfl,h1,h2⟩:=ha.form;obtain⟨Ab,cb,rfl,h3,h4⟩:=hb.form;clear ha hb
 by_cases hlen:A.length=B.length
 ·have HE:=zH hlen;have k0:((A.length:Int) != (B.length:Int))=false:=by simp [hlen]
  have k1:(A.length != B.length)=false:=by simp [hlen]
  have k2:((A.length:Int) == (B.length:Int))=true:=by simp [hlen]
  have HAT:=zH (fun (pre post:List (zad)) (m:zad) (wr:World) (h:Ext w wr) (hl:A=pre++m :: post)=>zc9 ha' h hl);have HBT:=zH (fun (pre post:List (zad)) (m:zad) (wr:World) (h:Ext w wr) (hl:B=pre++m :: post)=>zc9 hb' h hl);have hlb:A.length<=B.length:=by omega
  clear hlen ha' hb';go_enter Tryz.func67,Tryz.ntmps67;go_wp2_with fail;clear k0 k1 k2
  go_loopw [5] (fun i wr=>∃ pre pa pb,A=pre++pa/\B=pre++pb/\i=I pre.length/\Ext w wr) (fun i _=>A.length - (intOf i).toNat)
  case atStart=>exact⟨[],A,B,rfl,rfl,rfl,Ext.refl _⟩
  case round =>
   obtain⟨pre,pa,pb,hla,hlb2,rfl,hx⟩:=hrel;have hpp:pa.length=pb.length:=by have:=HE.out;rw [hla,hlb2] at this;simpa using this
   cases pa with
   | cons x pa =>
    cases pb with
    | nil=>simp at hpp
    | cons y pb =>
     obtain⟨b1,o1,rfl,hxa,hxb,hxc⟩:=HAT.out pre pa x wr hx hla;obtain⟨b2,o2,rfl,hya,hyb,hyc⟩:=HBT.out pre pb y wr hx hlb2;have hlt:pre.length < A.length:=(by rw [hla];simp);have hltb:pre.length < B.length:=(by rw [hlb2];simp);have HLA:=zH hla;have HLB:=zH hlb2;have HX:=zH hx;clear hla hlb2 hpp hx;have hgd:Tryz.prog.eqGuardType Tryz.prog.depth 93=false:=by kernel_rfl
     by_cases hxy:x=y
     ·subst hxy;have hne:=fun W=>zim x x W
      simp only [decide_true,Bool.not_true] at hne;go_wp2_with fail;go_quiet (fail);go_wp2_with fail;go_roundw
      case rel=>exact⟨pre++[x],pa,pb,by rw [HLA.out];simp,by rw [HLB.out];simp,by simp,HX.out.drewN _⟩
      case measure=>simp [intOf];omega
     ·have hne:=fun W=>zim x y W
      simp only [hxy,decide_false,Bool.not_false] at hne
      have HF:=zH (show decide (A=B)=false by rw [HLA.out,HLB.out];simp [hxy])
      clear hxy;go_wp2_with fail;go_quiet (fail);go_wp2_with fail;go_ret;exact⟨by rw [HF.out];rfl,HX.out.drewN _⟩
   | nil=>have hb0:pb = []:=List.eq_nil_of_length_eq_zero (by simpa using hpp.symm);subst hb0;rw [List.append_nil] at hla hlb2;have hl:A.length=pre.length:=(by rw [hla]);have HF:=zH (show decide (A=B)=true by rw [hla,hlb2];simp);have HX:=zH hx;clear hla hlb2 hpp hx;go_wp2_with fail;go_ret;exact⟨by rw [HF.out];rfl,HX.out⟩
 ·have HF:=zH (show decide (A=B)=false by simp;intro e;exact hlen (by rw [e]));have k0:((A.length:Int) != (B.length:Int))=true:=by simp;omega
  have k2:((A.length:Int) == (B.length:Int))=false:=by rw [beq_eq_false_iff_ne];omega
  clear ha' hb';go_enter Tryz.func67,Tryz.ntmps67;go_wp2_with fail;go_ret;exact⟨by rw [HF.out];rfl,Ext.refl _⟩
theorem zsc {S S':Nat->Prop} {va vb:Value} {A B:List (Str)} {w:World} (ha:Sl strT w S va A) (hb:Sl strT w S' vb B) :
  Calls Tryz.prog 58 #[va,vb] w fun e w'=>e=.returned (.bool (decide (A=B)))/\Ext w w':=by
 have ha':=ha;have hb':=hb;obtain⟨Aa,ca,rfl,h1,h2⟩:=ha.form;obtain⟨Ab,cb,rfl,h3,h4⟩:=hb.form;clear ha hb
 by_cases hlen:A.length=B.length
 ·have HE:=zH hlen;have k0:((A.length:Int) != (B.length:Int))=false:=by simp [hlen]
  have k1:(A.length != B.length)=false:=by simp [hlen]
  have k2:((A.length:Int) == (B.length:Int))=true:=by simp [hlen]
  have HAT:=zH (fun (pre post:List (Str)) (m:Str) (wr:World) (h:Ext w wr) (hl:A=pre++m :: post)=>zdw ha' h hl);have HBT:=zH (fun (pre post:List (Str)) (m:Str) (wr:World) (h:Ext w wr) (hl:B=pre++m :: post)=>zdw hb' h hl);have hlb:A.length<=B.length:=by omega
  clear hlen ha' hb';go_enter Tryz.func58,Tryz.ntmps58;go_wp2_with fail;clear k0 k1 k2
  go_loopw [5] (fun i wr=>∃ pre pa pb,A=pre++pa/\B=pre++pb/\i=I pre.length/\Ext w wr) (fun i _=>A.length - (intOf i).toNat)
  case atStart=>exact⟨[],A,B,rfl,rfl,rfl,Ext.refl _⟩
  case round =>
   obtain⟨pre,pa,pb,hla,hlb2,rfl,hx⟩:=hrel;have hpp:pa.length=pb.length:=by have:=HE.out;rw [hla,hlb2] at this;simpa using this
   cases pa with
   | cons x pa =>
    cases pb with
    | nil=>simp at hpp
    | cons y pb =>
     obtain⟨b1,o1,rfl,hxa⟩:=HAT.out pre pa x wr hx hla;obtain⟨b2,o2,rfl,hya⟩:=HBT.out pre pb y wr hx hlb2;have hlt:pre.length < A.length:=(by rw [hla];simp);have hltb:pre.length < B.length:=(by rw [hlb2];simp);have HLA:=zH hla;have HLB:=zH hlb2;have HX:=zH hx;clear hla hlb2 hpp hx
     by_cases hxy:x=y
     ·subst hxy;go_wp2_with fail;go_quiet (fail);go_wp2_with fail;go_roundw
      case rel=>exact⟨pre++[x],pa,pb,by rw [HLA.out];simp,by rw [HLB.out];simp,by simp,HX.out.drewN _⟩
      case measure=>simp [intOf];omega
     ·have hne:(x == y)=false:=by simpa using hxy
      have HF:=zH (show decide (A=B)=false by rw [HLA.out,HLB.out];simp [hxy])
      clear hxy;go_wp2_with fail;go_quiet (fail);go_wp2_with fail;go_ret;exact⟨by rw [HF.out];rfl,HX.out.drewN _⟩
   | nil=>have hb0:pb = []:=List.eq_nil_of_length_eq_zero (by simpa using hpp.symm);subst hb0;rw [List.append_nil] at hla hlb2;have hl:A.length=pre.length:=(by rw [hla]);have HF:=zH (show decide (A=B)=true by rw [hla,hlb2];simp);have HX:=zH hx;clear hla hlb2 hpp hx;go_wp2_with fail;go_ret;exact⟨by rw [HF.out];rfl,HX.out⟩
 ·have HF:=zH (show decide (A=B)=false by simp;intro e;exact hlen (by rw [e]));have k0:((A.length:Int) != (B.length:Int))=true:=by simp;omega
  have k2:((A.length:Int) == (B.length:Int))=false:=by rw [beq_eq_false_iff_ne];omega
  clear ha' hb';go_enter Tryz.func58,Tryz.ntmps58;go_wp2_with fail;go_ret;exact⟨by rw [HF.out];rfl,Ext.refl _⟩
end
section
open Go.RowKit Go.Shelf
theorem zq4 {S S':Nat->Prop} {va vb:Value} {A B:List Item} {w:World} (ha:Sl itemT w S va A) (hb:Sl itemT w S' vb B) :
  Calls Tryz.prog 68 #[va,vb] w fun e w'=>e=.returned (.bool (decide (A=B)))/\Ext w w':=by
 have ha':=ha;have hb':=hb;obtain⟨Aa,ca,rfl,h1,h2⟩:=ha.form;obtain⟨Ab,cb,rfl,h3,h4⟩:=hb.form;clear ha hb
 by_cases hlen:A.length=B.length
 ·have HE:=zH hlen;have k0:((A.length:Int) != (B.length:Int))=false:=by simp [hlen]
  have k1:(A.length != B.length)=false:=by simp [hlen]
  have HAT:=zH (fun (pre post:List Item) (m:Item) (wr:World) (h:Ext w wr) (hl:A=pre++m :: post)=>zcu ha' h hl);have HBT:=zH (fun (pre post:List Item) (m:Item) (wr:World) (h:Ext w wr) (hl:B=pre++m :: post)=>zcu hb' h hl);clear hlen ha' hb';go_enter Tryz.func68,Tryz.ntmps68;go_wp2_with fail;clear k0 k1
  go_loopw [5] (fun i wr=>∃ pre pa pb,A=pre++pa/\B=pre++pb/\i=I pre.length/\Ext w wr) (fun i _=>A.length - (intOf i).toNat)
  case atStart=>exact⟨[],A,B,rfl,rfl,rfl,Ext.refl _⟩
  case round =>
   obtain⟨pre,pa,pb,hla,hlb2,rfl,hx⟩:=hrel;have hpp:pa.length=pb.length:=by have:=HE.out;rw [hla,hlb2] at this;simpa using this
   cases pa with
   | cons x pa =>
    cases pb with
    | nil=>simp at hpp
    | cons y pb =>
     obtain⟨b1,o1,u,rfl,x0,x1,hsu⟩:=HAT.out pre pa x wr hx hla;obtain⟨b2,o2,v,rfl,y0,y1,hsv⟩:=HBT.out pre pb y wr hx hlb2;have hsu':=hsu;have hsv':=hsv;obtain⟨U1,cu,rfl,hq1,hq2⟩:=hsu.form;obtain⟨V1,cv,rfl,hq3,hq4⟩:=hsv.form;have hlt:pre.length < A.length:=(by rw [hla];simp);have hltb:pre.length < B.length:=(by rw [hlb2];simp);have HLA:=zH hla;have HLB:=zH hlb2;have HX:=zH hx;have HIA:=zH (fun (p q:List Dot) (m:Dot) (wr:World) (h:Ext w wr) (hl:x.2=p++m :: q)=>zdv hsu' h hl);have HIB:=zH (fun (p q:List Dot) (m:Dot) (wr:World) (h:Ext w wr) (hl:y.2=p++m :: q)=>zdv hsv' h hl);clear hla hlb2 hpp hx hsu hsv hsu' hsv'
     by_cases hxy:x.1=y.1
     ·rw [hxy] at x0
      by_cases hll:x.2.length=y.2.length
      ·have HLL:=zH hll;have l0:((x.2.length:Int) != (y.2.length:Int))=false:=(by simp [hll]);have l1:(x.2.length != y.2.length)=false:=(by simp [hll]);have HXY:=zH hxy;clear hxy hll;go_wp2_with fail;go_quiet (fail);clear l0 l1;go_wp2_with fail;obtain⟨wo,rfl⟩:∃ wo:World,wo=wr:=⟨_,rfl⟩
       go_loopw [6] (fun j wr2=>∃ p2 qa qb,x.2=p2++qa/\y.2=p2++qb/\j=I p2.length/\Ext wo wr2) (fun j _=>x.2.length - (intOf j).toNat)
       case atStart=>exact⟨[],x.2,y.2,rfl,rfl,rfl,(Ext.refl _).drewN _⟩
       case round =>
        obtain⟨p2,qa,qb,hqa,hqb,rfl,hx2⟩:=hrel;have hpp:qa.length=qb.length:=(by have:=HLL.out;rw [hqa,hqb] at this;simpa using this);have z0:=hx2.cell x1;have z1:=hx2.cell y1
        cases qa with
        | cons d qa =>
         cases qb with
         | nil=>simp at hpp
         | cons e qb =>
          obtain⟨b3,o3,rfl,d0,d1⟩:=HIA.out p2 qa d wr (HX.out.trans hx2) hqa;obtain⟨b4,o4,rfl,e0,e1⟩:=HIB.out p2 qb e wr (HX.out.trans hx2) hqb;have hlt2:p2.length < x.2.length:=(by rw [hqa];simp);have hltb2:p2.length < y.2.length:=(by rw [hqb];simp);have HQA:=zH hqa;have HQB:=zH hqb;have HX2:=zH hx2;have hgd:Tryz.prog.eqGuardType Tryz.prog.depth 97=false:=(by kernel_rfl);clear hqa hqb hpp hx2 x0 x1 y0 y1
          by_cases hde:d=e
          ·subst hde;have hne:=fun W=>zlj d d W
           simp only [decide_true,Bool.not_true] at hne;go_wp2_with fail;go_quiet (fail);go_wp2_with fail;go_roundw
           case rel=>exact⟨p2++[d],qa,qb,by rw [HQA.out];simp,by rw [HQB.out];simp,by simp,HX2.out.drewN _⟩
           case measure=>simp [intOf];omega
          ·have hne:=fun W=>zlj d e W
           simp only [hde,decide_false,Bool.not_false] at hne
           have HF:=zH (show decide (A=B)=false by rw [decide_eq_false_iff_not,HLA.out,HLB.out];intro h;have h1:x=y:=(List.cons.inj (List.append_cancel_left h)).1;rw [h1,HQB.out] at HQA;exact hde (List.cons.inj (List.append_cancel_left HQA.out)).1.symm)
           clear hde;go_wp2_with fail;go_quiet (fail);go_wp2_with fail;go_ret;exact⟨by rw [HF.out];rfl,(HX.out.trans HX2.out).drewN _⟩
        | nil =>
         have hb0:qb = []:=List.eq_nil_of_length_eq_zero (by simpa using hpp.symm);subst hb0;rw [List.append_nil] at hqa hqb;have hl:x.2.length=p2.length:=(by rw [hqa]);have HXE:=zH (show x=y from Prod.ext HXY.out (hqa.trans hqb.symm));have HX2:=zH (HX.out.trans hx2);clear hqa hqb hpp hx2 x0 x1 y0 y1;go_wp2_with fail;go_roundw
         case rel=>exact⟨pre++[x],pa,pb,by rw [HLA.out];simp,by rw [HLB.out,HXE.out];simp,by simp,HX2.out⟩
         case measure=>simp [intOf];omega
      ·have l0:((x.2.length:Int) != (y.2.length:Int))=true:=by simp;omega
       have HF:=zH (show decide (A=B)=false by rw [decide_eq_false_iff_not,HLA.out,HLB.out];intro h;exact hll (by rw [(List.cons.inj (List.append_cancel_left h)).1]))
       clear hxy hll;go_wp2_with fail;go_quiet (fail);go_wp2_with fail;go_ret;exact⟨by rw [HF.out];rfl,HX.out.drewN _⟩
     ·have hb:(x.1 == y.1)=false:=by simpa using hxy
      have HF:=zH (show decide (A=B)=false by rw [decide_eq_false_iff_not,HLA.out,HLB.out];intro h;exact hxy (by rw [(List.cons.inj (List.append_cancel_left h)).1]))
      clear hxy;go_wp2_with fail;go_quiet (fail);go_wp2_with fail;go_ret;exact⟨by rw [HF.out];rfl,HX.out.drewN _⟩
   | nil=>have hb0:pb = []:=List.eq_nil_of_length_eq_zero (by simpa using hpp.symm);subst hb0;rw [List.append_nil] at hla hlb2;have hl:A.length=pre.length:=(by rw [hla]);have HF:=zH (show decide (A=B)=true by rw [hla,hlb2];simp);have HX:=zH hx;clear hla hlb2 hpp hx;go_wp2_with fail;go_ret;exact⟨by rw [HF.out];rfl,HX.out⟩
 ·have HF:=zH (show decide (A=B)=false by rw [decide_eq_false_iff_not];rintro rfl;exact hlen rfl);have k0:((A.length:Int) != (B.length:Int))=true:=by simp;omega
  clear ha' hb';go_enter Tryz.func68,Tryz.ntmps68;go_wp2_with fail;go_ret;exact⟨by rw [HF.out];rfl,Ext.refl _⟩
theorem zmb {S S':Nat->Prop} {a b:Entry} {a1 a2 a3 b1 b2 b3:Value} {w:World} (ha:EntAt w S a a1 a2 a3) (hb:EntAt w S' b b1 b2 b3) :
  Calls Tryz.prog 25 #[entV a a1 a2 a3,entV b b1 b2 b3] w fun e w'=>e=.returned (.bool (za8 a b))/\Ext w w':=by
 obtain⟨ak,ae,ac,ai,x1,x2,x3⟩:=a;obtain⟨bk,bs,bc,bi,y1,y2,y3⟩:=b;have HA:=zH ha;have HB:=zH hb;obtain⟨A1,n1,rfl,-,-⟩:=ha.seen.form;obtain⟨A2,n2,rfl,-,-⟩:=ha.counts.form;obtain⟨A3,n3,rfl,-,-⟩:=ha.items.form;obtain⟨B1,m1,rfl,-,-⟩:=hb.seen.form;obtain⟨B2,m2,rfl,-,-⟩:=hb.counts.form;obtain⟨B3,m3,rfl,-,-⟩:=hb.items.form;have hx:Ext w ((w.alloc (.cells #[St ak,.slice A1 ae.length n1,.slice A2 ac.length n2,.slice A3 ai.length n3,U x1,St x2,.bool x3] 37)).alloc (.cells #[St bk,.slice B1 bs.length m1,.slice B2 bc.length m2,.slice B3 bi.length m3,U y1,St y2,.bool y3] 37)):=((Ext.refl w).alloc _).alloc _;have rA:RowIs ((w.alloc (.cells #[St ak,.slice A1 ae.length n1,.slice A2 ac.length n2,.slice A3 ai.length n3,U x1,St x2,.bool x3] 37)).alloc (.cells #[St bk,.slice B1 bs.length m1,.slice B2 bc.length m2,.slice B3 bi.length m3,U y1,St y2,.bool y3] 37)) w.heap.size 37 [St ak,.slice A1 ae.length n1,.slice A2 ac.length n2,.slice A3 ai.length n3,U x1,St x2,.bool x3] []:=(zah w 37 [St ak,.slice A1 ae.length n1,.slice A2 ac.length n2,.slice A3 ai.length n3,U x1,St x2,.bool x3]).alloc _;have rB:RowIs ((w.alloc (.cells #[St ak,.slice A1 ae.length n1,.slice A2 ac.length n2,.slice A3 ai.length n3,U x1,St x2,.bool x3] 37)).alloc (.cells #[St bk,.slice B1 bs.length m1,.slice B2 bc.length m2,.slice B3 bi.length m3,U y1,St y2,.bool y3] 37)) (w.heap.size+1) 37 [St bk,.slice B1 bs.length m1,.slice B2 bc.length m2,.slice B3 bi.length m3,U y1,St y2,.bool y3] []:=by have h:=zah (w.alloc (.cells #[St ak,.slice A1 ae.length n1,.slice A2 ac.length n2,.slice A3 ai.length n3,U x1,St x2,.bool x3] 37)) 37 [St bk,.slice B1 bs.length m1,.slice B2 bc.length m2,.slice B3 bi.length m3,U y1,St y2,.bool y3];simp only [World.size_alloc] at h;exact h
 have H1:=zH (zh7 (HA.out.seen.ext (by decide) hx) (HB.out.seen.ext (by decide) hx));have hgd:Tryz.prog.eqGuardType Tryz.prog.depth 35=false:=by kernel_rfl
 clear ha hb
 by_cases hk:ak=bk
 ·subst hk;have c1:=rA.cell (j:=1) rfl;have d1:=rB.cell (j:=1) rfl;have HX:=zH hx;have RA:=zH rA;have RB:=zH rB;clear hx rA rB;go_enter Tryz.func25,Tryz.ntmps25;go_wp2_with fail;generalize ((w.alloc (.cells #[St ak,.slice A1 ae.length n1,.slice A2 ac.length n2,.slice A3 ai.length n3,U x1,St x2,.bool x3] 37)).alloc (.cells #[St ak,.slice B1 bs.length m1,.slice B2 bc.length m2,.slice B3 bi.length m3,U y1,St y2,.bool y3] 37))=W0 at *;refine H1.out.mono ?_;rintro r W1 ⟨rfl,hx1⟩;have hxw:=HX.out.trans hx1;have rA:=RA.out.ext hx1;have rB:=RB.out.ext hx1;clear H1 c1 d1 RA RB HX hx1
  by_cases h1:ae=bs
  ·have H2:=zH (zpx (HA.out.counts.ext (by decide) hxw) (HB.out.counts.ext (by decide) hxw));rw [decide_eq_true h1];have c2:=rA.cell (j:=2) rfl;have d2:=rB.cell (j:=2) rfl;have HX:=zH hxw;have RA:=zH rA;have RB:=zH rB;have HE1:=zH h1;clear hxw rA rB h1;go_wp2_with fail;refine H2.out.mono ?_;rintro r W2 ⟨rfl,hx1⟩;have hxw:=HX.out.trans hx1;have rA:=RA.out.ext hx1;have rB:=RB.out.ext hx1;clear H2 c2 d2 RA RB HX hx1
   by_cases h2:ac=bc
   ·have H3:=zH (zq4 (HA.out.items.ext (by decide) hxw) (HB.out.items.ext (by decide) hxw));rw [decide_eq_true h2];have c3:=rA.cell (j:=3) rfl;have d3:=rB.cell (j:=3) rfl;have HX:=zH hxw;have RA:=zH rA;have RB:=zH rB;have HE2:=zH h2;clear hxw rA rB h2;go_wp2_with fail;refine H3.out.mono ?_;rintro r W3 ⟨rfl,hx1⟩;have hxw:=HX.out.trans hx1;have rA:=RA.out.ext hx1;have rB:=RB.out.ext hx1;clear H3 c3 d3 RA RB HX hx1
    by_cases h3:ai=bi
    ·have hcell:=fun W=>zmr (x1,x2,x3) (y1,y2,y3) W
     rw [decide_eq_true h3];have c4:=rA.cell (j:=4) rfl;have d4:=rB.cell (j:=4) rfl;have c5:=rA.cell (j:=5) rfl;have d5:=rB.cell (j:=5) rfl;have c6:=rA.cell (j:=6) rfl;have d6:=rB.cell (j:=6) rfl;have HF:=zH (show za8 ⟨ak,ae,ac,ai,x1,x2,x3⟩ ⟨ak,bs,bc,bi,y1,y2,y3⟩=decide ((x1,x2,x3)=(y1,y2,y3)) by simp [za8,HE1.out,HE2.out,h3]);have HX:=zH hxw;generalize decide ((x1,x2,x3)=(y1,y2,y3))=z at *;clear hxw rA rB h3;go_wp2_with fail;go_ret;exact⟨by rw [HF.out];rfl,HX.out⟩
    ·have HF:=zH (show za8 ⟨ak,ae,ac,ai,x1,x2,x3⟩ ⟨ak,bs,bc,bi,y1,y2,y3⟩=false by simp [za8,h3]);rw [decide_eq_false h3];have HX:=zH hxw;clear hxw rA rB h3;go_wp2_with fail;go_ret;exact⟨by rw [HF.out];rfl,HX.out⟩
   ·have HF:=zH (show za8 ⟨ak,ae,ac,ai,x1,x2,x3⟩ ⟨ak,bs,bc,bi,y1,y2,y3⟩=false by simp [za8,h2]);rw [decide_eq_false h2];have HX:=zH hxw;clear hxw rA rB h2;go_wp2_with fail;go_ret;exact⟨by rw [HF.out];rfl,HX.out⟩
  ·have HF:=zH (show za8 ⟨ak,ae,ac,ai,x1,x2,x3⟩ ⟨ak,bs,bc,bi,y1,y2,y3⟩=false by simp [za8,h1]);rw [decide_eq_false h1];have HX:=zH hxw;clear hxw rA rB h1;go_wp2_with fail;go_ret;exact⟨by rw [HF.out];rfl,HX.out⟩
 ·have hkb:(ak == bk)=false:=by simpa using hk
  have HF:=zH (show za8 ⟨ak,ae,ac,ai,x1,x2,x3⟩ ⟨bk,bs,bc,bi,y1,y2,y3⟩=false by simp [za8,hk]);have HX:=zH hx;clear hx rA rB hk H1;go_enter Tryz.func25,Tryz.ntmps25;go_wp2_with fail;go_ret;exact⟨by rw [HF.out];rfl,HX.out⟩
end
section
open Go.RowKit Go.Shelf
def wB:List Item->Nat
 | []=>0
 | it :: r=>1+it.2.length+it.1.length / 64+wB r
theorem zky (a b:List Item):wB (a++b)=wB a+wB b:=by
 induction a with
 | nil=>simp [wB]
 | cons x r ih=>simp only [List.cons_append,wB,ih];omega
theorem zz0 (pre:List Item) (it:Item):wB (pre++[it])=wB pre+1+it.2.length+it.1.length / 64:=by rw [zky];simp [wB];omega
theorem zw0 (l:List Item):l.length<=wB l:=by
 induction l with
 | nil=>simp [wB]
 | cons x r ih=>simp only [List.length_cons,wB];omega
theorem zpe (l:List Item):(zac l).length<=wB l:=by
 induction l with
 | nil=>simp [wB,zac]
 | cons x r ih =>
  have h:zac (x :: r)=(x.2.map fun d=>(x.1,d))++zac r:=by simp [zac]
  rw [h,List.length_append,List.length_map,wB];omega
theorem yaf {l:List Item} {it:Item} (h:it ∈ l):1+it.2.length+it.1.length / 64<=wB l:=by
 obtain⟨a,b,rfl⟩:=List.append_of_mem h;rw [zky,wB];omega
structure RoomE (e:Entry):Prop where
 items:∀ it ∈ e.items,it.2.length<=140737488355328/\it.1.length<=140737488355328
 cell:e.cell.1 < 18446744073709551616
def zcb (e:Entry):Bool:=decide (1024 < e.key.length) || (decide (60 < e.seen.length) || (decide (60 < e.counts.length) || (decide (400 < wB e.items) || decide (8192 < e.cell.2.1.length))))
def zcl (s:State):Bool:=decide (60 < s.all.length) || (decide (20 < s.entries.length) || (decide (60 < s.pruned.length) || (s.entries.any zcb || s.pruned.any fun p=>decide (256 < p.length))))
theorem zof {e:Entry} (h:zcb e=false):SmallE e:=by
 simp only [zcb,Bool.or_eq_false_iff,decide_eq_false_iff_not,Nat.not_lt] at h;obtain⟨-,h2,h3,h4,-⟩:=h;have h5:=zw0 e.items;have h6:=zpe e.items;exact⟨by omega,by omega,by omega,fun it hit=>by have:=yaf hit;omega,by omega⟩
theorem zit {s:State} (h:zcl s=false):SmallS s:=by
 simp only [zcl,Bool.or_eq_false_iff,decide_eq_false_iff_not,Nat.not_lt] at h;obtain⟨h1,h2,h3,h4,-⟩:=h;refine ⟨by omega,by omega,by omega,fun e he=>zof ?_⟩
 cases hl:zcb e with
 | false=>rfl
 | true=>rw [List.any_eq_true.2 ⟨e,he,hl⟩] at h4;cases h4
theorem zue {S:Nat->Prop} {v:Value} {l:List zad} {w:World} (hv:Sl zbh w S v l) :
  Calls Tryz.prog 115 #[v] w fun r w'=>r=.returned (.bool (decide (60 < l.length)))/\w=w':=by
 obtain⟨A,c,rfl,-,-⟩:=hv.form;clear hv;go_enter Tryz.func115,Tryz.ntmps115
 by_cases h:60 < l.length
 ·have h1:(l.length:Int) > 60:=by omega
  go_wp2;go_ret;exact⟨by simp [h],rfl⟩
 ·have h1:¬ (l.length:Int) > 60:=by omega
  go_wp2;go_ret;exact⟨by simp [h],rfl⟩
theorem zse (c:Cell) (w:World) :
  Calls Tryz.prog 117 #[.agg #[U c.1,St c.2.1,.bool c.2.2]] w fun r w'=>r=.returned (.bool (decide (8192 < c.2.1.length)))/\Ext w w':=by
 obtain⟨x1,x2,x3⟩:=c
 by_cases h:8192 < x2.length
 ·have h1:(x2.length:Int) > 8192:=by omega
  have h2:decide ((8192:Int) < (x2.length:Int))=true:=decide_eq_true (by omega);go_enter Tryz.func117,Tryz.ntmps117;go_wp2;go_ret;exact⟨by simp [h],(Ext.refl _).alloc _⟩
 ·have h1:¬ (x2.length:Int) > 8192:=by omega
  have h2:decide ((8192:Int) < (x2.length:Int))=false:=decide_eq_false (by omega);go_enter Tryz.func117,Tryz.ntmps117;go_wp2;go_ret;exact⟨by simp [h],(Ext.refl _).alloc _⟩
theorem zsf {S:Nat->Prop} {v:Value} {l:List Item} {w:World} (hv:Sl itemT w S v l) (hr:∀ it ∈ l,it.2.length<=140737488355328/\it.1.length<=140737488355328) :
  Calls Tryz.prog 116 #[v] w fun r w'=>r=.returned (.bool (decide (400 < wB l)))/\Ext w w':=by
 have hv':=hv;obtain⟨A,c,rfl,hc1,hc2⟩:=hv.form;have HAT:=zH (fun (pre post:List Item) (m:Item) (wr:World) (h:Ext w wr) (hl:l=pre++m :: post)=>zcu hv' h hl);have HR:=zH hr;clear hv hv' hr;go_enter Tryz.func116,Tryz.ntmps116;go_wp2_with fail
 go_loopw [3,4] (fun n i wr=>∃ (pre post:List Item) (z:Nat),l=pre++post/\i=I pre.length/\n=I z/\Hid (z=wB pre)/\z<=562949953421312/\Ext w wr) (fun _ i _=>l.length - (intOf i).toNat)
 case atStart=>exact⟨[],l,0,rfl,rfl,rfl,zH rfl,by omega,Ext.refl _⟩
 case round =>
  obtain⟨pre,post,z,hl,rfl,rfl,hz,hzb,hx⟩:=hrel
  by_cases h400:z<=400
  ·have k4:(z:Int)<=400:=by omega
   cases post with
   | cons it post =>
    obtain⟨b,o,vd,rfl,e0,e1,hsl⟩:=HAT.out pre post it wr hx hl;obtain⟨hr1,hr2⟩:=HR.out it (by rw [hl];simp);obtain⟨D,dc,rfl,-,-⟩:=hsl.form;have hlt:pre.length < l.length:=(by rw [hl];simp);have HL:=zH hl;have HX:=zH hx;have HZ:=zH (show z+1+it.2.length+it.1.length / 64=wB (pre++[it]) by rw [zz0,hz.out]);have s1:IntKind.i64.wrap ((z:Int)+1)=(z:Int)+1:=IntWalk.i64_in _ (by omega);have s2:IntKind.i64.wrap ((z:Int)+1+(it.2.length:Int))=(z:Int)+1+(it.2.length:Int):=IntWalk.i64_in _ (by omega);have s3:(it.1.length:Int).tdiv 64=((it.1.length / 64:Nat):Int):=(by rw [Int.tdiv_eq_ediv_of_nonneg (by omega)];omega);have hdv:it.1.length / 64<=it.1.length:=Nat.div_le_self _ _;obtain⟨q,hq⟩:∃ q,it.1.length / 64=q:=⟨_,rfl⟩
    rw [hq] at s3 HZ hdv;have s4:IntKind.i64.wrap ((q:Int))=(q:Int):=IntWalk.i64_in _ (by omega);have s5:IntKind.i64.wrap ((z:Int)+1+(it.2.length:Int)+(q:Int))=(z:Int)+1+(it.2.length:Int)+(q:Int):=IntWalk.i64_in _ (by omega);clear hl hx hsl hz hq;go_wp2_with fail;go_quiet (fail);go_wp2_with fail;clear s1 s2 s3 s4 s5;go_roundw
    case rel=>exact⟨pre++[it],post,z+1+it.2.length+q,by rw [HL.out];simp,by simp,by simp,HZ,by omega,HX.out.drewN _⟩
    case measure=>simp [intOf];omega
   | nil=>rw [List.append_nil] at hl;have hln:l.length=pre.length:=(by rw [hl]);have HF:=zH (show decide (400 < wB l)=false by rw [hl,<- hz.out];simp;omega);have k5:¬ (z:Int) > 400:=(by omega);have HX:=zH hx;clear hl hx hz;go_wp2_with fail;go_ret;exact⟨by rw [HF.out];rfl,HX.out⟩
  ·have k4:¬ (z:Int)<=400:=(by omega);have k5:(z:Int) > 400:=(by omega);have HF:=zH (show decide (400 < wB l)=true by rw [hl,zky,<- hz.out];simp;omega);have HX:=zH hx;have k6:decide ((z:Int)<=400)=false:=decide_eq_false k4;have hlp:pre.length < l.length ∨ l.length=pre.length:=(by rw [hl,List.length_append];omega);clear hl hx hz;rcases hlp with hlp | hlp
   case' inl=>have hlq:decide ((pre.length:Int) < (l.length:Int))=true:=decide_eq_true (by omega)
   case' inr=>have hlq:decide ((pre.length:Int) < (l.length:Int))=false:=decide_eq_false (by omega)
   all_goals
    go_wp2_with fail;go_ret;exact⟨by rw [HF.out];rfl,HX.out⟩
end
section
open Go.RowKit Go.Shelf
theorem zjy {S S':Nat->Prop} {a b:State} {a1 a2 a3 b1 b2 b3:Value} {w:World} (ha:StAt w S a a1 a2 a3) (hb:StAt w S' b b1 b2 b3) :
  Calls Tryz.prog 16 #[stV a1 a2 a3,stV b1 b2 b3] w fun e w'=>e=.returned (.bool (zdb a b))/\Ext w w':=by
 obtain⟨sa,se,sp⟩:=a;obtain⟨ta,te,tp⟩:=b;have HA:=zH ha;have HB:=zH hb;obtain⟨A1,n1,rfl,-,-⟩:=ha.all.form;obtain⟨A2,n2,rfl,hz1,hz2⟩:=ha.entries.form;obtain⟨A3,n3,rfl,-,-⟩:=ha.pruned.form;obtain⟨B1,m1,rfl,-,-⟩:=hb.all.form;obtain⟨B2,m2,rfl,hz3,hz4⟩:=hb.entries.form;obtain⟨B3,m3,rfl,-,-⟩:=hb.pruned.form;have hx:Ext w ((w.alloc (.cells #[.slice A1 sa.length n1,.slice A2 se.length n2,.slice A3 sp.length n3] 30)).alloc (.cells #[.slice B1 ta.length m1,.slice B2 te.length m2,.slice B3 tp.length m3] 30)):=((Ext.refl w).alloc _).alloc _;have rA:RowIs ((w.alloc (.cells #[.slice A1 sa.length n1,.slice A2 se.length n2,.slice A3 sp.length n3] 30)).alloc (.cells #[.slice B1 ta.length m1,.slice B2 te.length m2,.slice B3 tp.length m3] 30)) w.heap.size 30 [.slice A1 sa.length n1,.slice A2 se.length n2,.slice A3 sp.length n3] []:=(zah w 30 [.slice A1 sa.length n1,.slice A2 se.length n2,.slice A3 sp.length n3]).alloc _;have rB:RowIs ((w.alloc (.cells #[.slice A1 sa.length n1,.slice A2 se.length n2,.slice A3 sp.length n3] 30)).alloc (.cells #[.slice B1 ta.length m1,.slice B2 te.length m2,.slice B3 tp.length m3] 30)) (w.heap.size+1) 30 [.slice B1 ta.length m1,.slice B2 te.length m2,.slice B3 tp.length m3] []:=by have h:=zah (w.alloc (.cells #[.slice A1 sa.length n1,.slice A2 se.length n2,.slice A3 sp.length n3] 30)) 30 [.slice B1 ta.length m1,.slice B2 te.length m2,.slice B3 tp.length m3];simp only [World.size_alloc] at h;exact h
 have H1:=zH (zh7 (HA.out.all.ext (by decide) hx) (HB.out.all.ext (by decide) hx));have hae:=HA.out.entries;have hbe:=HB.out.entries;have HAT:=zH (fun (pre post:List Entry) (m:Entry) (wr:World) (h:Ext w wr) (hl:se=pre++m :: post)=>zbq hae h hl);have HBT:=zH (fun (pre post:List Entry) (m:Entry) (wr:World) (h:Ext w wr) (hl:te=pre++m :: post)=>zbq hbe h hl);clear ha hb hae hbe;have c0:=rA.cell (j:=0) rfl;have d0:=rB.cell (j:=0) rfl;have HX:=zH hx;have RA:=zH rA;have RB:=zH rB;clear hx rA rB;go_enter Tryz.func16,Tryz.ntmps16;go_wp2_with fail;generalize ((w.alloc (.cells #[.slice A1 sa.length n1,.slice A2 se.length n2,.slice A3 sp.length n3] 30)).alloc (.cells #[.slice B1 ta.length m1,.slice B2 te.length m2,.slice B3 tp.length m3] 30))=W0 at *;refine H1.out.mono ?_;rintro r W1 ⟨rfl,hx1⟩;have hxw:=HX.out.trans hx1;have rA:=RA.out.ext hx1;have rB:=RB.out.ext hx1;clear H1 c0 d0 RA RB HX hx1;have HX:=zH hxw
 by_cases h1:sa=ta
 ·rw [decide_eq_true h1];have HE1:=zH h1;have c1:=rA.cell (j:=1) rfl;have d1:=rB.cell (j:=1) rfl
  by_cases hlen:se.length=te.length
  ·have k0:((se.length:Int) != (te.length:Int))=false:=(by simp [hlen]);have k1:(se.length != te.length)=false:=(by simp [hlen]);have HLEN:=zH hlen;have H2:=zH (zsc (HA.out.pruned.ext (by decide) hxw) (HB.out.pruned.ext (by decide) hxw));have c2:=rA.cell (j:=2) rfl;have d2:=rB.cell (j:=2) rfl;have RA:=zH rA;have RB:=zH rB;clear hxw rA rB h1 hlen;go_wp2_with fail;refine H2.out.mono ?_;rintro r W2 ⟨rfl,hx1⟩;have hxw:=HX.out.trans hx1;have rA:=RA.out.ext hx1;have rB:=RB.out.ext hx1;clear H2 c1 d1 c2 d2 k0 k1 RA RB HX hx1;have HX:=zH hxw
   by_cases h2:sp=tp
   ·rw [decide_eq_true h2];have HSS:=zH (show zdb ⟨sa,se,sp⟩ ⟨ta,te,tp⟩=zck se te by simp [zdb,HE1.out,h2]);have RA:=zH rA;have RB:=zH rB;clear hxw rA rB h2;go_wp2_with fail
    go_loopw [5] (fun i wr=>∃ pre pa pb,se=pre++pa/\te=pre++pb/\i=I pre.length/\Ext W2 wr) (fun i _=>se.length - (intOf i).toNat)
    case atStart=>exact⟨[],se,te,rfl,rfl,rfl,Ext.refl _⟩
    case round =>
     obtain⟨pre,pa,pb,hla,hlb2,rfl,hx2⟩:=hrel;have hpp:pa.length=pb.length:=(by have:=HLEN.out;rw [hla,hlb2] at this;simpa using this);have c1:=(RA.out.ext hx2).cell (j:=1) rfl;have d1:=(RB.out.ext hx2).cell (j:=1) rfl
     cases pa with
     | cons x pa =>
      cases pb with
      | nil=>simp at hpp
      | cons y pb =>
       have hxr:=HX.out.trans hx2;obtain⟨b1,o1,a1,a2,a3,rfl,p0,p1,p2,p3,p4,p5,p6,hsx⟩:=HAT.out pre pa x wr hxr hla;obtain⟨b2,o2,e1,e2,e3,rfl,q0,q1,q2,q3,q4,q5,q6,hsy⟩:=HBT.out pre pb y wr hxr hlb2;have hlt:pre.length < se.length:=(by rw [hla];simp);have hltb:pre.length < te.length:=(by rw [hlb2];simp);have HLA:=zH hla;have HLB:=zH hlb2;obtain⟨C1,c1',rfl,-,-⟩:=hsx.seen.form;obtain⟨C2,c2',rfl,-,-⟩:=hsx.counts.form;obtain⟨C3,c3',rfl,-,-⟩:=hsx.items.form;obtain⟨D1,d1',rfl,-,-⟩:=hsy.seen.form;obtain⟨D2,d2',rfl,-,-⟩:=hsy.counts.form;obtain⟨D3,d3',rfl,-,-⟩:=hsy.items.form;have HSM:=zH (show zck se te=(za8 x y && zck pa pb) by rw [hla,hlb2,zl7];rfl);have HIF:=zH (@sameE_iff x y);obtain⟨Wd,hWd⟩:∃ W,wr.drew=W:=⟨_,rfl⟩
       have hdr:Ext wr Wd:=(by rw [<- hWd];exact (Ext.refl wr).drew);have HC:=zH (zmb ((hsx.ext hxr).ext hdr) ((hsy.ext hxr).ext hdr));have HX2:=zH (hx2.trans hdr);have HWD:=zH hWd;clear hla hlb2 hpp hx2 hxr hsx hsy hWd;go_wp2_with fail;have r1:=hdr.cell c1;have s1:=hdr.cell d1;have p0':=hdr.cell p0;have q0':=hdr.cell q0;have p1':=hdr.cell p1;have q1':=hdr.cell q1;have p2':=hdr.cell p2;have q2':=hdr.cell q2;have p3':=hdr.cell p3;have q3':=hdr.cell q3;have p4':=hdr.cell p4;have q4':=hdr.cell q4;have p5':=hdr.cell p5;have q5':=hdr.cell q5;have p6':=hdr.cell p6;have q6':=hdr.cell q6;clear c1 d1 p0 p1 p2 p3 p4 p5 p6 q0 q1 q2 q3 q4 q5 q6 hdr;refine wp_region_still_tail 10 (by kernel_rfl) (by kernel_rfl) ?_;simp only [List.take_succ_cons,List.take_zero,List.drop_succ_cons,List.drop_zero];change wpStill _ _ wr.drew (fun a'=>wpList _ _ _ _ a' wr.drew) _ _;rw [HWD.out];clear HWD
       repeat still_step
       refine wpStill_nil ?_;go_wp2_with fail;refine HC.out.mono ?_;rintro r W3 ⟨rfl,hx3⟩;have HX3:=zH (HX2.out.trans hx3);clear HC hx3
       cases hxy:za8 x y with
       | true =>
        obtain rfl:=HIF.out.1 hxy;clear hxy;go_wp2_with fail;go_roundw
        case rel=>exact⟨pre++[x],pa,pb,by rw [HLA.out];simp,by rw [HLB.out];simp,by simp,HX3.out⟩
        case measure=>simp [intOf];omega
       | false=>rw [hxy] at HSM;clear hxy;go_wp2_with fail;go_ret;exact⟨by rw [HSS.out,HSM.out];rfl,HX.out.trans HX3.out⟩
     | nil=>have hb0:pb = []:=List.eq_nil_of_length_eq_zero (by simpa using hpp.symm);subst hb0;rw [List.append_nil] at hla hlb2;have hl:se.length=pre.length:=(by rw [hla]);have HF:=zH (show zdb ⟨sa,se,sp⟩ ⟨ta,te,tp⟩=true by rw [HSS.out,hla,hlb2];exact sameEs_iff.2 rfl);have HX2:=zH (HX.out.trans hx2);clear hla hlb2 hpp hx2;go_wp2_with fail;go_ret;exact⟨by rw [HF.out];rfl,HX2.out⟩
   ·have HF:=zH (show zdb ⟨sa,se,sp⟩ ⟨ta,te,tp⟩=false by simp [zdb,h2]);rw [decide_eq_false h2];clear hxw rA rB h2;go_wp2_with fail;go_ret;exact⟨by rw [HF.out];rfl,HX.out⟩
  ·have k0:((se.length:Int) != (te.length:Int))=true:=(by simp;omega);have HF:=zH (show zdb ⟨sa,se,sp⟩ ⟨ta,te,tp⟩=false by simp [zdb,zni hlen]);clear hxw rA rB h1 hlen;go_wp2_with fail;go_ret;exact⟨by rw [HF.out];rfl,HX.out⟩
 ·have HF:=zH (show zdb ⟨sa,se,sp⟩ ⟨ta,te,tp⟩=false by simp [zdb,h1]);rw [decide_eq_false h1];clear hxw rA rB h1;go_wp2_with fail;go_ret;exact⟨by rw [HF.out];rfl,HX.out⟩
end
section
open Go.RowKit Go.Shelf
theorem zsg {S:Nat->Prop} {a:Entry} {a1 a2 a3:Value} {w:World} (ha:EntAt w S a a1 a2 a3) (hr:RoomE a) :
  Calls Tryz.prog 63 #[entV a a1 a2 a3] w fun r w'=>r=.returned (.bool (zcb a))/\Ext w w':=by
 obtain⟨ak,ae,ac,ai,x1,x2,x3⟩:=a;have HA:=zH ha;have HR:=zH hr;obtain⟨A1,n1,rfl,-,-⟩:=ha.seen.form;obtain⟨A2,n2,rfl,-,-⟩:=ha.counts.form;obtain⟨A3,n3,rfl,-,-⟩:=ha.items.form;have hx:=(Ext.refl w).alloc (.cells #[St ak,.slice A1 ae.length n1,.slice A2 ac.length n2,.slice A3 ai.length n3,U x1,St x2,.bool x3] 37);have rA:=zah w 37 [St ak,.slice A1 ae.length n1,.slice A2 ac.length n2,.slice A3 ai.length n3,U x1,St x2,.bool x3];clear ha hr
 by_cases h1:1024 < ak.length
 ·have k1:decide ((1024:Int) < (ak.length:Int))=true:=decide_eq_true (by omega);have k2:(ak.length:Int) > 1024:=by omega
  have HF:=zH (show zcb ⟨ak,ae,ac,ai,x1,x2,x3⟩=true by simp [zcb,h1]);have HX:=zH hx;clear hx rA h1;go_enter Tryz.func63,Tryz.ntmps63;go_wp2_with fail;go_ret;exact⟨by rw [HF.out];rfl,HX.out⟩
 ·have k1:decide ((1024:Int) < (ak.length:Int))=false:=decide_eq_false (by omega);have k2:¬ (ak.length:Int) > 1024:=by omega
  by_cases h2:60 < ae.length
  ·have k3:(ae.length:Int) > 60:=(by omega);have HF:=zH (show zcb ⟨ak,ae,ac,ai,x1,x2,x3⟩=true by simp [zcb,h2]);have HX:=zH hx;clear hx rA h1 h2;go_enter Tryz.func63,Tryz.ntmps63;go_wp2_with fail;go_ret;exact⟨by rw [HF.out];rfl,HX.out⟩
  ·have k3:¬ (ae.length:Int) > 60:=(by omega);have H1:=zH (zue (HA.out.counts.ext (by decide) hx));have H2:=zH (zsf (HA.out.items.ext (by decide) hx) HR.out.items);have HL0:=zH (show zcb ⟨ak,ae,ac,ai,x1,x2,x3⟩=(decide (60 < ac.length) || (decide (400 < wB ai) || decide (8192 < x2.length))) by simp [zcb,h1,h2]);have c1:=rA.cell (j:=1) rfl;have c2:=rA.cell (j:=2) rfl;have c3:=rA.cell (j:=3) rfl;have HX:=zH hx;have RA:=zH rA;clear hx rA h1 h2;go_enter Tryz.func63,Tryz.ntmps63;go_wp2_with fail;generalize w.alloc (.cells #[St ak,.slice A1 ae.length n1,.slice A2 ac.length n2,.slice A3 ai.length n3,U x1,St x2,.bool x3] 37)=W0 at *;refine H1.out.mono ?_;rintro r W1 ⟨rfl,rfl⟩
   cases h3:decide (60 < ac.length) with
   | true=>have HF:=zH (show zcb ⟨ak,ae,ac,ai,x1,x2,x3⟩=true by rw [HL0.out,h3];rfl);clear h3;go_wp2_with fail;go_ret;exact⟨by rw [HF.out];rfl,HX.out⟩
   | false =>
    rw [h3] at HL0;clear h3;go_wp2_with fail;refine H2.out.mono ?_;rintro r W1 ⟨rfl,hx1⟩;have rA:=RA.out.ext hx1;have HX1:=zH (HX.out.trans hx1);have d4:=rA.cell (j:=4) rfl;have d5:=rA.cell (j:=5) rfl;have d6:=rA.cell (j:=6) rfl;clear c1 c2 c3 hx1 rA RA H1 H2
    cases h4:decide (400 < wB ai) with
    | true=>have HF:=zH (show zcb ⟨ak,ae,ac,ai,x1,x2,x3⟩=true by rw [HL0.out,h4];rfl);clear h4;go_wp2_with fail;go_ret;exact⟨by rw [HF.out];rfl,HX1.out⟩
    | false=>have HF:=zH (show zcb ⟨ak,ae,ac,ai,x1,x2,x3⟩=decide (8192 < x2.length) by rw [HL0.out,h4];rfl);clear h4;go_wp2_with fail;refine (zse (x1,x2,x3) _).mono ?_;rintro r W3 ⟨rfl,hx3⟩;generalize decide (8192 < x2.length)=z at *;go_wp2_with fail;go_ret;exact⟨by rw [HF.out];rfl,HX1.out.trans hx3⟩
theorem zmc {S:Nat->Prop} {s:State} {a1 a2 a3:Value} {w:World} (ha:StAt w S s a1 a2 a3) (hr:∀ e ∈ s.entries,RoomE e) :
  Calls Tryz.prog 19 #[stV a1 a2 a3] w fun r w'=>r=.returned (.bool (zcl s))/\Ext w w':=by
 obtain⟨sa,se,sp⟩:=s;have HR:=zH (show ∀ e ∈ se,RoomE e from hr);obtain⟨A1,n1,rfl,-,-⟩:=ha.all.form;obtain⟨A2,n2,rfl,hz1,hz2⟩:=ha.entries.form;obtain⟨A3,n3,rfl,hz3,hz4⟩:=ha.pruned.form;have hae:=ha.entries;have hap:=ha.pruned;have HAT:=zH (fun (pre post:List Entry) (m:Entry) (wr:World) (h:Ext w wr) (hl:se=pre++m :: post)=>zbq hae h hl);have HPT:=zH (fun (pre post:List Str) (m:Str) (wr:World) (h:Ext w wr) (hl:sp=pre++m :: post)=>zdw hap h hl);have hx:=(Ext.refl w).alloc (.cells #[.slice A1 sa.length n1,.slice A2 se.length n2,.slice A3 sp.length n3] 30);have rA:=zah w 30 [.slice A1 sa.length n1,.slice A2 se.length n2,.slice A3 sp.length n3];clear ha hr hae hap
 by_cases h1:60 < sa.length
 ·have k1:(sa.length:Int) > 60:=by omega
  have HF:=zH (show zcl ⟨sa,se,sp⟩=true by simp [zcl,h1]);have HX:=zH hx;clear hx rA h1;go_enter Tryz.func19,Tryz.ntmps19;go_wp2_with fail;go_ret;exact⟨by rw [HF.out];rfl,HX.out⟩
 ·have k1:¬ (sa.length:Int) > 60:=by omega
  by_cases h2:20 < se.length
  ·have k2:(se.length:Int) > 20:=(by omega);have HF:=zH (show zcl ⟨sa,se,sp⟩=true by simp [zcl,h2]);have HX:=zH hx;clear hx rA h1 h2;go_enter Tryz.func19,Tryz.ntmps19;go_wp2_with fail;go_ret;exact⟨by rw [HF.out];rfl,HX.out⟩
  ·have k2:¬ (se.length:Int) > 20:=by omega
   by_cases h3:60 < sp.length
   ·have k3:(sp.length:Int) > 60:=(by omega);have HF:=zH (show zcl ⟨sa,se,sp⟩=true by simp [zcl,h3]);have HX:=zH hx;clear hx rA h1 h2 h3;go_enter Tryz.func19,Tryz.ntmps19;go_wp2_with fail;go_ret;exact⟨by rw [HF.out];rfl,HX.out⟩
   ·have k3:¬ (sp.length:Int) > 60:=(by omega);have HL0:=zH (show zcl ⟨sa,se,sp⟩=(se.any zcb || sp.any fun p=>decide (256 < p.length)) by simp [zcl,h1,h2,h3]);have RA:=zH rA;have HX:=zH hx;clear hx rA h1 h2 h3;go_enter Tryz.func19,Tryz.ntmps19;go_wp2_with fail;generalize w.alloc (.cells #[.slice A1 sa.length n1,.slice A2 se.length n2,.slice A3 sp.length n3] 30)=W0 at *;clear k1 k2 k3
    go_loopw [3] (fun i wr=>∃ pre post,se=pre++post/\i=I pre.length/\Hid (pre.any zcb=false)/\Ext W0 wr) (fun i _=>se.length - (intOf i).toNat)
    case atStart=>exact⟨[],se,rfl,rfl,zH rfl,Ext.refl _⟩
    case round =>
     obtain⟨pre,post,hl,rfl,hno,hx⟩:=hrel;have c1:=(RA.out.ext hx).cell (j:=1) rfl
     cases post with
     | cons m post =>
      have hxr:=HX.out.trans hx;obtain⟨b,o,e1,e2,e3,rfl,p0,p1,p2,p3,p4,p5,p6,hsx⟩:=HAT.out pre post m wr hxr hl;have hlt:pre.length < se.length:=(by rw [hl];simp);have HC:=zH (zsg (hsx.ext hxr) (HR.out m (by rw [hl];simp)));have HL:=zH hl;obtain⟨C1,c1',rfl,-,-⟩:=hsx.seen.form;obtain⟨C2,c2',rfl,-,-⟩:=hsx.counts.form;obtain⟨C3,c3',rfl,-,-⟩:=hsx.items.form;have HX2:=zH hx;clear hl hsx hxr hx;go_wp2_with fail;refine HC.out.mono ?_;rintro r W2 ⟨rfl,hx2⟩;have HX3:=zH (HX2.out.trans hx2);clear hx2 HC c1 p0 p1 p2 p3 p4 p5 p6
      cases hm:zcb m with
      | true=>have HF:=zH (show zcl ⟨sa,se,sp⟩=true by rw [HL0.out,HL.out];simp [hm]);clear hm;go_wp2_with fail;go_ret;exact⟨by rw [HF.out];rfl,HX.out.trans HX3.out⟩
      | false =>
       have HN:=zH (show (pre++[m]).any zcb=false by rw [List.any_append,hno.out];simp [hm]);clear hm;go_wp2_with fail;go_roundw
       case rel=>exact⟨pre++[m],post,by rw [HL.out];simp,by simp,HN,HX3.out⟩
       case measure=>simp [intOf];omega
     | nil =>
      rw [List.append_nil] at hl;have hln:se.length=pre.length:=(by rw [hl]);have HL1:=zH (show zcl ⟨sa,se,sp⟩=sp.any fun p=>decide (256 < p.length) by rw [HL0.out,hl,hno.out];rfl);have HX2:=zH hx;clear hl hx hno;go_wp2_with fail;obtain⟨wo,rfl⟩:∃ wo:World,wo=wr:=⟨_,rfl⟩
      clear c1
      go_loopw [4] (fun i wr=>∃ pre post,sp=pre++post/\i=I pre.length/\Hid ((pre.any fun p=>decide (256 < p.length))=false)/\Ext W0 wr) (fun i _=>sp.length - (intOf i).toNat)
      case atStart=>exact⟨[],sp,rfl,rfl,zH rfl,HX2.out⟩
      case round =>
       obtain⟨p2,q2,hl2,rfl,hno2,hx2⟩:=hrel;have c2:=(RA.out.ext hx2).cell (j:=2) rfl
       cases q2 with
       | cons p q2 =>
        obtain⟨b,o,rfl,e0⟩:=HPT.out p2 q2 p wr (HX.out.trans hx2) hl2;have hlt2:p2.length < sp.length:=(by rw [hl2];simp);have HL2:=zH hl2;have HX3:=zH hx2;clear hl2 hx2
        by_cases hp:256 < p.length
        ·have k1:decide ((256:Int) < (p.length:Int))=true:=decide_eq_true (by omega);have k2:(p.length:Int) > 256:=(by omega);have HF:=zH (show zcl ⟨sa,se,sp⟩=true by rw [HL1.out,HL2.out];simp [hp]);clear hp;go_wp2_with fail;go_ret;exact⟨by rw [HF.out];rfl,HX.out.trans HX3.out⟩
        ·have k1:decide ((256:Int) < (p.length:Int))=false:=decide_eq_false (by omega);have k2:¬ (p.length:Int) > 256:=(by omega);have HN:=zH (show ((p2++[p]).any fun p=>decide (256 < p.length))=false by rw [List.any_append,hno2.out];simp;omega);clear hp;go_wp2_with fail;go_roundw
         case rel=>exact⟨p2++[p],q2,by rw [HL2.out];simp,by simp,HN,HX3.out⟩
         case measure=>simp [intOf];omega
       | nil=>rw [List.append_nil] at hl2;have hln2:sp.length=p2.length:=(by rw [hl2]);have HF:=zH (show zcl ⟨sa,se,sp⟩=false by rw [HL1.out,hl2,hno2.out]);have HX3:=zH (HX.out.trans hx2);clear hl2 hx2 hno2;go_wp2_with fail;go_ret;exact⟨by rw [HF.out];rfl,HX3.out⟩
end
section
open Go.RowKit Go.Shelf
theorem zh8 {α:Type} {k:Nat} {enc:α->List Value} {hk:∀ x,(enc x).length=k} {h1:∀ x,∀ u ∈ enc x,u.oneCell'=true} {w:World} {S:Nat->Prop} {A:Option Addr} {n c:Nat} {l:List α} (h:Sl (flat k enc hk h1) w S (.slice A n c) l):Src w k A l.length (l.flatMap enc):=by
 obtain⟨vss,g1,g2,g3⟩:=h.src
 have:vss=l.map enc:=by
  refine List.ext_getElem? fun i=>?_
  rw [List.getElem?_map]
  cases hl:l[i]? with
  | none=>rw [List.getElem?_eq_none_iff] at hl;exact List.getElem?_eq_none_iff.2 (by omega)
  | some x =>
   cases hv:vss[i]? with
   | none=>rw [List.getElem?_eq_none_iff] at hv;have:=(List.getElem?_eq_some_iff.1 hl).1;omega
   | some vs=>simp only [Option.map_some];congr 1;exact g2 i x vs hl hv
 subst this;rw [<- List.flatMap_def] at g3;exact g3
theorem zk1 {S1 S2:Nat->Prop} {a b:List Mark} {va vb:Value} {w:World} (ha:Sl markT w S1 va a) (hb:Sl markT w S2 vb b) (la:a.length<=400000) (lb:b.length<=400000) :
  Calls Tryz.prog 71 #[va,vb] w fun e w'=>∃ v',e=.returned v'/\Own w' w.heap.size 25 2 v' (za0 (a++b)).length ((za0 (a++b)).flatMap zag)/\Ext w w':=by
 obtain⟨A,c,rfl,-,-⟩:=ha.form;obtain⟨B,d,rfl,-,-⟩:=hb.form;have HA:=zH (zh8 ha);have HB:=zH (zh8 hb);clear ha hb;go_enter Tryz.func71,Tryz.ntmps71
 go_wp2_with (at_builtin;first | (refine zab rfl (.tmp 5) (.tmp 6) 26 rfl w.heap.size 25 2 24 (.agg #[St [],U 0]) Tryz.underlying26 zcj rfl (by omega) _ 0 [] rfl (Own.nil _ _ _ _ _) A a.length c (a.flatMap zag) rfl (HA.out.ext ((Ext.refl w).alloc _)) (by omega) (by omega) (by simp) ?_;intro v1 w1 hown1 hgr1;have hx1:=Ext.grewOwn ((Ext.refl w).alloc _) hgr1 (Own.nil _ w.heap.size 25 2 _) (Nat.le_refl _);have HO1:=zH hown1;have HX1:=zH hx1;have hz1:=hx1.size;clear hown1 hgr1 hx1) | (refine zab rfl (.tmp 7) (.tmp 8) 26 rfl w.heap.size 25 2 24 (.agg #[St [],U 0]) Tryz.underlying26 zcj rfl (by omega) v1 (0+a.length) ([]++a.flatMap zag) rfl HO1.out B b.length d (b.flatMap zag) rfl (HB.out.ext HX1.out) (by omega) (by omega) (by omega) ?_;intro v2 w2 hown2 hgr2;have hx2:=Ext.grewOwn HX1.out hgr2 HO1.out (Nat.le_refl _);rw [Nat.zero_add,List.nil_append,<- List.flatMap_append,<- List.length_append] at hown2;have HO2:=zH hown2;have HX2:=zH hx2;have hz2:=hx2.size;clear hown2 hgr2 hx2))
 refine (zgd (zax HO2.out) (by simp;omega)).mono ?_;rintro r w3 ⟨v',rfl,ho,hx3⟩;go_wp2_with fail;go_ret;exact⟨v',rfl,ho.lower hz2,HX2.out.trans hx3⟩
theorem zj1 {S:Nat->Prop} {l:List Mark} {v:Value} {w:World} (h:Sl markT w S v l) (d:Dot) :
  Calls Tryz.prog 130 #[v,dotV d] w fun e w'=>e=.returned (.bool (hasM l d))/\Ext w w':=by
 obtain⟨A,c,rfl,-,-⟩:=h.form;obtain⟨s,n⟩:=d;have hx:=((Ext.refl w).alloc (.cells #[St s,U n] 97)).drew;have HH:=zH (show hasM l (s,n)=(decide (1<=n) && decide (n<=ofM l s)) from rfl);obtain⟨Wd,hWd⟩:∃ W,(w.alloc (.cells #[St s,U n] 97)).drew=W:=⟨_,rfl⟩
 rw [hWd] at hx;have hr:=(((zah w 97 [St s,U n])).ext ((Ext.refl _).drew))
 rw [hWd] at hr;have c0:=hr.cell (j:=0) rfl;have c1:=hr.cell (j:=1) rfl;have HWD:=zH hWd;have HO:=zH (zd9 s (h.ext (by decide) hx));have HX:=zH hx;clear h hx hr hWd;generalize ofM l s=z at HH HO
 by_cases h1:1<=n
 ·have h2:(n:Int) ≥ 1:=by omega
  by_cases h3:n<=z
  ·have h4:(n:Int)<=(z:Int):=(by omega);go_enter Tryz.func130,Tryz.ntmps130;go_wp2_with fail;refine wp_region_still_tail 12 (by kernel_rfl) (by kernel_rfl) ?_;simp only [List.take_succ_cons,List.take_zero,List.drop_succ_cons,List.drop_zero];change wpStill _ _ (w.alloc (.cells #[St s,U n] 97)).drew (fun a'=>wpList _ _ _ _ a' (w.alloc (.cells #[St s,U n] 97)).drew) _ _;rw [HWD.out];generalize hA:Act.mk _ _=A0;repeat (refine wpStill_step (fun K2 hK2=>?_);subst hA;go_simp;(try rw [if_neg (by decide)]);generalize hA:Act.mk _ _=A0;refine hK2 A0 ?_;clear hK2 K2)
   refine wpStill_step (fun K2 hK2=>?_);subst hA;go_simp;refine ⟨_,(HO.out.mono fun e w' h=>⟨h.1,h.2.symm⟩),?_⟩;generalize hA:Act.mk _ _=A0;refine hK2 A0 ?_;clear hK2 K2
   repeat (refine wpStill_step (fun K2 hK2=>?_);subst hA;go_simp;(try rw [if_neg (by decide)]);generalize hA:Act.mk _ _=A0;refine hK2 A0 ?_;clear hK2 K2)
   refine wpStill_nil ?_;subst hA;go_wp2_with fail;go_ret;exact⟨by rw [HH.out];simp [h1,h3],HX.out⟩
  ·have h4:decide ((n:Int)<=(z:Int))=false:=(by simp;omega);go_enter Tryz.func130,Tryz.ntmps130;go_wp2_with fail;refine wp_region_still_tail 12 (by kernel_rfl) (by kernel_rfl) ?_;simp only [List.take_succ_cons,List.take_zero,List.drop_succ_cons,List.drop_zero];change wpStill _ _ (w.alloc (.cells #[St s,U n] 97)).drew (fun a'=>wpList _ _ _ _ a' (w.alloc (.cells #[St s,U n] 97)).drew) _ _;rw [HWD.out];generalize hA:Act.mk _ _=A0;repeat (refine wpStill_step (fun K2 hK2=>?_);subst hA;go_simp;(try rw [if_neg (by decide)]);generalize hA:Act.mk _ _=A0;refine hK2 A0 ?_;clear hK2 K2)
   refine wpStill_step (fun K2 hK2=>?_);subst hA;go_simp;refine ⟨_,(HO.out.mono fun e w' h=>⟨h.1,h.2.symm⟩),?_⟩;generalize hA:Act.mk _ _=A0;refine hK2 A0 ?_;clear hK2 K2
   repeat (refine wpStill_step (fun K2 hK2=>?_);subst hA;go_simp;(try rw [if_neg (by decide)]);generalize hA:Act.mk _ _=A0;refine hK2 A0 ?_;clear hK2 K2)
   refine wpStill_nil ?_;subst hA;go_wp2_with fail;go_ret;exact⟨by rw [HH.out];simp [h1,h3],HX.out⟩
 ·have h2:decide ((1:Int)<=(n:Int))=false:=by simp;omega
  go_enter Tryz.func130,Tryz.ntmps130;go_wp2_with fail;refine wp_region_still_tail 12 (by kernel_rfl) (by kernel_rfl) ?_;simp only [List.take_succ_cons,List.take_zero,List.drop_succ_cons,List.drop_zero];change wpStill _ _ (w.alloc (.cells #[St s,U n] 97)).drew (fun a'=>wpList _ _ _ _ a' (w.alloc (.cells #[St s,U n] 97)).drew) _ _;rw [HWD.out];generalize hA:Act.mk _ _=A0;repeat (refine wpStill_step (fun K2 hK2=>?_);subst hA;go_simp;(try rw [if_neg (by decide)]);generalize hA:Act.mk _ _=A0;refine hK2 A0 ?_;clear hK2 K2)
  refine wpStill_nil ?_;subst hA;go_wp2_with fail;go_ret;exact⟨by rw [HH.out];simp [h1],HX.out⟩
theorem zmf (a b:Dot) (w:World) :
  Calls Tryz.prog 206 #[dotV a,dotV b] w fun e w'=>e=.returned (I (cmpD a b))/\Ext w w':=by
 obtain⟨a1,a2⟩:=a;obtain⟨b1,b2⟩:=b;have HS:=zH (show cmpD (a1,a2) (b1,b2)=orI (cmpS a1 b1) (cmpN a2 b2) from rfl);have hx:Ext w ((w.alloc (.cells #[St a1,U a2] 97)).alloc (.cells #[St b1,U b2] 97)):=((Ext.refl w).alloc _).alloc _;rcases zci a1 b1 with ⟨h1,h2,h3,h4,h5⟩ | rfl | ⟨h1,h2,h3,h4,h5⟩
 ·go_enter Tryz.func206,Tryz.ntmps206;go_wp2;go_ret;exact⟨by rw [HS.out];simp [cmpS,orI,h1],hx⟩
 ·have h1:=zal a1;rcases Nat.lt_trichotomy a2 b2 with h2 | rfl | h2
  ·have h3:(a2:Int) < b2:=(by omega);go_enter Tryz.func206,Tryz.ntmps206;go_wp2;go_ret;exact⟨by rw [HS.out];simp [cmpS,orI,cmpN,h1,h2],hx⟩
  ·go_enter Tryz.func206,Tryz.ntmps206;go_wp2;go_ret;exact⟨by rw [HS.out];simp [cmpS,orI,cmpN,h1],hx⟩
  ·have h3:¬ (a2:Int) < b2:=(by omega);have h4:((a2:Int) == b2)=false:=(by rw [beq_eq_false_iff_ne];omega);go_enter Tryz.func206,Tryz.ntmps206;go_wp2;go_ret;exact⟨by rw [HS.out];simp [cmpS,orI,cmpN,h1,h2,Nat.not_lt.2 (Nat.le_of_lt h2)],hx⟩
 ·go_enter Tryz.func206,Tryz.ntmps206;go_wp2;go_ret;exact⟨by rw [HS.out];simp [cmpS,orI,h1,h3],hx⟩
theorem zuh (a b:Cell):(a.1 < b.1) ∨ (b.1 < a.1) ∨ (a.1=b.1/\a.2.2 ≠ b.2.2) ∨ (a.1=b.1/\a.2.2=b.2.2/\ltS a.2.1 b.2.1=true) ∨ a=b ∨ (a.1=b.1/\a.2.2=b.2.2/\ltS b.2.1 a.2.1=true):=by
 rcases Nat.lt_trichotomy a.1 b.1 with h | h | h
 ·exact .inl h
 ·by_cases hg:a.2.2=b.2.2
  ·rcases zb6 a.2.1 b.2.1 with k | k | k
   ·exact .inr (.inr (.inr (.inl ⟨h,hg,k⟩)))
   ·exact .inr (.inr (.inr (.inr (.inl (Prod.ext h (Prod.ext k hg))))))
   ·exact .inr (.inr (.inr (.inr (.inr ⟨h,hg,k⟩))))
  ·exact .inr (.inr (.inl ⟨h,hg⟩))
 ·exact .inr (.inl h)
def zgf (a b:Cell):Bool:=decide (a.1 < b.1) || (decide (a.1=b.1) && ((a.2.2 && !b.2.2) || (a.2.2 == b.2.2 && ltS a.2.1 b.2.1)))
def ziu (a b:Cell):Int:=if a=b then 0 else if zgf a b then -1 else 1
theorem zsj (a b:Cell) (w:World) :
  Calls Tryz.prog 210 #[zbe a,zbe b] w fun e w'=>e=.returned (I (ziu a b))/\Ext w w':=by
 have hx:Ext w ((w.alloc (.cells #[U a.1,St a.2.1,.bool a.2.2] 35)).alloc (.cells #[U b.1,St b.2.1,.bool b.2.2] 35)):=((Ext.refl w).alloc _).alloc _;have HC:=zuh a b;obtain⟨a1,a2,a3⟩:=a;obtain⟨b1,b2,b3⟩:=b;have HS:=zH (show ziu (a1,a2,a3) (b1,b2,b3)=if (a1,a2,a3)=(b1,b2,b3) then 0 else if zgf (a1,a2,a3) (b1,b2,b3) then -1 else 1 from rfl);simp only at HC hx;rcases HC with h | h | ⟨rfl,h⟩ | ⟨rfl,rfl,h⟩ | h | ⟨rfl,rfl,h⟩
 ·have h1:(a1:Int) < b1:=by omega
  have h2:((a1:Int) == b1)=false:=by rw [beq_eq_false_iff_ne];omega
  go_enter Tryz.func210,Tryz.ntmps210;go_wp2;go_ret;exact⟨by rw [HS.out];rw [if_neg (by simp;omega),if_pos (by simp [zgf,h])];rfl,hx⟩
 ·have h1:¬ (a1:Int) < b1:=by omega
  have h2:((a1:Int) == b1)=false:=by rw [beq_eq_false_iff_ne];omega
  go_enter Tryz.func210,Tryz.ntmps210;go_wp2;go_ret;exact⟨by rw [HS.out];rw [if_neg (by simp;omega),if_neg (by simp [zgf];omega)];rfl,hx⟩
 ·cases a3 <;> cases b3 <;> simp only [ne_eq,not_true_eq_false,Bool.false_eq_true,not_false_eq_true,Bool.true_eq_false] at h
  ·skip
   go_enter Tryz.func210,Tryz.ntmps210;go_wp2;go_ret;exact⟨by rw [HS.out];rw [if_neg (by simp),if_neg (by simp [zgf])];rfl,hx⟩
  ·skip
   go_enter Tryz.func210,Tryz.ntmps210;go_wp2;go_ret;exact⟨by rw [HS.out];rw [if_neg (by simp),if_pos (by simp [zgf])];rfl,hx⟩
 ·have h1:(a2 == b2)=false:=by simpa using zb0 h
  have h2:Op.bytesLess a2 b2=true:=h;cases a3
  ·skip
   go_enter Tryz.func210,Tryz.ntmps210;go_wp2;go_ret;exact⟨by rw [HS.out];rw [if_neg (by simp [zb0 h]),if_pos (by simp [zgf,h])];rfl,hx⟩
  ·skip
   go_enter Tryz.func210,Tryz.ntmps210;go_wp2;go_ret;exact⟨by rw [HS.out];rw [if_neg (by simp [zb0 h]),if_pos (by simp [zgf,h])];rfl,hx⟩
 ·injection h with e1 e2
  injection e2 with e2 e3
  subst e1 e2 e3;go_enter Tryz.func210,Tryz.ntmps210;go_wp2;go_ret;exact⟨by rw [HS.out];rw [if_pos trivial];rfl,hx⟩
 ·have h1:(a2 == b2)=false:=by simpa using (zb0 h).symm
  have h2:Op.bytesLess a2 b2=false:=zbm h;cases a3
  ·skip
   go_enter Tryz.func210,Tryz.ntmps210;go_wp2;go_ret;exact⟨by rw [HS.out];rw [if_neg (by simp [(zb0 h).symm]),if_neg (by simp [zgf,zbm h])];rfl,hx⟩
  ·skip
   go_enter Tryz.func210,Tryz.ntmps210;go_wp2;go_ret;exact⟨by rw [HS.out];rw [if_neg (by simp [(zb0 h).symm]),if_neg (by simp [zgf,zbm h])];rfl,hx⟩
def zje (a b:Cell):Cell:=if ziu a b < 0 then b else a
theorem zq5 (a b:Cell) (w:World) :
  Calls Tryz.prog 134 #[zbe a,zbe b] w fun e w'=>e=.returned (zbe (zje a b))/\Ext w w':=by
 obtain⟨a1,a2,a3⟩:=a;obtain⟨b1,b2,b3⟩:=b;have hx:Ext w (((w.alloc (.cells #[U a1,St a2,.bool a3] 35)).alloc (.cells #[U b1,St b2,.bool b3] 35)).alloc (.cells #[.int .u64 0,St [],.bool false] 35)):=(((Ext.refl w).alloc _).alloc _).alloc _;have HC:=zH (zsj (a1,a2,a3) (b1,b2,b3) (((w.alloc (.cells #[U a1,St a2,.bool a3] 35)).alloc (.cells #[U b1,St b2,.bool b3] 35)).alloc (.cells #[.int .u64 0,St [],.bool false] 35)));have HJ:=zH (show zje (a1,a2,a3) (b1,b2,b3)=if ziu (a1,a2,a3) (b1,b2,b3) < 0 then (b1,b2,b3) else (a1,a2,a3) from rfl);have HX:=zH hx;clear hx;go_enter Tryz.func134,Tryz.ntmps134;go_wp2_with fail;refine HC.out.mono ?_;rintro r W ⟨rfl,hxw⟩;have ra:=(((zah w 35 [U a1,St a2,.bool a3]).alloc (.cells #[U b1,St b2,.bool b3] 35)).alloc (.cells #[.int .u64 0,St [],.bool false] 35)).ext hxw;have rb0:=zah (w.alloc (.cells #[U a1,St a2,.bool a3] 35)) 35 [U b1,St b2,.bool b3];have rc0:=zah ((w.alloc (.cells #[U a1,St a2,.bool a3] 35)).alloc (.cells #[U b1,St b2,.bool b3] 35)) 35 [.int .u64 0,St [],.bool false];simp only [World.size_alloc] at rb0 rc0;have rb:=(rb0.alloc (.cells #[.int .u64 0,St [],.bool false] 35)).ext hxw;have rc:=rc0.ext hxw;have HX2:=zH (HX.out.trans hxw);have a0:=ra.cell (j:=0) rfl;have a1':=ra.cell (j:=1) rfl;have a2':=ra.cell (j:=2) rfl;have b0:=rb.cell (j:=0) rfl;have b1':=rb.cell (j:=1) rfl;have b2':=rb.cell (j:=2) rfl;obtain⟨r0,r1,r2⟩:=rc.p3;obtain⟨f0,f1,f2⟩:=rc.q3;clear ra rb0 rb rc0 rc hxw HC HX;obtain⟨z,hz⟩:∃ z,ziu (a1,a2,a3) (b1,b2,b3)=z:=⟨_,rfl⟩
 rw [hz] at HJ ⊢;clear hz
 by_cases h:z < 0
 ·have HJ2:=zH (HJ.out.trans (if_pos h));clear HJ;go_wp2_with fail
  (try simp only [Exit.inBlock,Exit.then])
  refine bodyPost_ret (v:=zbe (b1,b2,b3)) (by simp [results,Tryz.f134,go_sem,r0,r1,r2]) rfl ?_;exact⟨by rw [HJ2.out],((HX2.out.set (p:=⟨w.heap.size+1+1,0,none⟩) (by simp;omega) _).set (p:=⟨w.heap.size+1+1,1,none⟩) (by simp;omega) _).set (p:=⟨w.heap.size+1+1,2,none⟩) (by simp;omega) _⟩
 ·have h2:decide (z < 0)=false:=by simpa using h
  have HJ2:=zH (HJ.out.trans (if_neg h));clear HJ;go_wp2_with fail
  (try simp only [Exit.inBlock,Exit.then])
  refine bodyPost_ret (v:=zbe (a1,a2,a3)) (by simp [results,Tryz.f134,go_sem,r0,r1,r2]) rfl ?_;exact⟨by rw [HJ2.out],((HX2.out.set (p:=⟨w.heap.size+1+1,0,none⟩) (by simp;omega) _).set (p:=⟨w.heap.size+1+1,1,none⟩) (by simp;omega) _).set (p:=⟨w.heap.size+1+1,2,none⟩) (by simp;omega) _⟩
end
end Go.Proofs.YtdikcgmdmcfpfaaGreat
