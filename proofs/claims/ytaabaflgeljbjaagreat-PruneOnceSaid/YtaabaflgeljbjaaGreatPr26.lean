/- Laws. -/
import Derived.Test.YtaabaflgeljbjaaGreatPr24
import Derived.Test.YtaabaflgeljbjaaGreatPr25
import Derived.Test.YtaabaflgeljbjaaGreatPr16
import Derived.Test.YtaabaflgeljbjaaGreatPr22
import Derived.Test.YtaabaflgeljbjaaGreatPr11
import Derived.Test.YtaabaflgeljbjaaGreatPr15
import Derived.Test.YtaabaflgeljbjaaGreatPr21
import Derived.StillTailTactics
set_option linter.unusedVariables false
set_option linter.unusedSimpArgs false
set_option maxRecDepth 100000
set_option maxHeartbeats 40000000
namespace Go.Proofs.YtaabaflgeljbjaaGreat
section
open Go.RowKit Go.Shelf
abbrev entL (e:Entry) (v1 v2 v3:Value):List Value:=[St e.key,v1,v2,v3,U e.cell.1,St e.cell.2.1,.bool e.cell.2.2]
theorem zaf (w:World) (T:Nat) (xs:List Value):RowIs (w.alloc (.cells xs.toArray T)) w.heap.size T xs []:=by
 unfold RowIs;rw [List.append_nil];exact Go.heap_alloc_new w _
theorem zgs {S:Nat->Prop} {e:Entry} {v1 v2 v3:Value} {w:World} (h:EntAt w S e v1 v2 v3) (hl1:e.seen.length<=1099511627776) (hl2:e.counts.length<=1099511627776) (hl3:e.items.length<=1099511627776) (hl4:∀ it ∈ e.items,it.2.length<=1099511627776) :
  Calls Tryz.prog 66 #[entV e v1 v2 v3] w fun r w'=>∃ u1 u2 u3,r=.returned (entV e u1 u2 u3)/\EntNew w' w.heap.size e u1 u2 u3/\Ext w w':=by
 have h':=h.mono (S':=fun b=>S b/\b < w.heap.size) (fun b hb hS=>⟨hS,hb⟩);obtain⟨ek,es,ec,ei,x1,x2,x3⟩:=e;obtain⟨A1,n1,A2,n2,A3,n3,rfl,rfl,rfl⟩:=h.fm;have H:=zH h';have hx0:=((Ext.refl w).alloc (.cells #[St ek,.slice A1 es.length n1,.slice A2 ec.length n2,.slice A3 ei.length n3,U x1,St x2,.bool x3] 46)).alloc (.cells #[St [],.slice none 0 0,.slice none 0 0,.slice none 0 0,.int .u64 0,St [],.bool false] 46);have hb0:=(zaf w 46 [St ek,.slice A1 es.length n1,.slice A2 ec.length n2,.slice A3 ei.length n3,U x1,St x2,.bool x3]).alloc (.cells #[St [],.slice none 0 0,.slice none 0 0,.slice none 0 0,.int .u64 0,St [],.bool false] 46);have hr0:=zaf (w.alloc (.cells #[St ek,.slice A1 es.length n1,.slice A2 ec.length n2,.slice A3 ei.length n3,U x1,St x2,.bool x3] 46)) 46 [St [],.slice none 0 0,.slice none 0 0,.slice none 0 0,.int .u64 0,St [],.bool false];rw [World.size_alloc] at hr0;have hz1:w.heap.size+2<=((w.alloc (.cells #[St ek,.slice A1 es.length n1,.slice A2 ec.length n2,.slice A3 ei.length n3,U x1,St x2,.bool x3] 46)).alloc (.cells #[St [],.slice none 0 0,.slice none 0 0,.slice none 0 0,.int .u64 0,St [],.bool false] 46)).heap.size:=by simp
 clear h h';go_enter Tryz.func66,Tryz.ntmps66;go_wp2_with fail;generalize hW0:(w.alloc (.cells #[St ek,.slice A1 es.length n1,.slice A2 ec.length n2,.slice A3 ei.length n3,U x1,St x2,.bool x3] 46)).alloc (.cells #[St [],.slice none 0 0,.slice none 0 0,.slice none 0 0,.int .u64 0,St [],.bool false] 46)=W0 at *;clear hW0;have H1:=zH (zik (H.out.seen.ext (by decide) hx0) hl1);refine H1.out.mono ?_;rintro r W1 ⟨u1,rfl,hu1,hx1⟩;have hx01:=hx0.trans hx1;have hb1:=hb0.ext hx1;have hr1:=hr0.ext hx1;have hf1:=hb1.frozen 1;have hc1:=hb1.cell (j:=1) rfl;have hu1':=(own_markT.1 hu1).lower hz1;obtain⟨B1,m1,rfl,-,-⟩:=hu1.form;have HU1:=zH hu1';have hsb:=(hb1.set (j:=1) (by simp) (.slice B1 es.length m1))
 have hc2:=hsb.cell (j:=2) rfl;have hr1':=hr1.other (p:=⟨w.heap.size,1,none⟩) (by simp) (.slice B1 es.length m1);have hx1':=hx01.set (p:=⟨w.heap.size,1,none⟩) (Nat.le_refl _) (.slice B1 es.length m1);have HU1':=zH (hu1'.keep (w':=W1.setCell ⟨w.heap.size,1,none⟩ (.slice B1 es.length m1)) fun b hb _=>Below.heap_setCell _ _ _ _ (fun e=>by have:=(hu1'.base_le hb).1;have e2:b=w.heap.size:=e;omega));have hz2:W0.heap.size<=(W1.setCell ⟨w.heap.size,1,none⟩ (.slice B1 es.length m1)).heap.size:=by rw [World.size_setCell];exact hx1.size
 replace hz2:=Nat.le_trans hz1 hz2;clear hu1 hu1' HU1;go_wp2_with fail;generalize W1.setCell ⟨w.heap.size,1,none⟩ (.slice B1 es.length m1)=W1s at *;clear hx1 hr1 hb1 hx01 hx0 hr0 hb0 hc1 hf1 hc2 hz1 H1;clear W1 W0;simp only [List.set_cons_succ,List.set_cons_zero] at hsb;have H2:=zH (zsl (H.out.counts.ext (by decide) hx1') hl2);refine H2.out.mono ?_;rintro r W2 ⟨u2,rfl,hu2,hx2⟩;have hx12:=hx1'.trans hx2;have hb2:=hsb.ext hx2;have hr2:=hr1'.ext hx2;have hf2:=hb2.frozen 2;have hc2:=hb2.cell (j:=2) rfl;have hu2':=((OwnL.flat_iff (S:=fun b=>S b/\b < w.heap.size)).1 hu2).lower hz2;obtain⟨B2,m2,rfl,-,-⟩:=hu2.form;have HU1:=zH (HU1'.out.ext hx2);have hsb2:=(hb2.set (j:=2) (by simp) (.slice B2 ec.length m2))
 have hc3:=hsb2.cell (j:=3) rfl;have hr2':=hr2.other (p:=⟨w.heap.size,2,none⟩) (by simp) (.slice B2 ec.length m2);have hx2':=hx12.set (p:=⟨w.heap.size,2,none⟩) (Nat.le_refl _) (.slice B2 ec.length m2);have HV1:=zH (HU1.out.keep (w':=W2.setCell ⟨w.heap.size,2,none⟩ (.slice B2 ec.length m2)) fun b hb _=>Below.heap_setCell _ _ _ _ (fun e=>by have:=(HU1.out.base_le hb).1;have e2:b=w.heap.size:=e;omega));have HU2:=zH (hu2'.keep (w':=W2.setCell ⟨w.heap.size,2,none⟩ (.slice B2 ec.length m2)) fun b hb _=>Below.heap_setCell _ _ _ _ (fun e=>by have:=(hu2'.base_le hb).1;have e2:b=w.heap.size:=e;omega));have hz3:w.heap.size+2<=(W2.setCell ⟨w.heap.size,2,none⟩ (.slice B2 ec.length m2)).heap.size:=by rw [World.size_setCell];exact Nat.le_trans hz2 hx2.size
 clear hu2 hu2' HU1 HU1';go_wp2_with fail;generalize W2.setCell ⟨w.heap.size,2,none⟩ (.slice B2 ec.length m2)=W2s at *;clear hx2 hr2 hb2 hx12 hc2 hf2 hc3 H2 hsb hr1' hx1' hz2;clear W2 W1s;simp only [List.set_cons_succ,List.set_cons_zero] at hsb2;have H3:=zH (zt4 (H.out.items.ext (by decide) hx2') hl3);refine H3.out.mono ?_;rintro r W3 ⟨u3,rfl,hu3,hx3⟩;have hx23:=hx2'.trans hx3;have hb3:=hsb2.ext hx3;have hr3:=hr2'.ext hx3;have hf3:=hb3.frozen 3;have hc3:=hb3.cell (j:=3) rfl;have hB1:∀ b,zad (.slice B1 es.length m1) b->b < W2s.heap.size:=fun b hb=>(HV1.out.base_le hb).2
 have hB2:∀ b,zad (.slice B2 ec.length m2) b->b < W2s.heap.size:=fun b hb=>(HU2.out.base_le hb).2
 have hz5:=hx3.size;generalize W2s.heap.size=Z at hu3 hB1 hB2 hz3 hz5;have hu3':=hu3;obtain⟨B3,m3,rfl,-,-⟩:=hu3.form;have HU1:=zH (HV1.out.ext hx3);have HU2':=zH (HU2.out.ext hx3);have hsb3:=(hb3.set (j:=3) (by simp) (.slice B3 ei.length m3))
 have hc4:=hsb3.cell (j:=3) rfl;have hr3':=hr3.other (p:=⟨w.heap.size,3,none⟩) (by simp) (.slice B3 ei.length m3);have hx3':=hx23.set (p:=⟨w.heap.size,3,none⟩) (Nat.le_refl _) (.slice B3 ei.length m3);have HU1'':=zH (HU1.out.keep (w':=W3.setCell ⟨w.heap.size,3,none⟩ (.slice B3 ei.length m3)) fun b hb _=>Below.heap_setCell _ _ _ _ (fun e=>by have:=(HU1.out.base_le hb).1;have e2:b=w.heap.size:=e;omega));have HU2'':=zH (HU2'.out.keep (w':=W3.setCell ⟨w.heap.size,3,none⟩ (.slice B3 ei.length m3)) fun b hb _=>Below.heap_setCell _ _ _ _ (fun e=>by have:=(HU2'.out.base_le hb).1;have e2:b=w.heap.size:=e;omega));have HU3:=zH (hu3'.keep (w':=W3.setCell ⟨w.heap.size,3,none⟩ (.slice B3 ei.length m3)) (fun b hb _=>Below.heap_setCell _ _ _ _ (fun e=>by have:=hb.2;have e2:b=w.heap.size:=e;omega)) (fun b hb _=>Below.heap_setCell _ _ _ _ (fun e=>by have:=(hu3'.base_le hb).1;have e2:b=w.heap.size:=e;omega)));have hz4:Z<=(W3.setCell ⟨w.heap.size,3,none⟩ (.slice B3 ei.length m3)).heap.size:=by rw [World.size_setCell];exact hz5
 clear hu3 hu3' HU1 HU2 HU2' HV1;go_wp2_with fail;generalize W3.setCell ⟨w.heap.size,3,none⟩ (.slice B3 ei.length m3)=W3s at *;clear hx3 hr3 hb3 hx23 hc3 hf3 hc4 H3 hsb2 hr2' hx2' hz5;clear W3 W2s;simp only [List.set_cons_succ,List.set_cons_zero] at hsb3
 go_loopw [19] (fun i wr=>∃ A B,ei=A++B/\i=I A.length/\Hid (RowIs wr w.heap.size 46 [St ek,.slice B1 es.length m1,.slice B2 ec.length m2,.slice B3 ei.length m3,U x1,St x2,.bool x3] []/\RowIs wr (w.heap.size+1) 46 [St [],.slice none 0 0,.slice none 0 0,.slice none 0 0,.int .u64 0,St [],.bool false] []/\Own wr (w.heap.size+2) 97 2 (.slice B1 es.length m1) es.length (es.flatMap zaj) /\
   Own wr (w.heap.size+2) 54 3 (.slice B2 ec.length m2) ec.length (ec.flatMap zbx)/\HalfRow wr Z (fun b=>S b/\b < w.heap.size) (.slice B3 ei.length m3) A B)/\Ext w wr/\Z<=wr.heap.size) (fun i _=>ei.length - (intOf i).toNat)
 case atStart=>exact⟨[],ei,rfl,rfl,zH ⟨hsb3,hr3',HU1''.out,HU2''.out,HalfRow.start HU3.out⟩,hx3',hz4⟩
 case round =>
  obtain⟨A,B,hl,rfl,hrow,hx,hzz⟩:=hrel
  cases B with
  | cons it B =>
   have hlt:A.length < ei.length:=(by rw [hl];simp);have HL:=zH hl;have hit:=hl4 it (by rw [hl];simp);clear hl;go_wp2_with fail;obtain⟨hb,hr,ho1,ho2,hh⟩:=hrow.out;obtain⟨g,cap,dv,e,hcap1,hcap2,hgb,hdc,hdf,hds⟩:=hh.next;obtain⟨e1,e2,e3⟩:B3=some ⟨g,0,none⟩/\ei.length=A.length+(B.length+1)/\m3=cap:=by injection e with e1 e2 e3;exact⟨e1,e2,e3⟩
   subst e1;subst e3;have HE2:=zH e2;clear e e2 hrow
   refine zat [fun v _=>v=.pointer (some ⟨w.heap.size,3,none⟩),fun v _=>v=.slice (some ⟨g,0,none⟩) ei.length m3,fun v _=>v=I A.length,fun v _=>v=.pointer (some ⟨w.heap.size,3,none⟩),fun v _=>v=.slice (some ⟨g,0,none⟩) ei.length m3,fun v _=>v=I A.length,
    fun v _=>v=.pointer (some ⟨g,A.length * 2,none⟩),fun v _=>v=.pointer (some ⟨g,A.length * 2+1,none⟩),fun v _=>v=dv,fun v W=>Own W wr.heap.size 59 2 v it.2.length (it.2.flatMap zaj)] rfl (by kernel_rfl) ?hR ?hstep ?hend
   case hR=>simp only [List.mem_cons,List.not_mem_nil,or_false,forall_eq_or_imp,forall_eq];exact⟨kP,kP,kP,kP,kP,kP,kP,kP,kP,fun v _ _ h he=>h.ext he⟩
   case hstep =>
    simp only [List.length_cons,List.length_nil,Nat.reduceAdd,List.take_succ_cons,List.take_zero,zbj,and_true]
    and_intros <;> intro x W he f
    ·have h1:x 1=.pointer (some ⟨w.heap.size,0,none⟩):=f.1;go_wp;exact sQ
    ·have h22:_=_:=f.1;have hc:=(hb.ext he).cell (j:=3) rfl;go_wp;exact sQ
    ·have h3:x 3=I A.length:=f.1;go_wp;exact sQ
    ·have h1:x 1=.pointer (some ⟨w.heap.size,0,none⟩):=f.1;go_wp;exact sQ
    ·have h25:_=_:=f.1;have hc:=(hb.ext he).cell (j:=3) rfl;go_wp;exact sQ
    ·have h3:x 3=I A.length:=f.1;go_wp;exact sQ
    ·have h0:_=_:=f.1;have h1:_=_:=f.2.1;go_wp;exact sQ
    ·have h0:_=_:=f.1;go_wp;exact sQ
    ·have h29:_=_:=f.1;have hc:=he.cell hdc;obtain⟨Ad,cd,rfl,hcd1,hcd2⟩:=hds.form;go_wp;exact sQ
    ·have h30:_=_:=f.1;have hs:=he.size;have HC:=zH (zwg (hds.ext (by decide) he) hit);go_wp;refine HC.out.mono ?_;rintro r W2 ⟨dv',rfl,hd,hx2⟩;dsimp only;go_wp;refine zaa (v:=dv') ?_ hx2;exact (own_markT.1 hd).lower hs
   case hend =>
    intro x W he f
    obtain⟨h22,h23,h24,-,-,-,-,-,-,h31,-⟩:x 22=.pointer (some ⟨w.heap.size,3,none⟩)/\x 23=.slice (some ⟨g,0,none⟩) ei.length m3/\x 24=I A.length/\x 25=.pointer (some ⟨w.heap.size,3,none⟩)/\x 26=.slice (some ⟨g,0,none⟩) ei.length m3/\x 27=I A.length /\
     x 28=.pointer (some ⟨g,A.length * 2,none⟩)/\x 29=.pointer (some ⟨g,A.length * 2+1,none⟩)/\x 30=dv/\Own W wr.heap.size 59 2 (x 31) it.2.length (it.2.flatMap zaj)/\True:=f
    simp only [List.length_cons,List.length_nil,Nat.reduceAdd,List.take_succ_cons,List.take_zero,List.filterMap_cons,List.filterMap_nil,List.drop_succ_cons,List.drop_zero,zav,Act.put,List.setIfInBounds_toArray,List.set_cons_succ,List.set_cons_zero,h22,h23,h24];have hdc':=he.cell hdc;have hdf':=(he.frozen (o:=A.length * 2+1) (zae hdc)).trans hdf;have hsw:=he.size;have hg0:=zae hdc;have hput:=hh.ext he;obtain⟨Ad,cd,hx31,hcd1,hcd2⟩:=h31.form;rw [hx31] at h31;simp only [hx31];have HP:=zH (HE2.out ▸ (HE2.out ▸ hput).put (fun b hb=>by omega) h31 (by omega) hg0);go_wp
    refine ⟨⟨A++[it],B,by rw [HL.out];simp,by simp,zH ⟨(hb.ext he).other (by simp;omega) _,(hr.ext he).other (by simp;omega) _,(ho1.ext he).keep fun b hb' _=>Below.heap_setCell _ _ _ _ (fun e=>by have:=hB1 b hb';have e2:b=g:=e;omega),
     (ho2.ext he).keep fun b hb' _=>Below.heap_setCell _ _ _ _ (fun e=>by have:=hB2 b hb';have e2:b=g:=e;omega),HE2.out ▸ HP.out⟩,(hx.trans he).set (by simp;omega) _,by rw [World.size_setCell];omega⟩,?_⟩
    have:=HE2.out;simp only [intOf];omega
  | nil =>
   obtain⟨hb,hr,ho1,ho2,hh⟩:=hrow.out;rw [List.append_nil] at hl;subst hl;have HD:=zH hh.done;have k0:=hb.cell (j:=0) rfl;have r0:=hr.cell (j:=0) rfl;have f0:=hr.frozen 0;have k1:=hb.cell (j:=1) rfl;have r1:=hr.cell (j:=1) rfl;have f1:=hr.frozen 1;have k2:=hb.cell (j:=2) rfl;have r2:=hr.cell (j:=2) rfl;have f2:=hr.frozen 2;have k3:=hb.cell (j:=3) rfl;have r3:=hr.cell (j:=3) rfl;have f3:=hr.frozen 3;have k4:=hb.cell (j:=4) rfl;have r4:=hr.cell (j:=4) rfl;have f4:=hr.frozen 4;have k5:=hb.cell (j:=5) rfl;have r5:=hr.cell (j:=5) rfl;have f5:=hr.frozen 5;have k6:=hb.cell (j:=6) rfl;have r6:=hr.cell (j:=6) rfl;have f6:=hr.frozen 6;clear hh;go_wp2_with fail
   (try simp only [Exit.inBlock,Exit.then])
   refine bodyPost_ret (v:=entV ⟨ek,es,ec,ei,(x1,x2,x3)⟩ (.slice B1 es.length m1) (.slice B2 ec.length m2) (.slice B3 ei.length m3)) (by simp [results,Tryz.f66,go_sem,entV,r0,r1,r2,r3,r4,r5,r6]) rfl ?_;have hle:w.heap.size<=(⟨w.heap.size+1,0,none⟩:Addr).block:=by simp
   have hX:=zH (((((((hx.set (p:=⟨w.heap.size+1,0,none⟩) hle (.string { data:=List.toArray ek })).set (p:=⟨w.heap.size+1,1,none⟩) hle (.slice B1 es.length m1)).set (p:=⟨w.heap.size+1,2,none⟩) hle (.slice B2 ec.length m2)).set (p:=⟨w.heap.size+1,3,none⟩) hle (.slice B3 ei.length m3)).set
    (p:=⟨w.heap.size+1,4,none⟩) hle (.int .u64 x1)).set (p:=⟨w.heap.size+1,5,none⟩) hle (.string { data:=List.toArray x2 })).set (p:=⟨w.heap.size+1,6,none⟩) hle (.bool x3))
   refine ⟨_,_,_,rfl,?_,hX.out⟩
   have hs:∀ b,b ≠ w.heap.size+1->(((((((wr.setCell ⟨w.heap.size+1,0,none⟩ (.string { data:=List.toArray ek })).setCell ⟨w.heap.size+1,1,none⟩ (.slice B1 es.length m1)).setCell ⟨w.heap.size+1,2,none⟩ (.slice B2 ec.length m2)).setCell ⟨w.heap.size+1,3,none⟩ (.slice B3 ei.length m3)).setCell
    ⟨w.heap.size+1,4,none⟩ (.int .u64 x1)).setCell ⟨w.heap.size+1,5,none⟩ (.string { data:=List.toArray x2 })).setCell ⟨w.heap.size+1,6,none⟩ (.bool x3)).heap[b]? = wr.heap[b]?:=fun b hb =>
    ((((((Below.heap_setCell _ _ _ b hb).trans (Below.heap_setCell _ _ _ b hb)).trans (Below.heap_setCell _ _ _ b hb)).trans (Below.heap_setCell _ _ _ b hb)).trans (Below.heap_setCell _ _ _ b hb)).trans (Below.heap_setCell _ _ _ b hb)).trans (Below.heap_setCell _ _ _ b hb)
   exact⟨(ho1.keep fun b hb _=>hs b (by have:=(ho1.base_le hb).1;omega)).lower (by omega),(ho2.keep fun b hb _=>hs b (by have:=(ho2.base_le hb).1;omega)).lower (by omega),
    (((HD.out.keep (fun b hb _=>hs b (by omega)) (fun b hb _=>hs b (by have:=(HD.out.base_le hb).1;omega))).lower (by omega)).mono fun b _ hb=>by omega)⟩
def zfv (e:Entry):Bool:=e.counts.all fun c=>!(c.1 != [] && ofM e.seen c.1 == 0)
def zgt (e:Entry):Bool:=e.items.all fun it=>it.2.all fun d=>hasM e.seen d
theorem zxh {S:Nat->Prop} {A:Option Addr} {n c:Nat} {l pre post:List zag} {m:zag} {w wr:World} (hv:Sl zcl w S (.slice A n c) l) (h:Ext w wr) (hl:l=pre++m :: post) :
  ∃ b o,A=some ⟨b,o,none⟩/\wr.cell? ⟨b,o+pre.length * 3,none⟩=some (St m.1)/\wr.cell? ⟨b,o+pre.length * 3+1,none⟩=some (U m.2.1)/\wr.cell? ⟨b,o+pre.length * 3+2,none⟩=some (U m.2.2):=by
 obtain⟨b,o,vs,c',e,-,rfl,hc⟩:=(hv.ext (by decide) h).at_ hl;injection e with e1 e2 e3
 exact⟨b,o,e1,hc 0 _ rfl,hc 1 _ rfl,hc 2 _ rfl⟩
theorem zra {S:Nat->Prop} {e:Entry} {v1 v2 v3:Value} {w:World} (h:EntAt w S e v1 v2 v3) :
  Calls Tryz.prog 75 #[entV e v1 v2 v3] w fun r w'=>r=.returned (.bool (zfv e))/\Ext w w':=by
 obtain⟨ek,es,ec,ei,x1,x2,x3⟩:=e;have hc:=h.counts;have H:=zH h;obtain⟨A1,n1,rfl,-,-⟩:=h.seen.form;obtain⟨A2,n2,rfl,hn1,hn2⟩:=h.counts.form;obtain⟨A3,n3,rfl,-,-⟩:=h.items.form;simp only at hn1;have HAT:=zH (fun (pre post:List zag) (m:zag) (wr:World) (h:Ext w wr) (hl:ec=pre++m :: post)=>zxh hc h hl);have HE:=zH (show zfv ⟨ek,es,ec,ei,(x1,x2,x3)⟩=ec.all fun c=>!(c.1 != [] && ofM es c.1 == 0) from rfl);generalize zfv ⟨ek,es,ec,ei,(x1,x2,x3)⟩=R at *;have hx0:=(Ext.refl w).alloc (.cells #[St ek,.slice A1 es.length n1,.slice A2 ec.length n2,.slice A3 ei.length n3,U x1,St x2,.bool x3] 46);have hb0:=zaf w 46 [St ek,.slice A1 es.length n1,.slice A2 ec.length n2,.slice A3 ei.length n3,U x1,St x2,.bool x3];have k2:=hb0.cell (j:=2) rfl;clear h hc;go_enter Tryz.func75,Tryz.ntmps75;go_wp2_with fail;generalize hW0:w.alloc (.cells #[St ek,.slice A1 es.length n1,.slice A2 ec.length n2,.slice A3 ei.length n3,U x1,St x2,.bool x3] 46)=W0 at *;clear hW0
 go_loopw [8] (fun i wr=>∃ pre post,ec=pre++post/\i=I pre.length/\Hid (R=post.all fun c=>!(c.1 != [] && ofM es c.1 == 0))/\Ext W0 wr) (fun i _=>ec.length - (intOf i).toNat)
 case atStart=>exact⟨[],ec,rfl,rfl,HE,Ext.refl _⟩
 case round =>
  obtain⟨pre,post,hl,rfl,hR,hx⟩:=hrel
  cases post with
  | cons c post =>
   obtain⟨b,o,rfl,hd0,hd1,hd2⟩:=HAT.out pre post c wr (hx0.trans hx) hl;have hlt:pre.length < ec.length:=(by rw [hl];simp);have HL:=zH hl;have hx1:=hx.alloc (.cells #[St c.1,U c.2.1,U c.2.2] 54);have t0:(wr.alloc (.cells #[St c.1,U c.2.1,U c.2.2] 54)).cell? ⟨wr.heap.size,0,none⟩=some (St c.1):=(by simp [go_sem]);have ks:=(hb0.ext hx1).cell (j:=1) rfl;have HS:=zH (ze1 c.1 (H.out.seen.ext (by decide) (hx0.trans hx1)));clear hl;obtain⟨cs,cp,cm⟩:=c;simp only at hd0 hd1 hd2 hx1 t0 ks HS
   cases cs with
   | nil =>
    have hR2:=zH (show R=post.all fun c=>!(c.1 != [] && ofM es c.1 == 0) by rw [hR.out];simp);have HX1:=zH hx1;clear hR hx1 HS;go_wp2_with fail;go_roundw
    case rel=>exact⟨pre++[([],cp,cm)],post,by rw [HL.out];simp,by simp,hR2,HX1.out⟩
    case measure=>simp [intOf];omega
   | cons ch cs =>
    go_wp2_with fail;refine HS.out.mono ?_;rintro r W1 ⟨rfl,hx2⟩;have HX1:=zH (hx1.trans hx2)
    cases hof:ofM es (ch :: cs) with
    | zero =>
     have hR2:=zH (show R=false by rw [hR.out];simp [hof]);clear hR hx1 hx2;go_wp2_with fail
     (try simp only [Exit.inBlock,Exit.then])
     exact bodyPost_ret (results_tmp rfl _ _ _) rfl ⟨by rw [hR2.out];rfl,hx0.trans HX1.out⟩
    | succ m =>
     have hR2:=zH (show R=post.all fun c=>!(c.1 != [] && ofM es c.1 == 0) by rw [hR.out];simp [hof]);clear hR hx1 hx2;go_wp2_with fail;go_roundw
     case rel=>exact⟨pre++[(ch :: cs,cp,cm)],post,by rw [HL.out];simp,by simp,hR2,HX1.out⟩
     case measure=>simp [intOf];omega
  | nil =>
   rw [List.append_nil] at hl;have hR2:=zH (show R=true by rw [hR.out];rfl);have hlen:ec.length=pre.length:=(by rw [hl]);clear hR hl;go_wp2_with fail
   (try simp only [Exit.inBlock,Exit.then])
   exact bodyPost_ret (results_tmp rfl _ _ _) rfl ⟨by rw [hR2.out];rfl,hx0.trans hx⟩
theorem zsw {S:Nat->Prop} {e:Entry} {v1 v2 v3:Value} {w:World} (h:EntAt w S e v1 v2 v3) :
  Calls Tryz.prog 78 #[entV e v1 v2 v3] w fun r w'=>r=.returned (.bool (zgt e))/\Ext w w':=by
 obtain⟨ek,es,ec,ei,x1,x2,x3⟩:=e;have hc:=h.items;have H:=zH h;obtain⟨A1,n1,rfl,-,-⟩:=h.seen.form;obtain⟨A2,n2,rfl,-,-⟩:=h.counts.form;obtain⟨A3,n3,rfl,hn1,hn2⟩:=h.items.form;simp only at hn1;have HAT:=zH (fun (pre post:List Item) (m:Item) (wr:World) (h:Ext w wr) (hl:ei=pre++m :: post)=>zgr hc h hl);have HE:=zH (show zgt ⟨ek,es,ec,ei,(x1,x2,x3)⟩=ei.all fun it=>it.2.all fun d=>hasM es d from rfl);generalize zgt ⟨ek,es,ec,ei,(x1,x2,x3)⟩=R at *;have hx0:=(Ext.refl w).alloc (.cells #[St ek,.slice A1 es.length n1,.slice A2 ec.length n2,.slice A3 ei.length n3,U x1,St x2,.bool x3] 46);have hb0:=zaf w 46 [St ek,.slice A1 es.length n1,.slice A2 ec.length n2,.slice A3 ei.length n3,U x1,St x2,.bool x3];have k3:=hb0.cell (j:=3) rfl;clear h hc;go_enter Tryz.func78,Tryz.ntmps78;go_wp2_with fail;generalize hW0:w.alloc (.cells #[St ek,.slice A1 es.length n1,.slice A2 ec.length n2,.slice A3 ei.length n3,U x1,St x2,.bool x3] 46)=W0 at *;clear hW0
 go_loopw [10] (fun i wr=>∃ pre post,ei=pre++post/\i=I pre.length/\Hid (R=post.all fun it=>it.2.all fun d=>hasM es d)/\Ext W0 wr) (fun i _=>ei.length - (intOf i).toNat)
 case atStart=>exact⟨[],ei,rfl,rfl,HE,Ext.refl _⟩
 case round =>
  obtain⟨pre,post,hl,rfl,hR,hx⟩:=hrel
  cases post with
  | cons it post =>
   obtain⟨b,o,vd,rfl,hd0,hd1,hsl⟩:=HAT.out pre post it wr (hx0.trans hx) hl;have hlt:pre.length < ei.length:=(by rw [hl];simp);have HL:=zH hl;have hsl':=hsl;obtain⟨A4,n4,rfl,hn3,hn4⟩:=hsl.form;have hx1:=hx.alloc (.cells #[St it.1,.slice A4 it.2.length n4] 57);have t1:(wr.alloc (.cells #[St it.1,.slice A4 it.2.length n4] 57)).cell? ⟨wr.heap.size,1,none⟩=some (.slice A4 it.2.length n4):=(by simp [go_sem]);have hxa:=(Ext.refl wr).alloc (.cells #[St it.1,.slice A4 it.2.length n4] 57);have HIN:=zH (fun (p2 q2:List Dot) (x:Dot) (wr':World) (h:Ext w wr') (hl:it.2=p2++x :: q2)=>zje hsl' h hl);clear hl hsl hsl';go_wp2_with fail;generalize hW1:wr.alloc (.cells #[St it.1,.slice A4 it.2.length n4] 57)=W1 at *;clear hW1;obtain⟨wo,hwo⟩:∃ wo:World,wo=wr:=⟨_,rfl⟩
   subst hwo
   go_loopw [17] (fun j wr2=>∃ p2 q2,it.2=p2++q2/\j=I p2.length/\Hid (R=((q2.all fun d=>hasM es d) && post.all fun it=>it.2.all fun d=>hasM es d))/\Ext W1 wr2) (fun j _=>it.2.length - (intOf j).toNat)
   case atStart=>exact⟨[],it.2,rfl,rfl,by rw [hR.out];exact zH (by simp),Ext.refl _⟩
   case round =>
    obtain⟨p2,q2,hl2,rfl,hR2,hx2⟩:=hrel
    cases q2 with
    | cons x q2 =>
     have hx02:=hx0.trans (hx1.trans hx2);obtain⟨b2,o2,rfl,e0,e1⟩:=HIN.out p2 q2 x wr hx02 hl2;have hlt2:p2.length < it.2.length:=(by rw [hl2];simp);have hx3:=hx2.alloc (.cells #[St x.1,U x.2] 59);have s0:(wr.alloc (.cells #[St x.1,U x.2] 59)).cell? ⟨wr.heap.size,0,none⟩=some (St x.1):=(by simp [go_sem]);have s1:(wr.alloc (.cells #[St x.1,U x.2] 59)).cell? ⟨wr.heap.size,1,none⟩=some (U x.2):=(by simp [go_sem]);have ks:=(hb0.ext (hx1.trans hx3)).cell (j:=1) rfl;have HS:=zH (zou x (H.out.seen.ext (by decide) (hx0.trans (hx1.trans hx3))));have HL2:=zH hl2;clear hl2;go_wp2_with fail;refine HS.out.mono ?_;rintro r W2 ⟨rfl,hx4⟩;have HX3:=zH (hx3.trans hx4)
     cases hof:hasM es x with
     | false =>
      have hR3:=zH (show R=false by rw [hR2.out];simp [hof]);have HXX:=zH (hx0.trans (hx1.trans HX3.out));clear hR hR2 hx4 hx3 hx2 hx02;go_wp2_with fail
      (try simp only [Exit.inBlock,Exit.then])
      exact bodyPost_ret (results_tmp rfl _ _ _) rfl ⟨by rw [hR3.out];rfl,HXX.out⟩
     | true =>
      have hR3:=zH (show R=((q2.all fun d=>hasM es d) && post.all fun it=>it.2.all fun d=>hasM es d) by rw [hR2.out];simp [hof]);clear hR hR2 hx4 hx3 hx2 hx02;go_wp2_with fail;go_roundw
      case rel=>exact⟨p2++[x],q2,by rw [HL2.out];simp,by simp,hR3,HX3.out⟩
      case measure=>simp [intOf];omega
    | nil =>
     rw [List.append_nil] at hl2;have hR3:=zH (show R=post.all fun it=>it.2.all fun d=>hasM es d by rw [hR2.out];rfl);have hlen:it.2.length=p2.length:=(by rw [hl2]);have HX2:=zH (hx1.trans hx2);clear hR hR2 hl2 hx2;go_wp2_with fail;go_roundw
     case rel=>exact⟨pre++[it],post,by rw [HL.out];simp,by simp,hR3,HX2.out⟩
     case measure=>simp [intOf];omega
  | nil =>
   rw [List.append_nil] at hl;have hR2:=zH (show R=true by rw [hR.out];rfl);have hlen:ei.length=pre.length:=(by rw [hl]);clear hR hl;go_wp2_with fail
   (try simp only [Exit.inBlock,Exit.then])
   exact bodyPost_ret (results_tmp rfl _ _ _) rfl ⟨by rw [hR2.out];rfl,hx0.trans hx⟩
abbrev put7 (w:World) (q:Nat) (e:Entry) (v1 v2 v3:Value):World :=
 ((((((w.setCell ⟨q,0,none⟩ (St e.key)).setCell ⟨q,1,none⟩ v1).setCell ⟨q,2,none⟩ v2).setCell ⟨q,3,none⟩ v3).setCell ⟨q,4,none⟩ (U e.cell.1)).setCell ⟨q,5,none⟩ (St e.cell.2.1)).setCell ⟨q,6,none⟩ (.bool e.cell.2.2)
theorem zk1 {w wr:World} {q base:Nat} {e:Entry} {v1 v2 v3:Value} (hx:Ext w wr) (hq:w.heap.size<=q) (hn:EntNew wr base e v1 v2 v3) (hb:q < base):EntNew (put7 wr q e v1 v2 v3) w.heap.size e v1 v2 v3/\Ext w (put7 wr q e v1 v2 v3):=by
 have hle:w.heap.size<=(⟨q,0,none⟩:Addr).block:=hq
 have hs:∀ b,b ≠ q->(put7 wr q e v1 v2 v3).heap[b]? = wr.heap[b]?:=fun b hb=>((((((Below.heap_setCell _ _ _ b hb).trans (Below.heap_setCell _ _ _ b hb)).trans (Below.heap_setCell _ _ _ b hb)).trans (Below.heap_setCell _ _ _ b hb)).trans (Below.heap_setCell _ _ _ b hb)).trans (Below.heap_setCell _ _ _ b hb)).trans (Below.heap_setCell _ _ _ b hb)
 obtain⟨h1,h2,h3⟩:=hn
 refine ⟨⟨(h1.keep fun b hb _=>hs b (by have:=(h1.base_le hb).1;omega)).lower (by omega),(h2.keep fun b hb _=>hs b (by have:=(h2.base_le hb).1;omega)).lower (by omega),
  (((h3.keep (fun b hb _=>hs b (by omega)) (fun b hb _=>hs b (by have:=(h3.base_le hb).1;omega))).lower (by omega)).mono fun b _ hb=>by omega)⟩,?_⟩
 exact ((((((hx.set (p:=⟨q,0,none⟩) hq _).set (p:=⟨q,1,none⟩) hq _).set (p:=⟨q,2,none⟩) hq _).set (p:=⟨q,3,none⟩) hq _).set (p:=⟨q,4,none⟩) hq _).set (p:=⟨q,5,none⟩) hq _).set (p:=⟨q,6,none⟩) hq _
structure SmallE (e:Entry):Prop where
 seen:e.seen.length<=549755813888
 counts:e.counts.length<=549755813888
 items:e.items.length<=549755813888
 dots:∀ it ∈ e.items,it.2.length<=549755813888
 places:(zab e.items).length<=549755813888
def zbz (a b:Entry):Entry:=if zbl a zak then b else if a.key=b.key then ⟨a.key,za0 a.seen b.seen,zef a.counts b.counts,ze8 a.items a.seen b.items b.seen,ze0 a.cell b.cell⟩ else a
theorem zjv {S1 S2:Nat->Prop} {a b:Entry} {a1 a2 a3 b1 b2 b3:Value} {w:World} (ha:EntAt w S1 a a1 a2 a3) (hb:EntAt w S2 b b1 b2 b3) (sa:SmallE a) (sb:SmallE b) :
  Calls Tryz.prog 60 #[entV a a1 a2 a3,entV b b1 b2 b3] w fun r w'=>∃ u1 u2 u3,r=.returned (entV (zbz a b) u1 u2 u3)/\EntNew w' w.heap.size (zbz a b) u1 u2 u3/\Ext w w':=by
 have HJ:=zH (show zbz a b=if zbl a zak then b else if a.key=b.key then ⟨a.key,za0 a.seen b.seen,zef a.counts b.counts,ze8 a.items a.seen b.items b.seen,ze0 a.cell b.cell⟩ else a from rfl);generalize zbz a b=J at *;obtain⟨sa1,sa2,sa3,sa4,sa5⟩:=sa;obtain⟨sb1,sb2,sb3,sb4,sb5⟩:=sb;obtain⟨k,aS,ac,ai,p1,p2,p3⟩:=a;obtain⟨kb,bs,bc,bi,q1,q2,q3⟩:=b;obtain⟨A1,n1,A2,n2,A3,n3,rfl,rfl,rfl⟩:=ha.fm;obtain⟨B1,m1,B2,m2,B3,m3,rfl,rfl,rfl⟩:=hb.fm;simp only at sa1 sa2 sa3 sa4 sa5 sb1 sb2 sb3 sb4 sb5;have hx0:=(((Ext.refl w).alloc (.cells #[St k,.slice A1 aS.length n1,.slice A2 ac.length n2,.slice A3 ai.length n3,U p1,St p2,.bool p3] 46)).alloc (.cells #[St kb,.slice B1 bs.length m1,.slice B2 bc.length m2,.slice B3 bi.length m3,U q1,St q2,.bool q3] 46)).alloc (.cells #[St [],.slice none 0 0,.slice none 0 0,.slice none 0 0,.int .u64 0,St [],.bool false] 46);have rA:=((zaf w 46 [St k,.slice A1 aS.length n1,.slice A2 ac.length n2,.slice A3 ai.length n3,U p1,St p2,.bool p3]).alloc (.cells #[St kb,.slice B1 bs.length m1,.slice B2 bc.length m2,.slice B3 bi.length m3,U q1,St q2,.bool q3] 46)).alloc (.cells #[St [],.slice none 0 0,.slice none 0 0,.slice none 0 0,.int .u64 0,St [],.bool false] 46);have rB:=(zaf (w.alloc (.cells #[St k,.slice A1 aS.length n1,.slice A2 ac.length n2,.slice A3 ai.length n3,U p1,St p2,.bool p3] 46)) 46 [St kb,.slice B1 bs.length m1,.slice B2 bc.length m2,.slice B3 bi.length m3,U q1,St q2,.bool q3]).alloc (.cells #[St [],.slice none 0 0,.slice none 0 0,.slice none 0 0,.int .u64 0,St [],.bool false] 46);have rR:=zaf ((w.alloc (.cells #[St k,.slice A1 aS.length n1,.slice A2 ac.length n2,.slice A3 ai.length n3,U p1,St p2,.bool p3] 46)).alloc (.cells #[St kb,.slice B1 bs.length m1,.slice B2 bc.length m2,.slice B3 bi.length m3,U q1,St q2,.bool q3] 46)) 46 [St [],.slice none 0 0,.slice none 0 0,.slice none 0 0,.int .u64 0,St [],.bool false];rw [World.size_alloc] at rB;rw [World.size_alloc,World.size_alloc] at rR;have hz:w.heap.size+3<=(((w.alloc (.cells #[St k,.slice A1 aS.length n1,.slice A2 ac.length n2,.slice A3 ai.length n3,U p1,St p2,.bool p3] 46)).alloc (.cells #[St kb,.slice B1 bs.length m1,.slice B2 bc.length m2,.slice B3 bi.length m3,U q1,St q2,.bool q3] 46)).alloc (.cells #[St [],.slice none 0 0,.slice none 0 0,.slice none 0 0,.int .u64 0,St [],.bool false] 46)).heap.size:=by simp
 have HA:=zH ha;have HB:=zH hb;clear ha hb;obtain⟨k0,k1,k2,k3,k4,k5,k6⟩:=rA.p7;obtain⟨j0,j1,j2,j3,j4,j5,j6⟩:=rB.p7;go_enter Tryz.func60,Tryz.ntmps60;go_wp2_with fail;generalize hW0:((w.alloc (.cells #[St k,.slice A1 aS.length n1,.slice A2 ac.length n2,.slice A3 ai.length n3,U p1,St p2,.bool p3] 46)).alloc (.cells #[St kb,.slice B1 bs.length m1,.slice B2 bc.length m2,.slice B3 bi.length m3,U q1,St q2,.bool q3] 46)).alloc (.cells #[St [],.slice none 0 0,.slice none 0 0,.slice none 0 0,.int .u64 0,St [],.bool false] 46)=W0 at *;clear hW0;have HN:=zH (zpm (HA.out.ext hx0));refine HN.out.mono ?_;rintro r W1 ⟨rfl,hx1⟩;have hx01:=hx0.trans hx1;have rA1:=rA.ext hx1;have rB1:=rB.ext hx1;have rR1:=rR.ext hx1;have hz1:=Nat.le_trans hz hx1.size;clear rA rB rR hx0 hz k0 k1 k2 k3 k4 k5 k6 j0 j1 j2 j3 j4 j5 j6;obtain⟨k0,k1,k2,k3,k4,k5,k6⟩:=rA1.p7;obtain⟨j0,j1,j2,j3,j4,j5,j6⟩:=rB1.p7;cases hn:zbl ⟨k,aS,ac,ai,(p1,p2,p3)⟩ zak
 case true =>
  obtain rfl:J=⟨kb,bs,bc,bi,(q1,q2,q3)⟩:=by rw [HJ.out,hn];rfl
  clear HJ hn;have HC:=zH (zgs (HB.out.ext hx01) (by simp only;omega) (by simp only;omega) (by simp only;omega) (fun it hit=>Nat.le_trans (sb4 it hit) (by omega)));go_wp2_with fail;refine HC.out.mono ?_;rintro r W2 ⟨u1,u2,u3,rfl,hu,hx2⟩;obtain⟨C1,c1,C2,c2,C3,c3,rfl,rfl,rfl⟩:=hu.fm;have hr2:=rR1.ext hx2;obtain⟨r0,r1,r2,r3,r4,r5,r6⟩:=hr2.p7;obtain⟨f0,f1,f2,f3,f4,f5,f6⟩:=hr2.q7;have HU:=zH hu;have HX:=zH (hx01.trans hx2);clear hu;go_wp2_with fail
  (try simp only [Exit.inBlock,Exit.then])
  refine bodyPost_ret (v:=entV ⟨kb,bs,bc,bi,(q1,q2,q3)⟩ (.slice C1 bs.length c1) (.slice C2 bc.length c2) (.slice C3 bi.length c3)) (by simp [results,Tryz.f60,go_sem,entV,r0,r1,r2,r3,r4,r5,r6]) rfl ?_;have hp:=zk1 (q:=w.heap.size+1+1) HX.out (by omega) HU.out (by omega);refine ⟨.slice C1 bs.length c1,.slice C2 bc.length c2,.slice C3 bi.length c3,rfl,?_⟩;exact hp
 case false =>
  by_cases hk:k=kb
  ·subst hk;obtain rfl:J=⟨k,za0 aS bs,zef ac bc,ze8 ai aS bi bs,ze0 (p1,p2,p3) (q1,q2,q3)⟩:=by rw [HJ.out,hn];simp
   clear HJ hn HN;have HsA:Hid (Sl markT W1 S1 (.slice A1 aS.length n1) aS):=zH (HA.out.seen.ext (by decide) hx01);have HcA:Hid (Sl zcl W1 S1 (.slice A2 ac.length n2) ac):=zH (HA.out.counts.ext (by decide) hx01);have HiA:Hid (Sl itemT W1 S1 (.slice A3 ai.length n3) ai):=zH (HA.out.items.ext (by decide) hx01);have HsB:Hid (Sl markT W1 S2 (.slice B1 bs.length m1) bs):=zH (HB.out.seen.ext (by decide) hx01);have HcB:Hid (Sl zcl W1 S2 (.slice B2 bc.length m2) bc):=zH (HB.out.counts.ext (by decide) hx01);have HiB:Hid (Sl itemT W1 S2 (.slice B3 bi.length m3) bi):=zH (HB.out.items.ext (by decide) hx01);go_wp2_with fail
   refine zat [fun v _=>v=.pointer (some ⟨w.heap.size,0,none⟩),
    fun v _=>v=St k,
    fun v _=>v=.pointer (some ⟨w.heap.size,1,none⟩),
    fun v _=>v=.slice A1 aS.length n1,
    fun v _=>v=.pointer (some ⟨(w.heap.size+1),1,none⟩),
    fun v _=>v=.slice B1 bs.length m1,
    fun v W=>Own W W1.heap.size 97 2 v (za0 aS bs).length ((za0 aS bs).flatMap zaj),
    fun v _=>v=.pointer (some ⟨w.heap.size,2,none⟩),
    fun v _=>v=.slice A2 ac.length n2,
    fun v _=>v=.pointer (some ⟨(w.heap.size+1),2,none⟩),
    fun v _=>v=.slice B2 bc.length m2,
    fun v W=>Own W W1.heap.size 54 3 v (zef ac bc).length ((zef ac bc).flatMap zbx),
    fun v _=>v=.pointer (some ⟨w.heap.size,3,none⟩),
    fun v _=>v=.slice A3 ai.length n3,
    fun v _=>v=.pointer (some ⟨w.heap.size,1,none⟩),
    fun v _=>v=.slice A1 aS.length n1,
    fun v _=>v=.pointer (some ⟨(w.heap.size+1),3,none⟩),
    fun v _=>v=.slice B3 bi.length m3,
    fun v _=>v=.pointer (some ⟨(w.heap.size+1),1,none⟩),
    fun v _=>v=.slice B1 bs.length m1,
    fun v W=>OwnL itemT 57 W W1.heap.size (fun b=>W1.heap.size<=b) v (ze8 ai aS bi bs),
    fun v _=>v=.pointer (some ⟨w.heap.size,4,none⟩),
    fun v _=>v=zdc (p1,p2,p3),
    fun v _=>v=.pointer (some ⟨(w.heap.size+1),4,none⟩),
    fun v _=>v=zdc (q1,q2,q3),
    fun v _=>v=zdc (ze0 (p1,p2,p3) (q1,q2,q3))] rfl (by kernel_rfl) ?hR ?hstep ?hend
   case hR=>simp only [List.mem_cons,List.not_mem_nil,or_false,forall_eq_or_imp,forall_eq];exact⟨kP,kP,kP,kP,kP,kP,fun v _ _ h he=>h.ext he,kP,kP,kP,kP,fun v _ _ h he=>h.ext he,kP,kP,kP,kP,kP,kP,kP,kP,fun v _ _ h he=>h.ext he,kP,kP,kP,kP,kP⟩
   case hstep =>
    simp only [List.length_cons,List.length_nil,Nat.reduceAdd,List.take_succ_cons,List.take_zero,zbj,and_true]
    and_intros <;> intro x W he f
    ·have h:x 2=.pointer (some ⟨w.heap.size,0,none⟩):=f.1;go_wp;exact sQ
    ·have h:_=_:=f.1;have hc0:=(rA1.ext he).cell (j:=0) rfl;go_wp;exact sQ
    ·have h:x 2=.pointer (some ⟨w.heap.size,0,none⟩):=f.1;go_wp;exact sQ
    ·have h:_=_:=f.1;have hc1:=(rA1.ext he).cell (j:=1) rfl;go_wp;exact sQ
    ·have h:x 3=.pointer (some ⟨(w.heap.size+1),0,none⟩):=f.1;go_wp;exact sQ
    ·have h:_=_:=f.1;have hc1:=(rB1.ext he).cell (j:=1) rfl;go_wp;exact sQ
    ·have h19:_=_:=f.1;have h21:_=_:=f.2.1;have hs:=he.size;have HC:=zH (zjb (HsA.out.ext (by decide) he) (HsB.out.ext (by decide) he) (by omega) (by omega));go_wp;refine HC.out.mono ?_;rintro r W2 ⟨v,rfl,hv,hx2⟩;dsimp only;go_wp;refine zaa (v:=v) ?_ hx2;exact hv.lower hs
    ·have h:x 2=.pointer (some ⟨w.heap.size,0,none⟩):=f.1;go_wp;exact sQ
    ·have h:_=_:=f.1;have hc2:=(rA1.ext he).cell (j:=2) rfl;go_wp;exact sQ
    ·have h:x 3=.pointer (some ⟨(w.heap.size+1),0,none⟩):=f.1;go_wp;exact sQ
    ·have h:_=_:=f.1;have hc2:=(rB1.ext he).cell (j:=2) rfl;go_wp;exact sQ
    ·have h24:_=_:=f.1;have h26:_=_:=f.2.1;have hs:=he.size;have HC:=zH (zwe (HcA.out.ext (by decide) he) (HcB.out.ext (by decide) he) (by omega));go_wp;refine HC.out.mono ?_;rintro r W2 ⟨v,rfl,hv,hx2⟩;dsimp only;go_wp;refine zaa (v:=v) ?_ hx2;exact hv.lower hs
    ·have h:x 2=.pointer (some ⟨w.heap.size,0,none⟩):=f.1;go_wp;exact sQ
    ·have h:_=_:=f.1;have hc3:=(rA1.ext he).cell (j:=3) rfl;go_wp;exact sQ
    ·have h:x 2=.pointer (some ⟨w.heap.size,0,none⟩):=f.1;go_wp;exact sQ
    ·have h:_=_:=f.1;have hc1:=(rA1.ext he).cell (j:=1) rfl;go_wp;exact sQ
    ·have h:x 3=.pointer (some ⟨(w.heap.size+1),0,none⟩):=f.1;go_wp;exact sQ
    ·have h:_=_:=f.1;have hc3:=(rB1.ext he).cell (j:=3) rfl;go_wp;exact sQ
    ·have h:x 3=.pointer (some ⟨(w.heap.size+1),0,none⟩):=f.1;go_wp;exact sQ
    ·have h:_=_:=f.1;have hc1:=(rB1.ext he).cell (j:=1) rfl;go_wp;exact sQ
    ·have h29:_=_:=f.1;have h31:_=_:=f.2.1;have h33:_=_:=f.2.2.1;have h35:_=_:=f.2.2.2.1;have hs:=he.size;have HC:=zH (zw2 (HiA.out.ext (by decide) he) (HsA.out.ext (by decide) he) (HiB.out.ext (by decide) he) (HsB.out.ext (by decide) he) (by omega) (by omega) (by omega));go_wp;refine HC.out.mono ?_;rintro r W2 ⟨v,rfl,hv,hx2⟩;dsimp only;go_wp;refine zaa (v:=v) ?_ hx2;exact (hv.lower hs).mono fun b _ h=>Nat.le_trans hs h
    ·have h:x 2=.pointer (some ⟨w.heap.size,0,none⟩):=f.1;go_wp;exact sQ
    ·have h:_=_:=f.1;have hc4:=(rA1.ext he).cell (j:=4) rfl;have hc5:=(rA1.ext he).cell (j:=5) rfl;have hc6:=(rA1.ext he).cell (j:=6) rfl;go_wp;exact sQ
    ·have h:x 3=.pointer (some ⟨(w.heap.size+1),0,none⟩):=f.1;go_wp;exact sQ
    ·have h:_=_:=f.1;have hc4:=(rB1.ext he).cell (j:=4) rfl;have hc5:=(rB1.ext he).cell (j:=5) rfl;have hc6:=(rB1.ext he).cell (j:=6) rfl;go_wp;exact sQ
    ·have h38:_=_:=f.1;have h40:_=_:=f.2.1;have hs:=he.size;have HC:=zH (zxb (p1,p2,p3) (q1,q2,q3) W);go_wp;refine HC.out.mono ?_;rintro r W2 ⟨rfl,hx2⟩;dsimp only;go_wp;exact zaa rfl hx2
   case hend =>
    intro x W he f;obtain⟨-,h17,-,-,-,-,h22,-,-,-,-,h27,-,-,-,-,-,-,-,-,h36,-,-,-,-,h41,-⟩:(x 16)=.pointer (some ⟨w.heap.size,0,none⟩)/\(x 17)=St k/\(x 18)=.pointer (some ⟨w.heap.size,1,none⟩)/\(x 19)=.slice A1 aS.length n1/\(x 20)=.pointer (some ⟨(w.heap.size+1),1,none⟩)/\(x 21)=.slice B1 bs.length m1/\Own W W1.heap.size 97 2 (x 22) (za0 aS bs).length ((za0 aS bs).flatMap zaj)/\(x 23)=.pointer (some ⟨w.heap.size,2,none⟩)/\(x 24)=.slice A2 ac.length n2/\(x 25)=.pointer (some ⟨(w.heap.size+1),2,none⟩)/\(x 26)=.slice B2 bc.length m2/\Own W W1.heap.size 54 3 (x 27) (zef ac bc).length ((zef ac bc).flatMap zbx)/\(x 28)=.pointer (some ⟨w.heap.size,3,none⟩)/\(x 29)=.slice A3 ai.length n3/\(x 30)=.pointer (some ⟨w.heap.size,1,none⟩)/\(x 31)=.slice A1 aS.length n1/\(x 32)=.pointer (some ⟨(w.heap.size+1),3,none⟩)/\(x 33)=.slice B3 bi.length m3/\(x 34)=.pointer (some ⟨(w.heap.size+1),1,none⟩)/\(x 35)=.slice B1 bs.length m1/\OwnL itemT 57 W W1.heap.size (fun b=>W1.heap.size<=b) (x 36) (ze8 ai aS bi bs)/\(x 37)=.pointer (some ⟨w.heap.size,4,none⟩)/\(x 38)=zdc (p1,p2,p3)/\(x 39)=.pointer (some ⟨(w.heap.size+1),4,none⟩)/\(x 40)=zdc (q1,q2,q3)/\(x 41)=zdc (ze0 (p1,p2,p3) (q1,q2,q3))/\True:=f;simp only [List.length_cons,List.length_nil,Nat.reduceAdd,List.take_succ_cons,List.take_zero,List.filterMap_cons,List.filterMap_nil,List.drop_succ_cons,List.drop_zero,zav,Act.put,List.setIfInBounds_toArray,List.set_cons_succ,List.set_cons_zero,h17,h41];obtain⟨C1,c1,e1,-,-⟩:=h22.form;obtain⟨C2,c2,e2,-,-⟩:=h27.form;obtain⟨C3,c3,e3,-,-⟩:=h36.form;have hrW:=rR1.ext he;have r0:=hrW.cell (j:=0) rfl;have f0:=hrW.frozen 0;have r1:=hrW.cell (j:=1) rfl;have f1:=hrW.frozen 1;have r2:=hrW.cell (j:=2) rfl;have f2:=hrW.frozen 2;have r3:=hrW.cell (j:=3) rfl;have f3:=hrW.frozen 3;have r4:=hrW.cell (j:=4) rfl;have f4:=hrW.frozen 4;have r5:=hrW.cell (j:=5) rfl;have f5:=hrW.frozen 5;have r6:=hrW.cell (j:=6) rfl;have f6:=hrW.frozen 6;have HU:=zH (EntNew.mk (e:=⟨k,za0 aS bs,zef ac bc,ze8 ai aS bi bs,ze0 (p1,p2,p3) (q1,q2,q3)⟩) h22 h27 h36);simp only [e1,e2,e3] at HU ⊢;clear h22 h27 h36;have HX:=zH (hx01.trans he);go_wp2_with fail
    (try simp only [Exit.inBlock,Exit.then])
    refine bodyPost_ret (v:=entV ⟨k,za0 aS bs,zef ac bc,ze8 ai aS bi bs,ze0 (p1,p2,p3) (q1,q2,q3)⟩ (.slice C1 (za0 aS bs).length c1) (.slice C2 (zef ac bc).length c2) (.slice C3 (ze8 ai aS bi bs).length c3)) (by simp [results,Tryz.f60,go_sem,entV,r0,r1,r2,r3,r4,r5,r6]) rfl ?_;have hp:=zk1 (q:=w.heap.size+1+1) HX.out (by omega) HU.out (by omega);refine ⟨.slice C1 (za0 aS bs).length c1,.slice C2 (zef ac bc).length c2,.slice C3 (ze8 ai aS bi bs).length c3,rfl,?_⟩;exact hp
  ·have hkb:(k == kb)=false:=(by simp [hk]);obtain rfl:J=⟨k,aS,ac,ai,(p1,p2,p3)⟩:=by rw [HJ.out,hn];simp [hk]
   clear HJ hn;have HC:=zH (zgs (HA.out.ext hx01) (by simp only;omega) (by simp only;omega) (by simp only;omega) (fun it hit=>Nat.le_trans (sa4 it hit) (by omega)));go_wp2_with fail;refine HC.out.mono ?_;rintro r W2 ⟨u1,u2,u3,rfl,hu,hx2⟩;obtain⟨C1,c1,C2,c2,C3,c3,rfl,rfl,rfl⟩:=hu.fm;have hr2:=rR1.ext hx2;obtain⟨r0,r1,r2,r3,r4,r5,r6⟩:=hr2.p7;obtain⟨f0,f1,f2,f3,f4,f5,f6⟩:=hr2.q7;have HU:=zH hu;have HX:=zH (hx01.trans hx2);clear hu;go_wp2_with fail
   (try simp only [Exit.inBlock,Exit.then])
   refine bodyPost_ret (v:=entV ⟨k,aS,ac,ai,(p1,p2,p3)⟩ (.slice C1 aS.length c1) (.slice C2 ac.length c2) (.slice C3 ai.length c3)) (by simp [results,Tryz.f60,go_sem,entV,r0,r1,r2,r3,r4,r5,r6]) rfl ?_;have hp:=zk1 (q:=w.heap.size+1+1) HX.out (by omega) HU.out (by omega);refine ⟨.slice C1 aS.length c1,.slice C2 ac.length c2,.slice C3 ai.length c3,rfl,?_⟩;exact hp
def za4 (l:List Entry) (k:Str):Option Entry:=l.find? fun e=>decide (e.key=k)
theorem zh1:∀ (l:List Entry) (k:Str),match l.findIdx? (fun e=>decide (e.key=k)) with
  | none=>za4 l k=none
  | some j=>∃ pre m post,l=pre++m :: post/\pre.length=j/\m.key=k/\za4 l k=some m
 | [],k=>rfl
 | e :: r,k=>by
  by_cases h:e.key=k
  ·simp only [List.findIdx?_cons,decide_eq_true h,if_true];exact⟨[],e,r,rfl,rfl,h,by simp [za4,h]⟩
  ·have ih:=zh1 r k;simp only [List.findIdx?_cons,decide_eq_false h,Bool.false_eq_true,if_false]
   cases hf:r.findIdx? (fun e=>decide (e.key=k)) with
   | none=>rw [hf] at ih;simp only [Option.map_none];rw [za4,List.find?_cons_of_neg (by simp [h])];exact ih
   | some j=>rw [hf] at ih;obtain⟨pre,m,post,e1,e2,e3,e4⟩:=ih;simp only [Option.map_some];refine ⟨e :: pre,m,post,by rw [e1];rfl,by simp [e2],e3,?_⟩;rw [za4,List.find?_cons_of_neg (by simp [h])];exact e4
theorem zeb {w wr:World} {q:Nat} (hx:Ext w wr) (hq:w.heap.size<=q) (e:Entry) (v1 v2 v3:Value):Ext w (put7 wr q e v1 v2 v3) :=
 ((((((hx.set (p:=⟨q,0,none⟩) hq _).set (p:=⟨q,1,none⟩) hq _).set (p:=⟨q,2,none⟩) hq _).set (p:=⟨q,3,none⟩) hq _).set (p:=⟨q,4,none⟩) hq _).set (p:=⟨q,5,none⟩) hq _).set (p:=⟨q,6,none⟩) hq _
theorem EntAt.none (w:World) (S:Nat->Prop) (A B C:Option Addr):EntAt w S zak (.slice A 0 0) (.slice B 0 0) (.slice C 0 0):=⟨Sl.nil _ _ (by decide),Sl.nil _ _ (by decide),Sl.nil _ _ (by decide)⟩
theorem znf {S:Nat->Prop} {v:Value} {l:List Entry} {w:World} (k:Str) (hv:Sl entryT w S v l) :
  Calls Tryz.prog 49 #[v,St k] w fun r w'=>∃ v1 v2 v3,r=.returned (.tuple #[entV ((za4 l k).getD zak) v1 v2 v3,.bool (za4 l k).isSome])/\EntAt w' S ((za4 l k).getD zak) v1 v2 v3/\Ext w w':=by
 have hx0:=(Ext.refl w).alloc (.cells #[St [],.slice none 0 0,.slice none 0 0,.slice none 0 0,.int .u64 0,St [],.bool false] 46);have hr0:=zaf w 46 [St [],.slice none 0 0,.slice none 0 0,.slice none 0 0,.int .u64 0,St [],.bool false];have HP:=zH (zk0 (hv.ext (by decide) hx0));have hv':=hv;obtain⟨A,c,rfl,hc1,hc2⟩:=hv.form;have HAT:=zH (fun (pre post:List Entry) (m:Entry) (wr:World) (h:Ext w wr) (hl:l=pre++m :: post)=>zea hv' h hl);clear hv hv';go_enter Tryz.func49,Tryz.ntmps49;go_wp2_with fail;generalize hW0:w.alloc (.cells #[St [],.slice none 0 0,.slice none 0 0,.slice none 0 0,.int .u64 0,St [],.bool false] 46)=W0 at *;clear hW0;refine HP.out.mono ?_;rintro r W1 ⟨m,rfl,hm1,hM,hx1⟩;have hlk:=(zbi (P:=Tryz.prog) (z:=0) Tryz.underlying129 zd8 zmf hM k).2;have hpl:=zhc l 0 [] k;have hsp:=zh1 l k;have hx01:=hx0.trans hx1;have hr1:=hr0.ext hx1;rw [zgv,show ∀ L:List (Str × Int),getL 0 L k=(zdd L k).getD 0 from fun _=>rfl,hpl] at hlk;simp only [show zdd ([]:List (Str × Int)) k=none from rfl,Nat.zero_add] at hlk;clear hM hpl HP hx0 hr0 hx1
 cases hf:l.findIdx? (fun e=>decide (e.key=k)) with
 | none =>
  rw [hf] at hlk hsp;simp only at hsp;simp only [Option.map_none,Option.getD_none,Option.isSome_none] at hlk;obtain⟨f0,f1,f2,f3,f4,f5,f6⟩:=hr1.q7;obtain⟨r0,r1,r2,r3,r4,r5,r6⟩:=hr1.p7;have HX:=zH hx01;have HF:=zH hsp;clear hsp hf hx01 hr1 HAT;go_wp2_with fail
  (try simp only [Exit.inBlock,Exit.then])
  refine bodyPost_ret (v:=.tuple #[entV zak (.slice none 0 0) (.slice none 0 0) (.slice none 0 0),.bool false]) (by simp [results,Tryz.f49,go_sem,entV,entC,zak,r0,r1,r2,r3,r4,r5,r6]) rfl ?_;have hp:=zeb (q:=w.heap.size) HX.out (Nat.le_refl _) zak (.slice none 0 0) (.slice none 0 0) (.slice none 0 0);have hq:=EntAt.none (put7 W1 w.heap.size zak (.slice none 0 0) (.slice none 0 0) (.slice none 0 0)) S none none none;refine ⟨.slice none 0 0,.slice none 0 0,.slice none 0 0,by rw [HF.out];rfl,?_⟩;rw [HF.out];exact⟨hq,hp⟩
 | some j =>
  rw [hf] at hlk hsp;obtain⟨pre,m,post,hl,hj,hk,hfe⟩:=hsp;simp only [Option.map_some,Option.getD_some,Option.isSome_some] at hlk;obtain⟨b,o,v1,v2,v3,rfl,e0,e1,e2,e3,e4,e5,e6,hEA⟩:=HAT.out pre post m W1 hx01 hl;obtain⟨A1,n1,A2,n2,A3,n3,rfl,rfl,rfl⟩:=hEA.fm;have hlt:pre.length < l.length:=by rw [hl];simp
  subst hj;have HEA:=zH hEA;obtain⟨f0,f1,f2,f3,f4,f5,f6⟩:=hr1.q7;obtain⟨r0,r1,r2,r3,r4,r5,r6⟩:=hr1.p7;have HX:=zH hx01;have HF:=zH hfe;clear hf hx01 hr1 hl hEA HAT hfe hk;go_wp2_with fail
  (try simp only [Exit.inBlock,Exit.then])
  refine bodyPost_ret (v:=.tuple #[entV m (.slice A1 m.seen.length n1) (.slice A2 m.counts.length n2) (.slice A3 m.items.length n3),.bool true]) (by simp [results,Tryz.f49,go_sem,entV,entC,r0,r1,r2,r3,r4,r5,r6]) rfl ?_;have hp:=zeb (q:=w.heap.size) HX.out (Nat.le_refl _) m (.slice A1 m.seen.length n1) (.slice A2 m.counts.length n2) (.slice A3 m.items.length n3);have hq:=HEA.out.ext hp;refine ⟨.slice A1 m.seen.length n1,.slice A2 m.counts.length n2,.slice A3 m.items.length n3,by rw [HF.out];rfl,?_⟩;rw [HF.out];exact⟨hq,hp⟩
def zec:List Entry->List Entry->Bool
 | [],[]=>true
 | a :: r,b :: s=>zbl a b && zec r s
 | _,_=>false
theorem sameEs_iff:∀ {a b:List Entry},zec a b=true↔a=b
 | [],[]=>by simp [zec]
 | [],_ :: _=>by simp [zec]
 | _ :: _,[]=>by simp [zec]
 | a :: r,b :: s=>by simp [zec,sameE_iff,sameEs_iff]
theorem zuy {a b:List Entry} (h:a.length ≠ b.length):zec a b=false:=by
 cases hs:zec a b with
 | false=>rfl
 | true=>exact absurd (congrArg List.length (sameEs_iff.1 hs)) h
theorem zs1 (pre:List Entry) (a b:List Entry):zec (pre++a) (pre++b)=zec a b:=by
 induction pre with
 | nil=>rfl
 | cons x r ih=>simp [zec,ih,sameE_iff.2 (rfl:x=x)]
abbrev stV (v1 v2 v3:Value):Value:=.agg #[v1,v2,v3]
structure StAt (w:World) (S:Nat->Prop) (s:State) (v1 v2 v3:Value):Prop where
 all:Sl markT w S v1 s.all
 entries:Sl entryT w S v2 s.entries
 pruned:Sl strT w S v3 s.pruned
theorem StAt.fm {w:World} {S:Nat→Prop} {s:State} {v1 v2 v3:Value} (h:StAt w S s v1 v2 v3):∃ A a B b C c,v1=.slice A s.all.length a∧v2=.slice B s.entries.length b∧v3=.slice C s.pruned.length c:=by obtain⟨A,a,h1,-,-⟩:=h.all.form;obtain⟨B,b,h2,-,-⟩:=h.entries.form;obtain⟨C,c,h3,-,-⟩:=h.pruned.form;exact⟨A,a,B,b,C,c,h1,h2,h3⟩
theorem StAt.ext {w w':World} {S:Nat->Prop} {s:State} {v1 v2 v3:Value} (h:StAt w S s v1 v2 v3) (he:Ext w w'):StAt w' S s v1 v2 v3 :=
 ⟨h.all.ext (by decide) he,h.entries.ext (by decide) he,h.pruned.ext (by decide) he⟩
theorem StAt.mono {w:World} {S S':Nat->Prop} {s:State} {v1 v2 v3:Value} (h:StAt w S s v1 v2 v3) (hs:∀ b,b < w.heap.size->S b->S' b):StAt w S' s v1 v2 v3 :=
 ⟨h.all.mono (by decide) hs,h.entries.mono (by decide) hs,h.pruned.mono (by decide) hs⟩
def zed (a b:State):Bool:=decide (a.all=b.all) && (decide (a.pruned=b.pruned) && zec a.entries b.entries)
theorem sameSt_iff {a b:State}:zed a b=true↔a=b:=by
 obtain⟨a1,a2,a3⟩:=a;obtain⟨b1,b2,b3⟩:=b;simp only [zed,Bool.and_eq_true,decide_eq_true_eq,sameEs_iff,State.mk.injEq]
 constructor
 ·rintro⟨h1,h2,h3⟩;exact⟨h1,h3,h2⟩
 ·rintro⟨h1,h2,h3⟩;exact⟨h1,h3,h2⟩
def SE (base g:Nat) (v:Value) (b:Nat):Prop:=base<=b/\b ≠ g/\¬ zad v b
def RowE (w:World) (base g:Nat) (v:Value) (l:List Entry):Prop:=OwnL entryT 46 w base (SE base g v) v l
theorem Own.apart {w:World} {base T T' k n g:Nat} {v:Value} {xs ys tl:List Value} (h:Own w base T k v n xs) (hr:RowIs w g T' ys tl) (hT:T ≠ T'):¬ zad v g:=by
 rintro⟨g',n',c,hv,hc,rfl⟩;rcases h.2 with ⟨A,rfl,-⟩ | ⟨g',cap,cur,rfl,hb,hg,-⟩
 ·cases hv;omega
 ·cases hv;unfold RowIs at hr;rw [hg] at hr;injection hr with e
  injection e with e1 e2 e3
  exact hT e2
theorem RowE.own {w:World} {base g:Nat} {v:Value} {l:List Entry} (h:RowE w base g v l):∃ xs,Own w base 46 7 v l.length xs:=OwnL.own h
theorem RowE.form {w:World} {base g:Nat} {v:Value} {l:List Entry} (h:RowE w base g v l):∃ A c,v=.slice A l.length c/\l.length<=c/\c<=9223372036854775807:=OwnL.form h
theorem RowE.nil (w:World) (base g:Nat) (A:Option Addr):RowE w base g (.slice A 0 0) []:=OwnL.nil w A
theorem RowE.ext {w w':World} {base g:Nat} {v:Value} {l:List Entry} (h:RowE w base g v l) (he:Ext w w'):RowE w' base g v l:=OwnL.ext h he
theorem RowE.base_le {w:World} {base g:Nat} {v:Value} {l:List Entry} (h:RowE w base g v l) {b:Nat} (hb:zad v b):base<=b/\b < w.heap.size:=OwnL.base_le h hb
theorem RowE.set {w:World} {base g j T:Nat} {v u:Value} {l:List Entry} {ys tl:List Value} (h:RowE w base g v l) (hr:RowIs w g T ys tl) (hT:46 ≠ T):RowE (w.setCell ⟨g,j,none⟩ u) base g v l:=by
 obtain⟨xs,ho⟩:=h.own;exact OwnL.keep h (fun b hb _=>Below.heap_setCell _ _ _ _ hb.2.1) fun b hb _=>Below.heap_setCell _ _ _ _ fun e=>ho.apart hr hT (by have e2:b=g:=e;rw [<- e2];exact hb)
theorem RowE.keep {w w':World} {base g:Nat} {v:Value} {l:List Entry} (h:RowE w base g v l) (hs:∀ b,base<=b->b < w.heap.size->b ≠ g ∨ zad v b->w'.heap[b]? = w.heap[b]?):RowE w' base g v l :=
 OwnL.keep h (fun b hb hlt=>hs b hb.1 hlt (.inl hb.2.1)) fun b hb hlt=>hs b (OwnL.base_le h hb).1 hlt (.inr hb)
theorem EntNew.keep {w w':World} {lo:Nat} {e:Entry} {v1 v2 v3:Value} (h:EntNew w lo e v1 v2 v3) (hs:∀ b,lo<=b->b < w.heap.size->w'.heap[b]? = w.heap[b]?):EntNew w' lo e v1 v2 v3 :=
 ⟨h.seen.keep fun b hb hlt=>hs b (h.seen.base_le hb).1 hlt,h.counts.keep fun b hb hlt=>hs b (h.counts.base_le hb).1 hlt,h.items.keep (fun b hb hlt=>hs b hb hlt) fun b hb hlt=>hs b (h.items.base_le hb).1 hlt⟩
theorem EntNew.rd {w:World} {lo:Nat} {e:Entry} {v1 v2 v3:Value} {S:Nat->Prop} (h:EntNew w lo e v1 v2 v3) (hS:∀ b,b < w.heap.size->lo<=b->S b):entryT.rd w S e (entL e v1 v2 v3):=by
 have h2:=h.at.mono (S':=S) (fun b hb h=>hS b hb h);exact⟨v1,v2,v3,rfl,h2.seen,h2.counts,h2.items⟩
theorem EntAt.rd {w:World} {e:Entry} {v1 v2 v3:Value} {S S':Nat->Prop} (h:EntAt w S e v1 v2 v3) (hS:∀ b,b < w.heap.size->S b->S' b):entryT.rd w S' e (entL e v1 v2 v3):=by
 have h2:=h.mono hS;exact⟨v1,v2,v3,rfl,h2.seen,h2.counts,h2.items⟩
theorem zgm {w:World} {S:Nat->Prop} {e:Entry} {vs:List Value} (h:entryT.rd w S e vs):∀ u ∈ vs,u.oneCell'=true:=entryT.one h
theorem RowE.snoc {W W':World} {base g lo:Nat} {v v':Value} {l:List Entry} {m:Entry} {u1 u2 u3:Value} {vss:List (List Value)} (h1:vss.length=l.length) (h2:∀ (i:Nat) x vs,l[i]? = some x->vss[i]? = some vs->entryT.rd W (SE base g v) x vs)
  (hn:EntNew W lo m u1 u2 u3) (hlo:∀ b,zad v b->b < lo) (hg:g < lo) (hbl:base<=lo) (h3:Own W' base 46 7 v' (l.length+1) (vss.flatten++entL m u1 u2 u3)) (hgr:Grew W W' v v'):RowE W' base g v' (l++[m]):=by
 refine OwnL.snoc (T:=entryT) h1 (fun i x vs hi hv=>?_) ?_ h3
 ·have a:=entryT.mono (S':=fun b=>SE base g v b/\b < W.heap.size) (h2 i x vs hi hv) (fun b hb h=>⟨h,hb⟩);have b:=entryT.keep (w':=W') a (fun b hb hlt=>hgr.same b hlt hb.1.2.2)
  exact entryT.mono b fun b _ hb=>⟨hb.1.1,hb.1.2.1,fun ho=>by
   rcases hgr.blk b ho with h | h
   ·exact hb.1.2.2 h
   ·have:=hb.2;omega⟩
 ·have a:entryT.rd W (fun b=>lo<=b/\b < W.heap.size) m (entL m u1 u2 u3):=hn.rd fun b hb h=>⟨h,hb⟩
  have b:=entryT.keep (w':=W') a (fun b hb hlt=>hgr.same b hlt fun ho=>by have:=hlo b ho;omega)
  exact entryT.mono b fun b _ hb=>⟨by omega,by omega,fun ho=>by
   rcases hgr.blk b ho with h | h
   ·have:=hlo b h;omega
   ·have:=hb.2;omega⟩
def MvR (v:Value) (w w':World):Prop:=w.heap.size<=w'.heap.size/\∀ b,b < w.heap.size->¬ zad v b->w'.heap[b]? = w.heap[b]?
structure Moved (v:Value) (w w':World):Prop where
 os:w'.os=w.os
 tape:w'.tape=w.tape
 output:w'.output=w.output
 mv:MvR v w w'
theorem Grew.moved {w w1 w':World} {v v':Value} (he:Ext w w1) (h:Grew w1 w' v v'):Moved v w w' :=
 ⟨h.os.trans he.os,h.tape.trans he.tape,h.output.trans he.output,Nat.le_trans he.size h.size,fun b hb hn=>(h.same b (Nat.lt_of_lt_of_le hb he.size) hn).trans (he.block b hb)⟩
theorem Ext.moved {w0 w w':World} {v:Value} (he:Ext w0 w) (h:Moved v w w') (hv:∀ b,zad v b->w0.heap.size<=b):Ext w0 w' :=
 ⟨h.os.trans he.os,h.tape.trans he.tape,h.output.trans he.output,Nat.le_trans he.size h.mv.1,fun b hb=>(h.mv.2 b (Nat.lt_of_lt_of_le hb he.size) (fun ho=>by have:=hv b ho;omega)).trans (he.block b hb)⟩
theorem EntNew.mvR {w w':World} {lo:Nat} {e:Entry} {v1 v2 v3 v:Value} (h:EntNew w lo e v1 v2 v3) (m:MvR v w w') (hv:∀ b,zad v b->b < lo):EntNew w' lo e v1 v2 v3 :=
 h.keep fun b hb hlt=>m.2 b hlt fun ho=>by have:=hv b ho;omega
theorem RowIs.mvR {w w':World} {g T:Nat} {xs tl:List Value} {v:Value} (h:RowIs w g T xs tl) (m:MvR v w w') (hv:¬ zad v g):RowIs w' g T xs tl:=h.keep (m.2 g h.lt hv)
theorem Own.mvR {w w':World} {base T k n:Nat} {u v:Value} {xs:List Value} (h:Own w base T k u n xs) (m:MvR v w w') (hv:∀ b,zad u b->¬ zad v b):Own w' base T k u n xs :=
 h.keep fun b hb hlt=>m.2 b hlt (hv b hb)
theorem Own.apart2 {w:World} {base base' T T' k k' n n':Nat} {u v:Value} {xs ys:List Value} (h:Own w base T k u n xs) (h':Own w base' T' k' v n' ys) (hT:T ≠ T'):∀ b,zad u b->¬ zad v b:=by
 rintro b ⟨g,m,c,rfl,hc,rfl⟩ ⟨g',m',c',rfl,hc',rfl⟩;rcases h.2 with ⟨A,e,-⟩ | ⟨g1,cap,cur,e,hb,hg,-⟩
 ·cases e;omega
 ·cases e;rcases h'.2 with ⟨A,e,-⟩ | ⟨g1,cap',cur',e,hb',hg',-⟩
  ·cases e;omega
  ·cases e;rw [hg] at hg';injection hg' with e
   injection e with e1 e2 e3
   exact hT e2
structure StNew (w:World) (base:Nat) (s:State) (v1 v2 v3:Value):Prop where
 all:Own w base 97 2 v1 s.all.length (s.all.flatMap zaj)
 entries:OwnL entryT 46 w base (fun b=>base<=b/\¬ zad v2 b) v2 s.entries
 pruned:Own w base 9 1 v3 s.pruned.length (s.pruned.flatMap strC)
theorem StNew.fm {w:World} {S:Nat} {s:State} {v1 v2 v3:Value} (h:StNew w S s v1 v2 v3):∃ A a B b C c,v1=.slice A s.all.length a∧v2=.slice B s.entries.length b∧v3=.slice C s.pruned.length c:=by obtain⟨A,a,h1,-,-⟩:=h.all.form;obtain⟨B,b,h2,-,-⟩:=h.entries.form;obtain⟨C,c,h3,-,-⟩:=h.pruned.form;exact⟨A,a,B,b,C,c,h1,h2,h3⟩
theorem StNew.at {w:World} {base:Nat} {s:State} {v1 v2 v3:Value} (h:StNew w base s v1 v2 v3):StAt w (fun b=>base<=b) s v1 v2 v3 :=
 ⟨zbb h.all,h.entries.sl (by decide) (fun _ _ h=>h.1) (fun _ h _=>h),(OwnL.flat_iff (S:=fun b=>base<=b).2 h.pruned).sl (by decide) (fun _ _ h=>h) (fun _ h _=>h)⟩
structure SmallS (s:State):Prop where
 all:s.all.length<=549755813888
 entries:s.entries.length<=549755813888
 pruned:s.pruned.length<=549755813888
 each:∀ e ∈ s.entries,SmallE e
def zzx (w:World) (S:Nat->Prop) (v:Value):Prop:=∀ b o n c,v=.slice (some ⟨b,o,none⟩) n c->0 < n->S b/\∃ cur T,w.heap[b]? = some (.cells cur T (0,0))
def entryF:Shape Entry where
 k:=7
 rd w S x vs:=entryT.rd w S x vs/\∀ v,vs[1]? = some v->zzx w S v
 len h:=entryT.len h.1
 one h:=entryT.one h.1
 keep h hs:=⟨entryT.keep h.1 hs,fun v hv b o n c e hn=>by obtain⟨hS,cur,T,hc⟩:=h.2 v hv b o n c e hn;exact⟨hS,cur,T,(hs b hS (Array.getElem?_eq_some_iff.1 hc).1).trans hc⟩⟩
 mono h hs:=⟨entryT.mono h.1 hs,fun v hv b o n c e hn=>by obtain⟨hS,cur,T,hc⟩:=h.2 v hv b o n c e hn;exact⟨hs b (Array.getElem?_eq_some_iff.1 hc).1 hS,cur,T,hc⟩⟩
theorem EntNew.rdF {w:World} {lo:Nat} {e:Entry} {v1 v2 v3:Value} {S:Nat->Prop} (h:EntNew w lo e v1 v2 v3) (hS:∀ b,b < w.heap.size->lo<=b->S b):entryF.rd w S e (entL e v1 v2 v3):=by
 refine ⟨h.rd hS,fun v hv b o n c he hn=>?_⟩;have hv1:v1=v:=by simpa using hv
 subst hv1;rcases h.seen.2 with ⟨A,h0,-⟩ | ⟨g,cap,cur,h0,hb,hg,-⟩
 ·rw [h0] at he;cases he;omega
 ·rw [h0] at he;cases he;exact⟨hS _ (Array.getElem?_eq_some_iff.1 hg).1 hb,cur,_,hg⟩
def RowF (w:World) (base g:Nat) (v:Value) (l:List Entry):Prop:=OwnL entryF 46 w base (SE base g v) v l
theorem RowF.own {w:World} {base g:Nat} {v:Value} {l:List Entry} (h:RowF w base g v l):∃ xs,Own w base 46 7 v l.length xs:=OwnL.own h
theorem RowF.form {w:World} {base g:Nat} {v:Value} {l:List Entry} (h:RowF w base g v l):∃ A c,v=.slice A l.length c/\l.length<=c/\c<=9223372036854775807:=OwnL.form h
theorem RowF.nil (w:World) (base g:Nat) (A:Option Addr):RowF w base g (.slice A 0 0) []:=OwnL.nil w A
theorem RowF.ext {w w':World} {base g:Nat} {v:Value} {l:List Entry} (h:RowF w base g v l) (he:Ext w w'):RowF w' base g v l:=OwnL.ext h he
theorem RowF.base_le {w:World} {base g:Nat} {v:Value} {l:List Entry} (h:RowF w base g v l) {b:Nat} (hb:zad v b):base<=b/\b < w.heap.size:=OwnL.base_le h hb
theorem RowF.set {w:World} {base g j T:Nat} {v u:Value} {l:List Entry} {ys tl:List Value} (h:RowF w base g v l) (hr:RowIs w g T ys tl) (hT:46 ≠ T):RowF (w.setCell ⟨g,j,none⟩ u) base g v l:=by
 obtain⟨xs,ho⟩:=h.own;exact OwnL.keep h (fun b hb _=>Below.heap_setCell _ _ _ _ hb.2.1) fun b hb _=>Below.heap_setCell _ _ _ _ fun e=>ho.apart hr hT (by have e2:b=g:=e;rw [<- e2];exact hb)
theorem RowF.snoc {W W':World} {base g lo:Nat} {v v':Value} {l:List Entry} {m:Entry} {u1 u2 u3:Value} {vss:List (List Value)} (h1:vss.length=l.length) (h2:∀ (i:Nat) x vs,l[i]? = some x->vss[i]? = some vs->entryF.rd W (SE base g v) x vs)
  (hn:EntNew W lo m u1 u2 u3) (hlo:∀ b,zad v b->b < lo) (hg:g < lo) (hbl:base<=lo) (h3:Own W' base 46 7 v' (l.length+1) (vss.flatten++entL m u1 u2 u3)) (hgr:Grew W W' v v'):RowF W' base g v' (l++[m]):=by
 refine OwnL.snoc (T:=entryF) h1 (fun i x vs hi hv=>?_) ?_ h3
 ·have a:=entryF.mono (S':=fun b=>SE base g v b/\b < W.heap.size) (h2 i x vs hi hv) (fun b hb h=>⟨h,hb⟩);have b:=entryF.keep (w':=W') a (fun b hb hlt=>hgr.same b hlt hb.1.2.2)
  exact entryF.mono b fun b _ hb=>⟨hb.1.1,hb.1.2.1,fun ho=>by
   rcases hgr.blk b ho with h | h
   ·exact hb.1.2.2 h
   ·have:=hb.2;omega⟩
 ·have a:entryF.rd W (fun b=>lo<=b/\b < W.heap.size) m (entL m u1 u2 u3):=hn.rdF fun b hb h=>⟨h,hb⟩
  have b:=entryF.keep (w':=W') a (fun b hb hlt=>hgr.same b hlt fun ho=>by have:=hlo b ho;omega)
  exact entryF.mono b fun b _ hb=>⟨by omega,by omega,fun ho=>by
   rcases hgr.blk b ho with h | h
   ·have:=hlo b h;omega
   ·have:=hb.2;omega⟩
theorem OwnL.toT {w:World} {base:Nat} {S:Nat->Prop} {v:Value} {l:List Entry} (h:OwnL entryF 46 w base S v l):OwnL entryT 46 w base S v l:=by
 obtain⟨vss,h1,h2,h3⟩:=h;exact⟨vss,h1,fun i x vs hi hv=>(h2 i x vs hi hv).1,h3⟩
structure StNewF (w:World) (base:Nat) (s:State) (v1 v2 v3:Value):Prop where
 all:Own w base 97 2 v1 s.all.length (s.all.flatMap zaj)
 entries:OwnL entryF 46 w base (fun b=>base<=b/\¬ zad v2 b) v2 s.entries
 pruned:Own w base 9 1 v3 s.pruned.length (s.pruned.flatMap strC)
theorem StNewF.new {w:World} {base:Nat} {s:State} {v1 v2 v3:Value} (h:StNewF w base s v1 v2 v3):StNew w base s v1 v2 v3:=⟨h.all,h.entries.toT,h.pruned⟩
theorem znh {vss:List (List Value)} (h:∀ x ∈ vss,x.length=7):vss.flatten.length=vss.length * 7:=by
 induction vss with
 | nil=>rfl
 | cons a r ih=>rw [List.flatten_cons,List.length_append,ih fun x hx=>h x (by simp [hx]),h a (by simp),List.length_cons,Nat.add_mul];omega
theorem zxp {vss:List (List Value)} (h:∀ x ∈ vss,x.length=7) (i:Nat) (hi:i<=vss.length):vss.flatten.take (i * 7)=(vss.take i).flatten/\vss.flatten.drop (i * 7)=(vss.drop i).flatten:=by
 have e:vss.flatten=(vss.take i).flatten++(vss.drop i).flatten:=by rw [<- List.flatten_append,List.take_append_drop]
 have hl:(vss.take i).flatten.length=i * 7:=by rw [znh fun x hx=>h x (List.mem_of_mem_take hx),List.length_take,Nat.min_eq_left hi]
 rw [e,<- hl];exact⟨List.take_left,List.drop_left⟩
theorem RowIs.set7 {w:World} {g T o:Nat} {X1 X2 tail:List Value} {c0 c1 c2 c3 c4 c5 c6:Value} (h:RowIs w g T (X1++([c0,c1,c2,c3,c4,c5,c6]++X2)) tail) (ho:X1.length=o) (d0 d1 d2 d3 d4 d5 d6:Value) :
  RowIs (((((((w.setCell ⟨g,o,none⟩ d0).setCell ⟨g,o+1,none⟩ d1).setCell ⟨g,o+2,none⟩ d2).setCell ⟨g,o+3,none⟩ d3).setCell ⟨g,o+4,none⟩ d4).setCell ⟨g,o+5,none⟩ d5).setCell ⟨g,o+6,none⟩ d6) g T (X1++([d0,d1,d2,d3,d4,d5,d6]++X2)) tail:=by
 subst ho;have a:=((((((h.set (j:=X1.length) (by simp) d0).set (j:=X1.length+1) (by simp) d1).set (j:=X1.length+2) (by simp) d2).set (j:=X1.length+3) (by simp) d3).set (j:=X1.length+4) (by simp) d4).set (j:=X1.length+5) (by simp) d5).set (j:=X1.length+6) (by simp) d6
 have e:((((((((X1++([c0,c1,c2,c3,c4,c5,c6]++X2)).set X1.length d0).set (X1.length+1) d1).set (X1.length+2) d2).set (X1.length+3) d3).set (X1.length+4) d4).set (X1.length+5) d5).set (X1.length+6) d6)=X1++([d0,d1,d2,d3,d4,d5,d6]++X2):=by simp [List.set_append]
 rw [e] at a;exact a
theorem zn9 {w:World} {g T o:Nat} {X1 X2 tail:List Value} {c0 c1 c2 c3 c4 c5 c6:Value} (h:RowIs w g T (X1++([c0,c1,c2,c3,c4,c5,c6]++X2)) tail) (ho:X1.length=o) :
  w.cell? ⟨g,o,none⟩=some c0/\w.cell? ⟨g,o+1,none⟩=some c1/\w.cell? ⟨g,o+2,none⟩=some c2/\w.cell? ⟨g,o+3,none⟩=some c3/\w.cell? ⟨g,o+4,none⟩=some c4/\w.cell? ⟨g,o+5,none⟩=some c5/\w.cell? ⟨g,o+6,none⟩=some c6:=by
 subst ho;exact⟨h.cell (by simp),h.cell (by simp),h.cell (by simp),h.cell (by simp),h.cell (by simp),h.cell (by simp),h.cell (by simp)⟩
theorem len7 {l:List Value} (h:l.length=7):∃ c0 c1 c2 c3 c4 c5 c6,l = [c0,c1,c2,c3,c4,c5,c6]:=by
 match l,h with
 | [c0,c1,c2,c3,c4,c5,c6],_=>exact⟨c0,c1,c2,c3,c4,c5,c6,rfl⟩
theorem zpu {W:World} {base n:Nat} {S:Nat->Prop} {v:Value} {l:List Entry} {vss:List (List Value)} (h1:vss.length=l.length) (h2:∀ (i:Nat) x vs,l[i]? = some x->vss[i]? = some vs->entryT.rd W S x vs) (hn:n=l.length) (h3:Own W base 46 7 v n vss.flatten) (hb:∀ b,zad v b->S b):Sl entryT W S v l:=by
 subst hn;obtain⟨A,c,rfl,hc1,hc2⟩:=h3.form;refine ⟨A,c,rfl,hc1,hc2,fun pre x post hl=>?_⟩;have hlen:pre.length < l.length:=by rw [hl];simp
 have hx:l[pre.length]? = some x:=by rw [hl];simp
 have hv:vss[pre.length]? = some (vss[pre.length]'(by omega)):=List.getElem?_eq_getElem (by omega);have hr:=h2 _ _ _ hx hv;obtain⟨g,cap,cur,hv',hb',hg,-,hnc,-⟩:=h3.pos (by omega);injection hv' with e1 e2 e3
 subst e1;subst e3;refine ⟨g,0,_,rfl,hb g ⟨g,_,_,rfl,by omega,rfl⟩,hr,fun j u hj=>?_⟩;rw [Nat.zero_add];refine h3.cell (g:=g) (c:=c) rfl (zii vss _ j _ u ?_ hv hj);intro y hy;obtain⟨i,hi⟩:=List.getElem?_of_mem hy;have hi':i < l.length:=by rw [<- h1];exact (List.getElem?_eq_some_iff.1 hi).1
 exact entryT.len (h2 i _ y (List.getElem?_eq_getElem hi') hi)
theorem zz0 {W:World} {base i:Nat} {v:Value} {l:List Entry} {e:Entry} {u1 u2 u3:Value} {S S0 Sx:Nat->Prop} (h:OwnL entryT 46 W base S0 v l) (hi:i < l.length) (he:EntAt W S e u1 u2 u3) (hS:∀ b,S b->¬ zad v b/\Sx b) (hS0:∀ b,S0 b->¬ zad v b/\Sx b) (hx:∀ b,zad v b->Sx b) :
  ∃ g cap X1 X2 tail c0 c1 c2 c3 c4 c5 c6,v=.slice (some ⟨g,0,none⟩) l.length cap/\base<=g/\RowIs W g 46 (X1++([c0,c1,c2,c3,c4,c5,c6]++X2)) tail/\X1.length=i * 7 /\
   ∀ W':World,RowIs W' g 46 (X1++(entL e u1 u2 u3++X2)) tail->(∀ b,b ≠ g->b < W.heap.size->W'.heap[b]? = W.heap[b]?)->Sl entryT W' Sx v (l.set i e):=by
 obtain⟨vss,h1,h2,h3⟩:=h
 have h7:∀ x ∈ vss,x.length=7:=fun x hx=>by
  obtain⟨j,hj⟩:=List.getElem?_of_mem hx;have hjl:j < l.length:=by rw [<- h1];exact (List.getElem?_eq_some_iff.1 hj).1
  exact entryT.len (h2 j _ x (List.getElem?_eq_getElem hjl) hj)
 have hiv:i < vss.length:=by omega
 obtain⟨g,cap,tail,rfl,hb,hg,hc,hm,hl⟩:=h3.row (by omega);have hsp:vss=vss.take i++vss[i] :: vss.drop (i+1):=by rw [List.getElem_cons_drop,List.take_append_drop]
 have hf:vss.flatten=(vss.take i).flatten++(vss[i]++(vss.drop (i+1)).flatten):=by rw [<- List.flatten_cons,<- List.flatten_append,List.getElem_cons_drop,List.take_append_drop]
 obtain⟨c0,c1,c2,c3,c4,c5,c6,hcs⟩:=len7 (h7 _ (List.getElem_mem hiv));rw [hcs] at hf;have hX1:(vss.take i).flatten.length=i * 7:=by rw [znh fun x hx=>h7 x (List.mem_of_mem_take hx),List.length_take,Nat.min_eq_left (by omega)]
 have hob:zad (.slice (some ⟨g,0,none⟩) l.length cap) g:=⟨g,l.length,cap,rfl,by omega,rfl⟩
 refine ⟨g,cap,_,_,tail,c0,c1,c2,c3,c4,c5,c6,rfl,hb,by rw [<- hf];exact hg,hX1,fun W' hg' hk=>?_⟩
 have hf2:(vss.set i (entL e u1 u2 u3)).flatten=(vss.take i).flatten++(entL e u1 u2 u3++(vss.drop (i+1)).flatten):=by rw [List.set_eq_take_append_cons_drop,if_pos hiv];simp
 have hlen2:((vss.set i (entL e u1 u2 u3)).flatten).length=l.length * 7:=by
  rw [znh fun x hx=>by
   rcases List.mem_or_eq_of_mem_set hx with h | h
   ·exact h7 x h
   ·rw [h];rfl,List.length_set,h1]
 refine zpu (vss:=vss.set i (entL e u1 u2 u3)) (base:=base) (n:=l.length) (by simp [h1]) (fun j x vs hj hv=>?_) (by simp) ?_ hx
 ·by_cases hij:i=j
  ·subst hij;rw [List.getElem?_set_self hi] at hj;rw [List.getElem?_set_self hiv] at hv;cases hj;cases hv;have a:=he.rd (S':=fun b=>S b/\b < W.heap.size) (fun b hb h=>⟨h,hb⟩);exact entryT.mono (entryT.keep (w':=W') a fun b hb hlt=>hk b (fun e=>(hS b hb.1).1 (by rw [e];exact hob)) hlt) fun b _ hb=>(hS b hb.1).2
  ·rw [List.getElem?_set_ne hij] at hj hv;have a:=entryT.keep (w':=W') (h2 j x vs hj hv) fun b hb hlt=>hk b (fun e=>(hS0 b hb).1 (by rw [e];exact hob)) hlt
   exact entryT.mono a fun b _ hb=>(hS0 b hb).2
 ·have:(entL e u1 u2 u3++(vss.drop (i+1)).flatten).length+(vss.take i).flatten.length+tail.length=cap * 7:=by
   have e1:=congrArg List.length hf2;rw [hlen2] at e1;have hl':=hl;rw [show entryT.k=7 from rfl] at hl';have h31:=h3.1;rw [show entryT.k=7 from rfl] at h31;simp only [List.length_append] at e1 hl' ⊢;rw [h31] at hl';omega
  refine hg'.own hb hc hm (by simp only [List.length_append] at this ⊢;omega) ?_ hlen2;rw [<- hf2,<- hlen2,List.take_length]
theorem zs4 {W:World} {base i:Nat} {v:Value} {l:List Entry} {e:Entry} {u1 u2 u3:Value} {S S0 Sx:Nat->Prop} (h:OwnL entryT 46 W base S0 v l) (hi:i<=l.length) (he:EntAt W S e u1 u2 u3) (hS:∀ b,S b->¬ zad v b/\Sx b) (hS0:∀ b,S0 b->¬ zad v b/\Sx b) (hx:∀ b,zad v b->Sx b) (hnew:Sx W.heap.size) :
  ∃ xs,Own W base 46 7 v l.length xs/\(∀ u ∈ xs,u.oneCell'=true) /\
   ∀ (W':World) (v':Value),Own W' base 46 7 v' (l.length+1) (xs.take (i * 7)++entL e u1 u2 u3++xs.drop (i * 7))->Grew W W' v v'->Sl entryT W' Sx v' (l.take i++e :: l.drop i):=by
 obtain⟨vss,h1,h2,h3⟩:=h
 have h7:∀ x ∈ vss,x.length=7:=fun x hx=>by
  obtain⟨j,hj⟩:=List.getElem?_of_mem hx;have hjl:j < l.length:=by rw [<- h1];exact (List.getElem?_eq_some_iff.1 hj).1
  exact entryT.len (h2 j _ x (List.getElem?_eq_getElem hjl) hj)
 refine ⟨vss.flatten,h3,fun u hu=>?_,fun W' v' ho hg=>?_⟩
 ·obtain⟨x,hx,hu⟩:=List.mem_flatten.1 hu;obtain⟨j,hj⟩:=List.getElem?_of_mem hx;have hjl:j < l.length:=by rw [<- h1];exact (List.getElem?_eq_some_iff.1 hj).1
  exact entryT.one (h2 j _ x (List.getElem?_eq_getElem hjl) hj) u hu
 obtain⟨f1,f2⟩:=zxp h7 i (by omega);rw [f1,f2] at ho;refine zpu (vss:=vss.take i++entL e u1 u2 u3 :: vss.drop i) (base:=base) (n:=l.length+1) (by simp [h1]) (fun j x vs hj hv=>?_) (by simp <;> omega) (by simpa using ho) (fun b hb=>(hg.blk b hb).elim (hx b) (fun h=>h ▸ hnew));have hli:(l.take i).length=i:=by simp;omega
 have hvi:(vss.take i).length=i:=by simp;omega
 have old:∀ k,l[k]? = some x->vss[k]? = some vs->entryT.rd W' Sx x vs:=fun k hk hvk=>by
  have a:=entryT.keep (w':=W') (h2 k x vs hk hvk) fun b hb hlt=>hg.same b hlt (hS0 b hb).1
  exact entryT.mono a fun b _ hb=>(hS0 b hb).2
 rcases Nat.lt_trichotomy j i with hji | rfl | hji
 ·rw [List.getElem?_append_left (by omega),List.getElem?_take_of_lt hji] at hj;rw [List.getElem?_append_left (by omega),List.getElem?_take_of_lt hji] at hv;exact old j hj hv
 ·rw [List.getElem?_append_right (by omega),hli,Nat.sub_self] at hj;rw [List.getElem?_append_right (by omega),hvi,Nat.sub_self] at hv;simp only [List.getElem?_cons_zero,Option.some.injEq] at hj hv;subst hj;subst hv;have a:=he.rd (S':=fun b=>S b/\b < W.heap.size) (fun b hb h=>⟨h,hb⟩);exact entryT.mono (entryT.keep (w':=W') a fun b hb hlt=>hg.same b hlt (hS b hb.1).1) fun b _ hb=>(hS b hb.1).2
 ·obtain⟨t,rfl⟩:∃ t,j=i+1+t:=⟨j - (i+1),by omega⟩
  rw [List.getElem?_append_right (by omega),hli,show i+1+t - i=t+1 by omega,List.getElem?_cons_succ,List.getElem?_drop] at hj;rw [List.getElem?_append_right (by omega),hvi,show i+1+t - i=t+1 by omega,List.getElem?_cons_succ,List.getElem?_drop] at hv;exact old (i+t) hj hv
theorem zhf {S S':Nat->Prop} {va vb:Value} {A B:List (Mark)} {w:World} (ha:Sl markT w S va A) (hb:Sl markT w S' vb B) :
  Calls Tryz.prog 15 #[va,vb] w fun e w'=>e=.returned (.bool (decide (A=B)))/\Ext w w':=by
 have ha':=ha;have hb':=hb;obtain⟨Aa,ca,rfl,h1,h2⟩:=ha.form;obtain⟨Ab,cb,rfl,h3,h4⟩:=hb.form;clear ha hb
 by_cases hlen:A.length=B.length
 ·have HE:=zH hlen;have k0:((A.length:Int) != (B.length:Int))=false:=by simp [hlen]
  have k1:(A.length != B.length)=false:=by simp [hlen]
  have k2:((A.length:Int) == (B.length:Int))=true:=by simp [hlen]
  have HAT:=zH (fun (pre post:List (Mark)) (m:Mark) (wr:World) (h:Ext w wr) (hl:A=pre++m :: post)=>zf1 ha' h hl);have HBT:=zH (fun (pre post:List (Mark)) (m:Mark) (wr:World) (h:Ext w wr) (hl:B=pre++m :: post)=>zf1 hb' h hl);have hlb:A.length<=B.length:=by omega
  clear hlen ha' hb';go_enter Tryz.func15,Tryz.ntmps15;go_wp2_with fail;clear k0 k1 k2
  go_loopw [5] (fun i wr=>∃ pre pa pb,A=pre++pa/\B=pre++pb/\i=I pre.length/\Ext w wr) (fun i _=>A.length - (intOf i).toNat)
  case atStart=>exact⟨[],A,B,rfl,rfl,rfl,Ext.refl _⟩
  case round =>
   obtain⟨pre,pa,pb,hla,hlb2,rfl,hx⟩:=hrel;have hpp:pa.length=pb.length:=by have:=HE.out;rw [hla,hlb2] at this;simpa using this
   cases pa with
   | cons x pa =>
    cases pb with
    | nil=>simp at hpp
    | cons y pb =>
     obtain⟨b1,o1,rfl,hxa,hxb⟩:=HAT.out pre pa x wr hx hla;obtain⟨b2,o2,rfl,hya,hyb⟩:=HBT.out pre pb y wr hx hlb2;have hlt:pre.length < A.length:=(by rw [hla];simp);have hltb:pre.length < B.length:=(by rw [hlb2];simp);have HLA:=zH hla;have HLB:=zH hlb2;have HX:=zH hx;clear hla hlb2 hpp hx;have hgd:Tryz.prog.eqGuardType Tryz.prog.depth 97=false:=by kernel_rfl
     by_cases hxy:x=y
     ·subst hxy;have hne:=fun W=>zkv x x W
      simp only [decide_true,Bool.not_true] at hne;go_wp2_with fail;go_quiet (fail);go_wp2_with fail;go_roundw
      case rel=>exact⟨pre++[x],pa,pb,by rw [HLA.out];simp,by rw [HLB.out];simp,by simp,HX.out.drewN _⟩
      case measure=>simp [intOf];omega
     ·have hne:=fun W=>zkv x y W
      simp only [hxy,decide_false,Bool.not_false] at hne
      have HF:=zH (show decide (A=B)=false by rw [HLA.out,HLB.out];simp [hxy])
      clear hxy;go_wp2_with fail;go_quiet (fail);go_wp2_with fail;go_ret;exact⟨by rw [HF.out];rfl,HX.out.drewN _⟩
   | nil=>have hb0:pb = []:=List.eq_nil_of_length_eq_zero (by simpa using hpp.symm);subst hb0;rw [List.append_nil] at hla hlb2;have hl:A.length=pre.length:=(by rw [hla]);have HF:=zH (show decide (A=B)=true by rw [hla,hlb2];simp);have HX:=zH hx;clear hla hlb2 hpp hx;go_wp2_with fail;go_ret;exact⟨by rw [HF.out];rfl,HX.out⟩
 ·have HF:=zH (show decide (A=B)=false by simp;intro e;exact hlen (by rw [e]));have k0:((A.length:Int) != (B.length:Int))=true:=by simp;omega
  have k2:((A.length:Int) == (B.length:Int))=false:=by rw [beq_eq_false_iff_ne];omega
  clear ha' hb';go_enter Tryz.func15,Tryz.ntmps15;go_wp2_with fail;go_ret;exact⟨by rw [HF.out];rfl,Ext.refl _⟩
theorem zqq {S S':Nat->Prop} {va vb:Value} {A B:List (zag)} {w:World} (ha:Sl zcl w S va A) (hb:Sl zcl w S' vb B) :
  Calls Tryz.prog 48 #[va,vb] w fun e w'=>e=.returned (.bool (decide (A=B)))/\Ext w w':=by
 have ha':=ha;have hb':=hb;obtain⟨Aa,ca,rfl,h1,h2⟩:=ha.form;obtain⟨Ab,cb,rfl,h3,h4⟩:=hb.form;clear ha hb
 by_cases hlen:A.length=B.length
 ·have HE:=zH hlen;have k0:((A.length:Int) != (B.length:Int))=false:=by simp [hlen]
  have k1:(A.length != B.length)=false:=by simp [hlen]
  have k2:((A.length:Int) == (B.length:Int))=true:=by simp [hlen]
  have HAT:=zH (fun (pre post:List (zag)) (m:zag) (wr:World) (h:Ext w wr) (hl:A=pre++m :: post)=>zgg ha' h hl);have HBT:=zH (fun (pre post:List (zag)) (m:zag) (wr:World) (h:Ext w wr) (hl:B=pre++m :: post)=>zgg hb' h hl);have hlb:A.length<=B.length:=by omega
  clear hlen ha' hb';go_enter Tryz.func48,Tryz.ntmps48;go_wp2_with fail;clear k0 k1 k2
  go_loopw [5] (fun i wr=>∃ pre pa pb,A=pre++pa/\B=pre++pb/\i=I pre.length/\Ext w wr) (fun i _=>A.length - (intOf i).toNat)
  case atStart=>exact⟨[],A,B,rfl,rfl,rfl,Ext.refl _⟩
  case round =>
   obtain⟨pre,pa,pb,hla,hlb2,rfl,hx⟩:=hrel;have hpp:pa.length=pb.length:=by have:=HE.out;rw [hla,hlb2] at this;simpa using this
   cases pa with
   | cons x pa =>
    cases pb with
    | nil=>simp at hpp
    | cons y pb =>
     obtain⟨b1,o1,rfl,hxa,hxb,hxc⟩:=HAT.out pre pa x wr hx hla;obtain⟨b2,o2,rfl,hya,hyb,hyc⟩:=HBT.out pre pb y wr hx hlb2;have hlt:pre.length < A.length:=(by rw [hla];simp);have hltb:pre.length < B.length:=(by rw [hlb2];simp);have HLA:=zH hla;have HLB:=zH hlb2;have HX:=zH hx;clear hla hlb2 hpp hx;have hgd:Tryz.prog.eqGuardType Tryz.prog.depth 54=false:=by kernel_rfl
     by_cases hxy:x=y
     ·subst hxy;have hne:=fun W=>zju x x W
      simp only [decide_true,Bool.not_true] at hne;go_wp2_with fail;go_quiet (fail);go_wp2_with fail;go_roundw
      case rel=>exact⟨pre++[x],pa,pb,by rw [HLA.out];simp,by rw [HLB.out];simp,by simp,HX.out.drewN _⟩
      case measure=>simp [intOf];omega
     ·have hne:=fun W=>zju x y W
      simp only [hxy,decide_false,Bool.not_false] at hne
      have HF:=zH (show decide (A=B)=false by rw [HLA.out,HLB.out];simp [hxy])
      clear hxy;go_wp2_with fail;go_quiet (fail);go_wp2_with fail;go_ret;exact⟨by rw [HF.out];rfl,HX.out.drewN _⟩
   | nil=>have hb0:pb = []:=List.eq_nil_of_length_eq_zero (by simpa using hpp.symm);subst hb0;rw [List.append_nil] at hla hlb2;have hl:A.length=pre.length:=(by rw [hla]);have HF:=zH (show decide (A=B)=true by rw [hla,hlb2];simp);have HX:=zH hx;clear hla hlb2 hpp hx;go_wp2_with fail;go_ret;exact⟨by rw [HF.out];rfl,HX.out⟩
 ·have HF:=zH (show decide (A=B)=false by simp;intro e;exact hlen (by rw [e]));have k0:((A.length:Int) != (B.length:Int))=true:=by simp;omega
  have k2:((A.length:Int) == (B.length:Int))=false:=by rw [beq_eq_false_iff_ne];omega
  clear ha' hb';go_enter Tryz.func48,Tryz.ntmps48;go_wp2_with fail;go_ret;exact⟨by rw [HF.out];rfl,Ext.refl _⟩
theorem ztd {S S':Nat->Prop} {va vb:Value} {A B:List (Str)} {w:World} (ha:Sl strT w S va A) (hb:Sl strT w S' vb B) :
  Calls Tryz.prog 44 #[va,vb] w fun e w'=>e=.returned (.bool (decide (A=B)))/\Ext w w':=by
 have ha':=ha;have hb':=hb;obtain⟨Aa,ca,rfl,h1,h2⟩:=ha.form;obtain⟨Ab,cb,rfl,h3,h4⟩:=hb.form;clear ha hb
 by_cases hlen:A.length=B.length
 ·have HE:=zH hlen;have k0:((A.length:Int) != (B.length:Int))=false:=by simp [hlen]
  have k1:(A.length != B.length)=false:=by simp [hlen]
  have k2:((A.length:Int) == (B.length:Int))=true:=by simp [hlen]
  have HAT:=zH (fun (pre post:List (Str)) (m:Str) (wr:World) (h:Ext w wr) (hl:A=pre++m :: post)=>zg0 ha' h hl);have HBT:=zH (fun (pre post:List (Str)) (m:Str) (wr:World) (h:Ext w wr) (hl:B=pre++m :: post)=>zg0 hb' h hl);have hlb:A.length<=B.length:=by omega
  clear hlen ha' hb';go_enter Tryz.func44,Tryz.ntmps44;go_wp2_with fail;clear k0 k1 k2
  go_loopw [5] (fun i wr=>∃ pre pa pb,A=pre++pa/\B=pre++pb/\i=I pre.length/\Ext w wr) (fun i _=>A.length - (intOf i).toNat)
  case atStart=>exact⟨[],A,B,rfl,rfl,rfl,Ext.refl _⟩
  case round =>
   obtain⟨pre,pa,pb,hla,hlb2,rfl,hx⟩:=hrel;have hpp:pa.length=pb.length:=by have:=HE.out;rw [hla,hlb2] at this;simpa using this
   cases pa with
   | cons x pa =>
    cases pb with
    | nil=>simp at hpp
    | cons y pb =>
     obtain⟨b1,o1,rfl,hxa⟩:=HAT.out pre pa x wr hx hla;obtain⟨b2,o2,rfl,hya⟩:=HBT.out pre pb y wr hx hlb2;have hlt:pre.length < A.length:=(by rw [hla];simp);have hltb:pre.length < B.length:=(by rw [hlb2];simp);have HLA:=zH hla;have HLB:=zH hlb2;have HX:=zH hx;clear hla hlb2 hpp hx
     by_cases hxy:x=y
     ·subst hxy;go_wp2_with fail;go_quiet (fail);go_wp2_with fail;go_roundw
      case rel=>exact⟨pre++[x],pa,pb,by rw [HLA.out];simp,by rw [HLB.out];simp,by simp,HX.out.drewN _⟩
      case measure=>simp [intOf];omega
     ·have hne:(x == y)=false:=by simpa using hxy
      have HF:=zH (show decide (A=B)=false by rw [HLA.out,HLB.out];simp [hxy])
      clear hxy;go_wp2_with fail;go_quiet (fail);go_wp2_with fail;go_ret;exact⟨by rw [HF.out];rfl,HX.out.drewN _⟩
   | nil=>have hb0:pb = []:=List.eq_nil_of_length_eq_zero (by simpa using hpp.symm);subst hb0;rw [List.append_nil] at hla hlb2;have hl:A.length=pre.length:=(by rw [hla]);have HF:=zH (show decide (A=B)=true by rw [hla,hlb2];simp);have HX:=zH hx;clear hla hlb2 hpp hx;go_wp2_with fail;go_ret;exact⟨by rw [HF.out];rfl,HX.out⟩
 ·have HF:=zH (show decide (A=B)=false by simp;intro e;exact hlen (by rw [e]));have k0:((A.length:Int) != (B.length:Int))=true:=by simp;omega
  have k2:((A.length:Int) == (B.length:Int))=false:=by rw [beq_eq_false_iff_ne];omega
  clear ha' hb';go_enter Tryz.func44,Tryz.ntmps44;go_wp2_with fail;go_ret;exact⟨by rw [HF.out];rfl,Ext.refl _⟩
theorem zl7 {S S':Nat->Prop} {va vb:Value} {A B:List Item} {w:World} (ha:Sl itemT w S va A) (hb:Sl itemT w S' vb B) :
  Calls Tryz.prog 38 #[va,vb] w fun e w'=>e=.returned (.bool (decide (A=B)))/\Ext w w':=by
 have ha':=ha;have hb':=hb;obtain⟨Aa,ca,rfl,h1,h2⟩:=ha.form;obtain⟨Ab,cb,rfl,h3,h4⟩:=hb.form;clear ha hb
 by_cases hlen:A.length=B.length
 ·have HE:=zH hlen;have k0:((A.length:Int) != (B.length:Int))=false:=by simp [hlen]
  have k1:(A.length != B.length)=false:=by simp [hlen]
  have HAT:=zH (fun (pre post:List Item) (m:Item) (wr:World) (h:Ext w wr) (hl:A=pre++m :: post)=>zgr ha' h hl);have HBT:=zH (fun (pre post:List Item) (m:Item) (wr:World) (h:Ext w wr) (hl:B=pre++m :: post)=>zgr hb' h hl);clear hlen ha' hb';go_enter Tryz.func38,Tryz.ntmps38;go_wp2_with fail;clear k0 k1
  go_loopw [5] (fun i wr=>∃ pre pa pb,A=pre++pa/\B=pre++pb/\i=I pre.length/\Ext w wr) (fun i _=>A.length - (intOf i).toNat)
  case atStart=>exact⟨[],A,B,rfl,rfl,rfl,Ext.refl _⟩
  case round =>
   obtain⟨pre,pa,pb,hla,hlb2,rfl,hx⟩:=hrel;have hpp:pa.length=pb.length:=by have:=HE.out;rw [hla,hlb2] at this;simpa using this
   cases pa with
   | cons x pa =>
    cases pb with
    | nil=>simp at hpp
    | cons y pb =>
     obtain⟨b1,o1,u,rfl,x0,x1,hsu⟩:=HAT.out pre pa x wr hx hla;obtain⟨b2,o2,v,rfl,y0,y1,hsv⟩:=HBT.out pre pb y wr hx hlb2;have hsu':=hsu;have hsv':=hsv;obtain⟨U1,cu,rfl,hq1,hq2⟩:=hsu.form;obtain⟨V1,cv,rfl,hq3,hq4⟩:=hsv.form;have hlt:pre.length < A.length:=(by rw [hla];simp);have hltb:pre.length < B.length:=(by rw [hlb2];simp);have HLA:=zH hla;have HLB:=zH hlb2;have HX:=zH hx;have HIA:=zH (fun (p q:List Dot) (m:Dot) (wr:World) (h:Ext w wr) (hl:x.2=p++m :: q)=>zje hsu' h hl);have HIB:=zH (fun (p q:List Dot) (m:Dot) (wr:World) (h:Ext w wr) (hl:y.2=p++m :: q)=>zje hsv' h hl);clear hla hlb2 hpp hx hsu hsv hsu' hsv'
     by_cases hxy:x.1=y.1
     ·rw [hxy] at x0
      by_cases hll:x.2.length=y.2.length
      ·have HLL:=zH hll;have l0:((x.2.length:Int) != (y.2.length:Int))=false:=(by simp [hll]);have l1:(x.2.length != y.2.length)=false:=(by simp [hll]);have HXY:=zH hxy;clear hxy hll;go_wp2_with fail;go_quiet (fail);clear l0 l1;go_wp2_with fail;obtain⟨wo,rfl⟩:∃ wo:World,wo=wr:=⟨_,rfl⟩
       go_loopw [6] (fun j wr2=>∃ p2 qa qb,x.2=p2++qa/\y.2=p2++qb/\j=I p2.length/\Ext wo wr2) (fun j _=>x.2.length - (intOf j).toNat)
       case atStart=>exact⟨[],x.2,y.2,rfl,rfl,rfl,(Ext.refl _).drewN _⟩
       case round =>
        obtain⟨p2,qa,qb,hqa,hqb,rfl,hx2⟩:=hrel;have hpp:qa.length=qb.length:=(by have:=HLL.out;rw [hqa,hqb] at this;simpa using this);have z0:=hx2.cell x1;have z1:=hx2.cell y1
        cases qa with
        | cons d qa =>
         cases qb with
         | nil=>simp at hpp
         | cons e qb =>
          obtain⟨b3,o3,rfl,d0,d1⟩:=HIA.out p2 qa d wr (HX.out.trans hx2) hqa;obtain⟨b4,o4,rfl,e0,e1⟩:=HIB.out p2 qb e wr (HX.out.trans hx2) hqb;have hlt2:p2.length < x.2.length:=(by rw [hqa];simp);have hltb2:p2.length < y.2.length:=(by rw [hqb];simp);have HQA:=zH hqa;have HQB:=zH hqb;have HX2:=zH hx2;have hgd:Tryz.prog.eqGuardType Tryz.prog.depth 59=false:=(by kernel_rfl);clear hqa hqb hpp hx2 x0 x1 y0 y1
          by_cases hde:d=e
          ·subst hde;have hne:=fun W=>zmg d d W
           simp only [decide_true,Bool.not_true] at hne;go_wp2_with fail;go_quiet (fail);go_wp2_with fail;go_roundw
           case rel=>exact⟨p2++[d],qa,qb,by rw [HQA.out];simp,by rw [HQB.out];simp,by simp,HX2.out.drewN _⟩
           case measure=>simp [intOf];omega
          ·have hne:=fun W=>zmg d e W
           simp only [hde,decide_false,Bool.not_false] at hne
           have HF:=zH (show decide (A=B)=false by rw [decide_eq_false_iff_not,HLA.out,HLB.out];intro h;have h1:x=y:=(List.cons.inj (List.append_cancel_left h)).1;rw [h1,HQB.out] at HQA;exact hde (List.cons.inj (List.append_cancel_left HQA.out)).1.symm)
           clear hde;go_wp2_with fail;go_quiet (fail);go_wp2_with fail;go_ret;exact⟨by rw [HF.out];rfl,(HX.out.trans HX2.out).drewN _⟩
        | nil =>
         have hb0:qb = []:=List.eq_nil_of_length_eq_zero (by simpa using hpp.symm);subst hb0;rw [List.append_nil] at hqa hqb;have hl:x.2.length=p2.length:=(by rw [hqa]);have HXE:=zH (show x=y from Prod.ext HXY.out (hqa.trans hqb.symm));have HX2:=zH (HX.out.trans hx2);clear hqa hqb hpp hx2 x0 x1 y0 y1;go_wp2_with fail;go_roundw
         case rel=>exact⟨pre++[x],pa,pb,by rw [HLA.out];simp,by rw [HLB.out,HXE.out];simp,by simp,HX2.out⟩
         case measure=>simp [intOf];omega
      ·have l0:((x.2.length:Int) != (y.2.length:Int))=true:=by simp;omega
       have HF:=zH (show decide (A=B)=false by rw [decide_eq_false_iff_not,HLA.out,HLB.out];intro h;exact hll (by rw [(List.cons.inj (List.append_cancel_left h)).1]))
       clear hxy hll;go_wp2_with fail;go_quiet (fail);go_wp2_with fail;go_ret;exact⟨by rw [HF.out];rfl,HX.out.drewN _⟩
     ·have hb:(x.1 == y.1)=false:=by simpa using hxy
      have HF:=zH (show decide (A=B)=false by rw [decide_eq_false_iff_not,HLA.out,HLB.out];intro h;exact hxy (by rw [(List.cons.inj (List.append_cancel_left h)).1]))
      clear hxy;go_wp2_with fail;go_quiet (fail);go_wp2_with fail;go_ret;exact⟨by rw [HF.out];rfl,HX.out.drewN _⟩
   | nil=>have hb0:pb = []:=List.eq_nil_of_length_eq_zero (by simpa using hpp.symm);subst hb0;rw [List.append_nil] at hla hlb2;have hl:A.length=pre.length:=(by rw [hla]);have HF:=zH (show decide (A=B)=true by rw [hla,hlb2];simp);have HX:=zH hx;clear hla hlb2 hpp hx;go_wp2_with fail;go_ret;exact⟨by rw [HF.out];rfl,HX.out⟩
 ·have HF:=zH (show decide (A=B)=false by rw [decide_eq_false_iff_not];rintro rfl;exact hlen rfl);have k0:((A.length:Int) != (B.length:Int))=true:=by simp;omega
  clear ha' hb';go_enter Tryz.func38,Tryz.ntmps38;go_wp2_with fail;go_ret;exact⟨by rw [HF.out];rfl,Ext.refl _⟩
theorem zte {S S':Nat->Prop} {a b:Entry} {a1 a2 a3 b1 b2 b3:Value} {w:World} (ha:EntAt w S a a1 a2 a3) (hb:EntAt w S' b b1 b2 b3) :
  Calls Tryz.prog 17 #[entV a a1 a2 a3,entV b b1 b2 b3] w fun e w'=>e=.returned (.bool (zbl a b))/\Ext w w':=by
 obtain⟨ak,ae,ac,ai,x1,x2,x3⟩:=a;obtain⟨bk,bs,bc,bi,y1,y2,y3⟩:=b;have HA:=zH ha;have HB:=zH hb;obtain⟨A1,n1,A2,n2,A3,n3,rfl,rfl,rfl⟩:=ha.fm;obtain⟨B1,m1,B2,m2,B3,m3,rfl,rfl,rfl⟩:=hb.fm;have hx:Ext w ((w.alloc (.cells #[St ak,.slice A1 ae.length n1,.slice A2 ac.length n2,.slice A3 ai.length n3,U x1,St x2,.bool x3] 46)).alloc (.cells #[St bk,.slice B1 bs.length m1,.slice B2 bc.length m2,.slice B3 bi.length m3,U y1,St y2,.bool y3] 46)):=((Ext.refl w).alloc _).alloc _;have rA:RowIs ((w.alloc (.cells #[St ak,.slice A1 ae.length n1,.slice A2 ac.length n2,.slice A3 ai.length n3,U x1,St x2,.bool x3] 46)).alloc (.cells #[St bk,.slice B1 bs.length m1,.slice B2 bc.length m2,.slice B3 bi.length m3,U y1,St y2,.bool y3] 46)) w.heap.size 46 [St ak,.slice A1 ae.length n1,.slice A2 ac.length n2,.slice A3 ai.length n3,U x1,St x2,.bool x3] []:=(zaf w 46 [St ak,.slice A1 ae.length n1,.slice A2 ac.length n2,.slice A3 ai.length n3,U x1,St x2,.bool x3]).alloc _;have rB:RowIs ((w.alloc (.cells #[St ak,.slice A1 ae.length n1,.slice A2 ac.length n2,.slice A3 ai.length n3,U x1,St x2,.bool x3] 46)).alloc (.cells #[St bk,.slice B1 bs.length m1,.slice B2 bc.length m2,.slice B3 bi.length m3,U y1,St y2,.bool y3] 46)) (w.heap.size+1) 46 [St bk,.slice B1 bs.length m1,.slice B2 bc.length m2,.slice B3 bi.length m3,U y1,St y2,.bool y3] []:=by have h:=zaf (w.alloc (.cells #[St ak,.slice A1 ae.length n1,.slice A2 ac.length n2,.slice A3 ai.length n3,U x1,St x2,.bool x3] 46)) 46 [St bk,.slice B1 bs.length m1,.slice B2 bc.length m2,.slice B3 bi.length m3,U y1,St y2,.bool y3];simp only [World.size_alloc] at h;exact h
 have H1:=zH (zhf (HA.out.seen.ext (by decide) hx) (HB.out.seen.ext (by decide) hx));have hgd:Tryz.prog.eqGuardType Tryz.prog.depth 44=false:=by kernel_rfl
 clear ha hb
 by_cases hk:ak=bk
 ·subst hk;have c1:=rA.cell (j:=1) rfl;have d1:=rB.cell (j:=1) rfl;have HX:=zH hx;have RA:=zH rA;have RB:=zH rB;clear hx rA rB;go_enter Tryz.func17,Tryz.ntmps17;go_wp2_with fail;generalize ((w.alloc (.cells #[St ak,.slice A1 ae.length n1,.slice A2 ac.length n2,.slice A3 ai.length n3,U x1,St x2,.bool x3] 46)).alloc (.cells #[St ak,.slice B1 bs.length m1,.slice B2 bc.length m2,.slice B3 bi.length m3,U y1,St y2,.bool y3] 46))=W0 at *;refine H1.out.mono ?_;rintro r W1 ⟨rfl,hx1⟩;have hxw:=HX.out.trans hx1;have rA:=RA.out.ext hx1;have rB:=RB.out.ext hx1;clear H1 c1 d1 RA RB HX hx1
  by_cases h1:ae=bs
  ·have H2:=zH (zqq (HA.out.counts.ext (by decide) hxw) (HB.out.counts.ext (by decide) hxw));rw [decide_eq_true h1];have c2:=rA.cell (j:=2) rfl;have d2:=rB.cell (j:=2) rfl;have HX:=zH hxw;have RA:=zH rA;have RB:=zH rB;have HE1:=zH h1;clear hxw rA rB h1;go_wp2_with fail;refine H2.out.mono ?_;rintro r W2 ⟨rfl,hx1⟩;have hxw:=HX.out.trans hx1;have rA:=RA.out.ext hx1;have rB:=RB.out.ext hx1;clear H2 c2 d2 RA RB HX hx1
   by_cases h2:ac=bc
   ·have H3:=zH (zl7 (HA.out.items.ext (by decide) hxw) (HB.out.items.ext (by decide) hxw));rw [decide_eq_true h2];have c3:=rA.cell (j:=3) rfl;have d3:=rB.cell (j:=3) rfl;have HX:=zH hxw;have RA:=zH rA;have RB:=zH rB;have HE2:=zH h2;clear hxw rA rB h2;go_wp2_with fail;refine H3.out.mono ?_;rintro r W3 ⟨rfl,hx1⟩;have hxw:=HX.out.trans hx1;have rA:=RA.out.ext hx1;have rB:=RB.out.ext hx1;clear H3 c3 d3 RA RB HX hx1
    by_cases h3:ai=bi
    ·have hcell:=fun W=>znc (x1,x2,x3) (y1,y2,y3) W
     rw [decide_eq_true h3];have c4:=rA.cell (j:=4) rfl;have d4:=rB.cell (j:=4) rfl;have c5:=rA.cell (j:=5) rfl;have d5:=rB.cell (j:=5) rfl;have c6:=rA.cell (j:=6) rfl;have d6:=rB.cell (j:=6) rfl;have HF:=zH (show zbl ⟨ak,ae,ac,ai,x1,x2,x3⟩ ⟨ak,bs,bc,bi,y1,y2,y3⟩=decide ((x1,x2,x3)=(y1,y2,y3)) by simp [zbl,HE1.out,HE2.out,h3]);have HX:=zH hxw;generalize decide ((x1,x2,x3)=(y1,y2,y3))=z at *;clear hxw rA rB h3;go_wp2_with fail;go_ret;exact⟨by rw [HF.out];rfl,HX.out⟩
    ·have HF:=zH (show zbl ⟨ak,ae,ac,ai,x1,x2,x3⟩ ⟨ak,bs,bc,bi,y1,y2,y3⟩=false by simp [zbl,h3]);rw [decide_eq_false h3];have HX:=zH hxw;clear hxw rA rB h3;go_wp2_with fail;go_ret;exact⟨by rw [HF.out];rfl,HX.out⟩
   ·have HF:=zH (show zbl ⟨ak,ae,ac,ai,x1,x2,x3⟩ ⟨ak,bs,bc,bi,y1,y2,y3⟩=false by simp [zbl,h2]);rw [decide_eq_false h2];have HX:=zH hxw;clear hxw rA rB h2;go_wp2_with fail;go_ret;exact⟨by rw [HF.out];rfl,HX.out⟩
  ·have HF:=zH (show zbl ⟨ak,ae,ac,ai,x1,x2,x3⟩ ⟨ak,bs,bc,bi,y1,y2,y3⟩=false by simp [zbl,h1]);rw [decide_eq_false h1];have HX:=zH hxw;clear hxw rA rB h1;go_wp2_with fail;go_ret;exact⟨by rw [HF.out];rfl,HX.out⟩
 ·have hkb:(ak == bk)=false:=by simpa using hk
  have HF:=zH (show zbl ⟨ak,ae,ac,ai,x1,x2,x3⟩ ⟨bk,bs,bc,bi,y1,y2,y3⟩=false by simp [zbl,hk]);have HX:=zH hx;clear hx rA rB hk H1;go_enter Tryz.func17,Tryz.ntmps17;go_wp2_with fail;go_ret;exact⟨by rw [HF.out];rfl,HX.out⟩
theorem zlc {S S':Nat->Prop} {a b:State} {a1 a2 a3 b1 b2 b3:Value} {w:World} (ha:StAt w S a a1 a2 a3) (hb:StAt w S' b b1 b2 b3) :
  Calls Tryz.prog 11 #[stV a1 a2 a3,stV b1 b2 b3] w fun e w'=>e=.returned (.bool (zed a b))/\Ext w w':=by
 obtain⟨sa,se,sp⟩:=a;obtain⟨ta,te,tp⟩:=b;have HA:=zH ha;have HB:=zH hb;obtain⟨A1,n1,rfl,-,-⟩:=ha.all.form;obtain⟨A2,n2,rfl,hz1,hz2⟩:=ha.entries.form;obtain⟨A3,n3,rfl,-,-⟩:=ha.pruned.form;obtain⟨B1,m1,rfl,-,-⟩:=hb.all.form;obtain⟨B2,m2,rfl,hz3,hz4⟩:=hb.entries.form;obtain⟨B3,m3,rfl,-,-⟩:=hb.pruned.form;have hx:Ext w ((w.alloc (.cells #[.slice A1 sa.length n1,.slice A2 se.length n2,.slice A3 sp.length n3] 26)).alloc (.cells #[.slice B1 ta.length m1,.slice B2 te.length m2,.slice B3 tp.length m3] 26)):=((Ext.refl w).alloc _).alloc _;have rA:RowIs ((w.alloc (.cells #[.slice A1 sa.length n1,.slice A2 se.length n2,.slice A3 sp.length n3] 26)).alloc (.cells #[.slice B1 ta.length m1,.slice B2 te.length m2,.slice B3 tp.length m3] 26)) w.heap.size 26 [.slice A1 sa.length n1,.slice A2 se.length n2,.slice A3 sp.length n3] []:=(zaf w 26 [.slice A1 sa.length n1,.slice A2 se.length n2,.slice A3 sp.length n3]).alloc _;have rB:RowIs ((w.alloc (.cells #[.slice A1 sa.length n1,.slice A2 se.length n2,.slice A3 sp.length n3] 26)).alloc (.cells #[.slice B1 ta.length m1,.slice B2 te.length m2,.slice B3 tp.length m3] 26)) (w.heap.size+1) 26 [.slice B1 ta.length m1,.slice B2 te.length m2,.slice B3 tp.length m3] []:=by have h:=zaf (w.alloc (.cells #[.slice A1 sa.length n1,.slice A2 se.length n2,.slice A3 sp.length n3] 26)) 26 [.slice B1 ta.length m1,.slice B2 te.length m2,.slice B3 tp.length m3];simp only [World.size_alloc] at h;exact h
 have H1:=zH (zhf (HA.out.all.ext (by decide) hx) (HB.out.all.ext (by decide) hx));have hae:=HA.out.entries;have hbe:=HB.out.entries;have HAT:=zH (fun (pre post:List Entry) (m:Entry) (wr:World) (h:Ext w wr) (hl:se=pre++m :: post)=>zea hae h hl);have HBT:=zH (fun (pre post:List Entry) (m:Entry) (wr:World) (h:Ext w wr) (hl:te=pre++m :: post)=>zea hbe h hl);clear ha hb hae hbe;have c0:=rA.cell (j:=0) rfl;have d0:=rB.cell (j:=0) rfl;have HX:=zH hx;have RA:=zH rA;have RB:=zH rB;clear hx rA rB;go_enter Tryz.func11,Tryz.ntmps11;go_wp2_with fail;generalize ((w.alloc (.cells #[.slice A1 sa.length n1,.slice A2 se.length n2,.slice A3 sp.length n3] 26)).alloc (.cells #[.slice B1 ta.length m1,.slice B2 te.length m2,.slice B3 tp.length m3] 26))=W0 at *;refine H1.out.mono ?_;rintro r W1 ⟨rfl,hx1⟩;have hxw:=HX.out.trans hx1;have rA:=RA.out.ext hx1;have rB:=RB.out.ext hx1;clear H1 c0 d0 RA RB HX hx1;have HX:=zH hxw
 by_cases h1:sa=ta
 ·rw [decide_eq_true h1];have HE1:=zH h1;have c1:=rA.cell (j:=1) rfl;have d1:=rB.cell (j:=1) rfl
  by_cases hlen:se.length=te.length
  ·have k0:((se.length:Int) != (te.length:Int))=false:=(by simp [hlen]);have k1:(se.length != te.length)=false:=(by simp [hlen]);have HLEN:=zH hlen;have H2:=zH (ztd (HA.out.pruned.ext (by decide) hxw) (HB.out.pruned.ext (by decide) hxw));have c2:=rA.cell (j:=2) rfl;have d2:=rB.cell (j:=2) rfl;have RA:=zH rA;have RB:=zH rB;clear hxw rA rB h1 hlen;go_wp2_with fail;refine H2.out.mono ?_;rintro r W2 ⟨rfl,hx1⟩;have hxw:=HX.out.trans hx1;have rA:=RA.out.ext hx1;have rB:=RB.out.ext hx1;clear H2 c1 d1 c2 d2 k0 k1 RA RB HX hx1;have HX:=zH hxw
   by_cases h2:sp=tp
   ·rw [decide_eq_true h2];have HSS:=zH (show zed ⟨sa,se,sp⟩ ⟨ta,te,tp⟩=zec se te by simp [zed,HE1.out,h2]);have RA:=zH rA;have RB:=zH rB;clear hxw rA rB h2;go_wp2_with fail
    go_loopw [5] (fun i wr=>∃ pre pa pb,se=pre++pa/\te=pre++pb/\i=I pre.length/\Ext W2 wr) (fun i _=>se.length - (intOf i).toNat)
    case atStart=>exact⟨[],se,te,rfl,rfl,rfl,Ext.refl _⟩
    case round =>
     obtain⟨pre,pa,pb,hla,hlb2,rfl,hx2⟩:=hrel;have hpp:pa.length=pb.length:=(by have:=HLEN.out;rw [hla,hlb2] at this;simpa using this);have c1:=(RA.out.ext hx2).cell (j:=1) rfl;have d1:=(RB.out.ext hx2).cell (j:=1) rfl
     cases pa with
     | cons x pa =>
      cases pb with
      | nil=>simp at hpp
      | cons y pb =>
       have hxr:=HX.out.trans hx2;obtain⟨b1,o1,a1,a2,a3,rfl,p0,p1,p2,p3,p4,p5,p6,hsx⟩:=HAT.out pre pa x wr hxr hla;obtain⟨b2,o2,e1,e2,e3,rfl,q0,q1,q2,q3,q4,q5,q6,hsy⟩:=HBT.out pre pb y wr hxr hlb2;have hlt:pre.length < se.length:=(by rw [hla];simp);have hltb:pre.length < te.length:=(by rw [hlb2];simp);have HLA:=zH hla;have HLB:=zH hlb2;obtain⟨C1,c1',rfl,-,-⟩:=hsx.seen.form;obtain⟨C2,c2',rfl,-,-⟩:=hsx.counts.form;obtain⟨C3,c3',rfl,-,-⟩:=hsx.items.form;obtain⟨D1,d1',rfl,-,-⟩:=hsy.seen.form;obtain⟨D2,d2',rfl,-,-⟩:=hsy.counts.form;obtain⟨D3,d3',rfl,-,-⟩:=hsy.items.form;have HSM:=zH (show zec se te=(zbl x y && zec pa pb) by rw [hla,hlb2,zs1];rfl);have HIF:=zH (@sameE_iff x y);obtain⟨Wd,hWd⟩:∃ W,wr.drew=W:=⟨_,rfl⟩
       have hdr:Ext wr Wd:=(by rw [<- hWd];exact (Ext.refl wr).drew);have HC:=zH (zte ((hsx.ext hxr).ext hdr) ((hsy.ext hxr).ext hdr));have HX2:=zH (hx2.trans hdr);have HWD:=zH hWd;clear hla hlb2 hpp hx2 hxr hsx hsy hWd;go_wp2_with fail;have r1:=hdr.cell c1;have s1:=hdr.cell d1;have p0':=hdr.cell p0;have q0':=hdr.cell q0;have p1':=hdr.cell p1;have q1':=hdr.cell q1;have p2':=hdr.cell p2;have q2':=hdr.cell q2;have p3':=hdr.cell p3;have q3':=hdr.cell q3;have p4':=hdr.cell p4;have q4':=hdr.cell q4;have p5':=hdr.cell p5;have q5':=hdr.cell q5;have p6':=hdr.cell p6;have q6':=hdr.cell q6;clear c1 d1 p0 p1 p2 p3 p4 p5 p6 q0 q1 q2 q3 q4 q5 q6 hdr;refine wp_region_still_tail 10 (by kernel_rfl) (by kernel_rfl) ?_;simp only [List.take_succ_cons,List.take_zero,List.drop_succ_cons,List.drop_zero];change wpStill _ _ wr.drew (fun a'=>wpList _ _ _ _ a' wr.drew) _ _;rw [HWD.out];clear HWD
       repeat still_step
       refine wpStill_nil ?_;go_wp2_with fail;refine HC.out.mono ?_;rintro r W3 ⟨rfl,hx3⟩;have HX3:=zH (HX2.out.trans hx3);clear HC hx3
       cases hxy:zbl x y with
       | true =>
        obtain rfl:=HIF.out.1 hxy;clear hxy;go_wp2_with fail;go_roundw
        case rel=>exact⟨pre++[x],pa,pb,by rw [HLA.out];simp,by rw [HLB.out];simp,by simp,HX3.out⟩
        case measure=>simp [intOf];omega
       | false=>rw [hxy] at HSM;clear hxy;go_wp2_with fail;go_ret;exact⟨by rw [HSS.out,HSM.out];rfl,HX.out.trans HX3.out⟩
     | nil=>have hb0:pb = []:=List.eq_nil_of_length_eq_zero (by simpa using hpp.symm);subst hb0;rw [List.append_nil] at hla hlb2;have hl:se.length=pre.length:=(by rw [hla]);have HF:=zH (show zed ⟨sa,se,sp⟩ ⟨ta,te,tp⟩=true by rw [HSS.out,hla,hlb2];exact sameEs_iff.2 rfl);have HX2:=zH (HX.out.trans hx2);clear hla hlb2 hpp hx2;go_wp2_with fail;go_ret;exact⟨by rw [HF.out];rfl,HX2.out⟩
   ·have HF:=zH (show zed ⟨sa,se,sp⟩ ⟨ta,te,tp⟩=false by simp [zed,h2]);rw [decide_eq_false h2];clear hxw rA rB h2;go_wp2_with fail;go_ret;exact⟨by rw [HF.out];rfl,HX.out⟩
  ·have k0:((se.length:Int) != (te.length:Int))=true:=(by simp;omega);have HF:=zH (show zed ⟨sa,se,sp⟩ ⟨ta,te,tp⟩=false by simp [zed,zuy hlen]);clear hxw rA rB h1 hlen;go_wp2_with fail;go_ret;exact⟨by rw [HF.out];rfl,HX.out⟩
 ·have HF:=zH (show zed ⟨sa,se,sp⟩ ⟨ta,te,tp⟩=false by simp [zed,h1]);rw [decide_eq_false h1];clear hxw rA rB h1;go_wp2_with fail;go_ret;exact⟨by rw [HF.out];rfl,HX.out⟩
end
end Go.Proofs.YtaabaflgeljbjaaGreat
