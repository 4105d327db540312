/- Package state: May. Printed by gen_statemay.py. -/
import Derived.Test.YtaabaflgeljbjaaGreatPr26
import Derived.Test.YtaabaflgeljbjaaGreatPr22
import Derived.Test.YtaabaflgeljbjaaGreatPr28
import Derived.Test.YtaabaflgeljbjaaGreatPr15
set_option linter.unusedVariables false
set_option linter.unusedSimpArgs false
set_option maxRecDepth 100000
set_option maxHeartbeats 40000000
namespace Go.Proofs.YtaabaflgeljbjaaGreat
section
open Go.RowKit Go.Shelf
def zeh (all:List Mark):Option Str->List Entry->Bool
 | _,[]=>true
 | prev,e :: r=>mayE e && ((match prev with | none=>true | some k=>ltS k e.key) && (zbm all e.seen && zeh all (some e.key) r))
def zdt (all:List Mark):Option Str->List Str->Bool
 | _,[]=>true
 | prev,p :: r=>!p.isEmpty && ((match prev with | none=>true | some k=>ltS k p) && (decide (ofM all p=0) && zdt all (some p) r))
def mayS (s:State):Bool:=mayM s.all && (zeh s.all none s.entries && zdt s.all none s.pruned)
theorem zng {S:Nat->Prop} {s:State} {v1 v2 v3:Value} {w:World} (h:StAt w S s v1 v2 v3) (sm:SmallS s) :
  Calls Tryz.prog 8 #[stV v1 v2 v3] w fun r w'=>r=.returned (.bool (mayS s))/\Ext w w':=by
 obtain⟨sa,se,sp⟩:=s;obtain⟨A1,n1,A2,n2,A3,n3,rfl,rfl,rfl⟩:=h.fm;have h':=h.entries;have h'':=h.pruned;have HAT:=zH (fun (pre post:List Entry) (m:Entry) (wr:World) (hx:Ext w wr) (hl:se=pre++m :: post)=>zea h' hx hl);have HPT:=zH (fun (pre post:List Str) (m:Str) (wr:World) (hx:Ext w wr) (hl:sp=pre++m :: post)=>zg0 h'' hx hl);have H:=zH h;have SM:=zH sm;have hx0:=(Ext.refl w).alloc (.cells #[.slice A1 sa.length n1,.slice A2 se.length n2,.slice A3 sp.length n3] 26);have rB0:=zaf w 26 [.slice A1 sa.length n1,.slice A2 se.length n2,.slice A3 sp.length n3];have H1:=zH (ztv (h.all.ext (by decide) hx0));have HM:=zH (show mayS ⟨sa,se,sp⟩=(mayM sa && (zeh sa none se && zdt sa none sp)) from rfl);have hsa:sa.length<=549755813888:=sm.all;have hse:se.length<=549755813888:=sm.entries;have hsp:sp.length<=549755813888:=sm.pruned;clear h h' h'' sm;go_enter Tryz.func8,Tryz.ntmps8;go_wp2_with fail;generalize w.alloc (.cells #[.slice A1 sa.length n1,.slice A2 se.length n2,.slice A3 sp.length n3] 26)=W0 at *;refine H1.out.mono ?_;rintro r W1 ⟨rfl,hx1⟩;have rB:=rB0.ext hx1;have hxw:=hx0.trans hx1;have b1:=rB.cell (j:=1) rfl;have hbl:=rB.lt;clear rB0 hx0 hx1 H1
 cases hm:mayM sa with
 | false=>have HR:=zH (show mayS ⟨sa,se,sp⟩=false by rw [HM.out,hm];rfl);have HX:=zH hxw;clear hxw rB HM;go_wp2_with fail;go_ret;exact⟨by rw [HR.out];rfl,HX.out⟩
 | true =>
  have HM2:=zH (show mayS ⟨sa,se,sp⟩=(zeh sa none se && zdt sa none sp) by rw [HM.out,hm];rfl);have HB1:=zH rB;have HX1:=zH hxw;clear hm HM rB hxw;go_wp2_with fail
  go_loopw [14] (fun i wr=>∃ pre post,se=pre++post/\i=I pre.length/\Hid (zeh sa none se=zeh sa (pre.getLast?.map (·.key)) post)/\Hid (RowIs wr w.heap.size 26 [.slice A1 sa.length n1,.slice A2 se.length n2,.slice A3 sp.length n3] [])/\Ext w wr) (fun i _=>se.length - (intOf i).toNat)
  case atStart=>exact⟨[],se,rfl,rfl,zH rfl,HB1,HX1.out⟩
  case round =>
   obtain⟨pre,post,hl,rfl,hme,hrow,hx⟩:=hrel
   cases post with
   | cons m post =>
    obtain⟨b,o,a1,a2,a3,rfl,e0,e1,e2,e3,e4,e5,e6,hEA⟩:=HAT.out pre post m wr hx hl;obtain⟨C1,c1,C2,c2,C3,c3,rfl,rfl,rfl⟩:=hEA.fm;have hlt:pre.length < se.length:=(by rw [hl];simp);have HL:=zH hl;have hsm:SmallE m:=SM.out.each m (by show m ∈ se;rw [hl];simp);have hxb:=(Ext.refl wr).alloc (.cells #[St m.key,.slice C1 m.seen.length c1,.slice C2 m.counts.length c2,.slice C3 m.items.length c3,U m.cell.1,St m.cell.2.1,.bool m.cell.2.2] 46);have rb:=zaf wr 46 [St m.key,.slice C1 m.seen.length c1,.slice C2 m.counts.length c2,.slice C3 m.items.length c3,U m.cell.1,St m.cell.2.1,.bool m.cell.2.2]
    have hprev:(pre.length=0/\pre.getLast?.map (·.key)=none) ∨ (0 < pre.length/\∃ q:Entry,pre.getLast?.map (·.key)=some q.key/\wr.cell? ⟨b,o+(pre.length - 1) * 7,none⟩=some (St q.key)):=by
     rcases Nat.eq_zero_or_pos pre.length with h0 | h0
     ·exact .inl ⟨h0,by rw [List.eq_nil_of_length_eq_zero h0];rfl⟩
     ·obtain⟨p',q,f1,f2,f3⟩:=zin h0;obtain⟨b',o',_,_,_,e,q0,-⟩:=HAT.out p' (m :: post) q wr hx (by rw [hl,f1];simp);cases e;rw [f3] at q0;exact .inr ⟨h0,q,by rw [f2];rfl,q0⟩
    have hEA2:=(hEA.ext hx).ext hxb;have HB:=zH (hrow.out.ext hxb);have hxwb:=hx.trans hxb;have HME:=zH (show zeh sa none se=(mayE m && ((match pre.getLast?.map (·.key) with | none=>true | some k=>ltS k m.key) && (zbm sa m.seen && zeh sa (some m.key) post))) from hme.out);clear hl hEA hme hrow hx;go_wp2_with fail;generalize hWb:wr.alloc (.cells #[St m.key,.slice C1 m.seen.length c1,.slice C2 m.counts.length c2,.slice C3 m.items.length c3,U m.cell.1,St m.cell.2.1,.bool m.cell.2.2] 46)=Wb at *
    have hprev2:(pre.length=0/\pre.getLast?.map (·.key)=none) ∨ (0 < pre.length/\∃ q:Entry,pre.getLast?.map (·.key)=some q.key/\Wb.cell? ⟨b,o+(pre.length - 1) * 7,none⟩=some (St q.key)):=by
     rcases hprev with h | ⟨h0,q,h1,h2⟩
     ·exact .inl h
     ·exact .inr ⟨h0,q,h1,hxb.cell h2⟩
    have HSA:=zH (H.out.all.ext (by decide) hxwb);clear hWb hprev hxb e0 e1 e2 e3 e4 e5 e6;have HXB:=zH hxwb;clear hxwb
    cases hb:mayE m with
    | false =>
     have HRF:=zH (show mayS ⟨sa,se,sp⟩=false by rw [HM2.out,HME.out,hb];rfl)
     refine zat [fun v _=>v=entV m (.slice C1 m.seen.length c1) (.slice C2 m.counts.length c2) (.slice C3 m.items.length c3),
   fun v _=>v=.bool false,
   fun v _=>v=.bool true,
   fun v _=>v=.bool true,
   fun v _=>v=.tuple #[],
   fun v _=>v=.tuple #[],
   fun v _=>v=.tuple #[],
   fun v _=>v=.tuple #[],
   fun v _=>v=.tuple #[],
   fun v _=>v=.tuple #[],
   fun v _=>v=.tuple #[],
   fun v _=>v=.tuple #[],
   fun v _=>v=.tuple #[],
   fun v _=>v=.tuple #[],
   fun v _=>v=.tuple #[],
   fun v _=>v=.tuple #[],
   fun v _=>v=.tuple #[],
   fun v _=>v=.tuple #[],
   fun v _=>v=.bool true,
   fun v _=>v=.bool true,
   fun v _=>v=.tuple #[],
   fun v _=>v=.tuple #[],
   fun v _=>v=.tuple #[],
   fun v _=>v=.tuple #[],
   fun v _=>v=.tuple #[],
   fun v _=>v=.tuple #[]] rfl (by kernel_rfl) ?hR ?hstep ?hend
     case hR=>simp only [List.mem_cons,List.not_mem_nil,or_false,forall_eq_or_imp,forall_eq];exact⟨kP,kP,kP,kP,kP,kP,kP,kP,kP,kP,kP,kP,kP,kP,kP,kP,kP,kP,kP,kP,kP,kP,kP,kP,kP,kP⟩
     case hstep =>
      simp only [List.length_cons,List.length_nil,Nat.reduceAdd,List.take_succ_cons,List.take_zero,zbj,and_true]
      and_intros <;> intro x W he f
      ·have h0:x 4=.pointer (some ⟨wr.heap.size,0,none⟩):=f.1;have q0:=(rb.ext he).cell (j:=0) rfl;have q1:=(rb.ext he).cell (j:=1) rfl;have q2:=(rb.ext he).cell (j:=2) rfl;have q3:=(rb.ext he).cell (j:=3) rfl;have q4:=(rb.ext he).cell (j:=4) rfl;have q5:=(rb.ext he).cell (j:=5) rfl;have q6:=(rb.ext he).cell (j:=6) rfl;go_wp;exact sQ
      ·have h0:_=_:=f.1;have HC:=zH (zkx (hEA2.ext he) (Nat.le_trans hsm.items (by decide)));rw [hb] at HC;go_wp;refine HC.out.mono ?_;rintro r W2 ⟨rfl,hx2⟩;dsimp only;go_wp;exact zaa rfl hx2
      iterate 2 · have h0:_=_:=f.1;go_wp;exact sQ
      ·have h0:x 3=I pre.length:=f.1;have h1:_=_:=f.2.1;go_wp;exact sQ
      iterate 2 · have h0:_=_:=f.1;have h1:_=_:=f.2.1;go_wp;exact sQ
      ·have h0:x 1=.pointer (some ⟨w.heap.size,0,none⟩):=f.1;have h1:_=_:=f.2.1;go_wp;exact sQ
      ·have h0:_=_:=f.1;have h1:_=_:=f.2.1;have c1:=(HB.out.ext he).cell (j:=1) rfl;go_wp;exact sQ
      ·have h0:x 3=I pre.length:=f.1;have h1:_=_:=f.2.1;go_wp;exact sQ
      iterate 4 · first | (have h0:_=_:=f.1;have h1:_=_:=f.2.1;have h2:_=_:=f.2.2.1;go_wp;exact sQ) | (have h0:_=_:=f.1;have h1:_=_:=f.2.1;go_wp;exact sQ)
      ·have h0:x 4=.pointer (some ⟨wr.heap.size,0,none⟩):=f.1;have h1:_=_:=f.2.1;go_wp;exact sQ
      ·have h0:_=_:=f.1;have h1:_=_:=f.2.1;have q0:=(rb.ext he).cell (j:=0) rfl;go_wp;exact sQ
      iterate 2 · have h0:_=_:=f.1;have h1:_=_:=f.2.1;have h2:_=_:=f.2.2.1;go_wp;exact sQ
      ·have h0:_=_:=f.1;have h1:_=_:=f.2.1;go_wp;exact sQ
      ·have h0:_=_:=f.1;go_wp;exact sQ
      ·have h0:x 1=.pointer (some ⟨w.heap.size,0,none⟩):=f.1;have h1:_=_:=f.2.1;go_wp;exact sQ
      ·have h0:_=_:=f.1;have h1:_=_:=f.2.1;have c1:=(HB.out.ext he).cell (j:=0) rfl;go_wp;exact sQ
      ·have h0:x 4=.pointer (some ⟨wr.heap.size,0,none⟩):=f.1;have h1:_=_:=f.2.1;go_wp;exact sQ
      ·have h0:_=_:=f.1;have h1:_=_:=f.2.1;have q1:=(rb.ext he).cell (j:=1) rfl;go_wp;exact sQ
      ·have h0:_=_:=f.1;have h1:_=_:=f.2.1;have h2:_=_:=f.2.2.1;go_wp;exact sQ
      ·have h0:_=_:=f.1;have h1:_=_:=f.2.1;go_wp;exact sQ
     case hend=>intro x W he f;have h38:x 38=.bool true:=f.2.2.2.2.2.2.2.2.2.2.2.2.2.2.2.2.2.2.2.1;clear f;have HX:=zH (HXB.out.trans he);have HBW:=zH (HB.out.ext he);simp only [List.length_cons,List.length_nil,Nat.reduceAdd,List.take_succ_cons,List.take_zero,List.filterMap_cons,List.filterMap_nil,List.drop_succ_cons,List.drop_zero,zav,Act.put,List.setIfInBounds_toArray,List.set_cons_succ,List.set_cons_zero,h38];clear he;go_wp;go_wp2_with fail;go_ret;exact⟨by rw [HRF.out];rfl,HX.out⟩
    | true =>
     rw [hb] at HME;rcases hprev2 with ⟨h0,hp⟩ | ⟨h0,q,hp,hq0⟩
     ·rw [hp] at HME;have hz:(pre.length:Int)=0:=(by omega);have hz2:I (pre.length:Int)=I 0:=by rw [hz]
      refine zat [fun v _=>v=entV m (.slice C1 m.seen.length c1) (.slice C2 m.counts.length c2) (.slice C3 m.items.length c3),
   fun v _=>v=.bool true,
   fun v _=>v=.bool false,
   fun v _=>v=.bool false,
   fun v _=>v=I 0,
   fun v _=>v=.bool false,
   fun v _=>v=.bool false,
   fun v _=>v=.tuple #[],
   fun v _=>v=.tuple #[],
   fun v _=>v=.tuple #[],
   fun v _=>v=.tuple #[],
   fun v _=>v=.tuple #[],
   fun v _=>v=.tuple #[],
   fun v _=>v=.tuple #[],
   fun v _=>v=.tuple #[],
   fun v _=>v=.tuple #[],
   fun v _=>v=.tuple #[],
   fun v _=>v=.bool false,
   fun v _=>v=.bool false,
   fun v _=>v=.bool false,
   fun v _=>v=.pointer (some ⟨w.heap.size,0,none⟩),
   fun v _=>v=.slice A1 sa.length n1,
   fun v _=>v=.pointer (some ⟨wr.heap.size,1,none⟩),
   fun v _=>v=.slice C1 m.seen.length c1,
   fun v _=>v=.bool (zbm sa m.seen),
   fun v _=>v=.bool (!zbm sa m.seen)] rfl (by kernel_rfl) ?hR ?hstep ?hend
      case hR=>simp only [List.mem_cons,List.not_mem_nil,or_false,forall_eq_or_imp,forall_eq];exact⟨kP,kP,kP,kP,kP,kP,kP,kP,kP,kP,kP,kP,kP,kP,kP,kP,kP,kP,kP,kP,kP,kP,kP,kP,kP,kP⟩
      case hstep =>
       simp only [List.length_cons,List.length_nil,Nat.reduceAdd,List.take_succ_cons,List.take_zero,zbj,and_true]
       and_intros <;> intro x W he f
       ·have h0:x 4=.pointer (some ⟨wr.heap.size,0,none⟩):=f.1;have q0:=(rb.ext he).cell (j:=0) rfl;have q1:=(rb.ext he).cell (j:=1) rfl;have q2:=(rb.ext he).cell (j:=2) rfl;have q3:=(rb.ext he).cell (j:=3) rfl;have q4:=(rb.ext he).cell (j:=4) rfl;have q5:=(rb.ext he).cell (j:=5) rfl;have q6:=(rb.ext he).cell (j:=6) rfl;go_wp;exact sQ
       ·have h0:_=_:=f.1;have HC:=zH (zkx (hEA2.ext he) (Nat.le_trans hsm.items (by decide)));rw [hb] at HC;go_wp;refine HC.out.mono ?_;rintro r W2 ⟨rfl,hx2⟩;dsimp only;go_wp;exact zaa rfl hx2
       iterate 2 · have h0:_=_:=f.1;go_wp;exact sQ
       ·have h0:x 3=I pre.length:=f.1;have h1:_=_:=f.2.1;go_wp;exact sQ
       iterate 2 · have h0:_=_:=f.1;have h1:_=_:=f.2.1;go_wp;exact sQ
       ·have h0:x 1=.pointer (some ⟨w.heap.size,0,none⟩):=f.1;have h1:_=_:=f.2.1;go_wp;exact sQ
       ·have h0:_=_:=f.1;have h1:_=_:=f.2.1;have c1:=(HB.out.ext he).cell (j:=1) rfl;go_wp;exact sQ
       ·have h0:x 3=I pre.length:=f.1;have h1:_=_:=f.2.1;go_wp;exact sQ
       iterate 4 · first | (have h0:_=_:=f.1;have h1:_=_:=f.2.1;have h2:_=_:=f.2.2.1;go_wp;exact sQ) | (have h0:_=_:=f.1;have h1:_=_:=f.2.1;go_wp;exact sQ)
       ·have h0:x 4=.pointer (some ⟨wr.heap.size,0,none⟩):=f.1;have h1:_=_:=f.2.1;go_wp;exact sQ
       ·have h0:_=_:=f.1;have h1:_=_:=f.2.1;have q0:=(rb.ext he).cell (j:=0) rfl;go_wp;exact sQ
       iterate 2 · have h0:_=_:=f.1;have h1:_=_:=f.2.1;have h2:_=_:=f.2.2.1;go_wp;exact sQ
       ·have h0:_=_:=f.1;have h1:_=_:=f.2.1;go_wp;exact sQ
       ·have h0:_=_:=f.1;go_wp;exact sQ
       ·have h0:x 1=.pointer (some ⟨w.heap.size,0,none⟩):=f.1;have h1:_=_:=f.2.1;go_wp;exact sQ
       ·have h0:_=_:=f.1;have h1:_=_:=f.2.1;have c1:=(HB.out.ext he).cell (j:=0) rfl;go_wp;exact sQ
       ·have h0:x 4=.pointer (some ⟨wr.heap.size,0,none⟩):=f.1;have h1:_=_:=f.2.1;go_wp;exact sQ
       ·have h0:_=_:=f.1;have h1:_=_:=f.2.1;have q1:=(rb.ext he).cell (j:=1) rfl;go_wp;exact sQ
       ·have h0:_=_:=f.1;have h1:_=_:=f.2.1;have h2:_=_:=f.2.2.1;have HC:=zH (zil (HSA.out.ext (by decide) he) (hEA2.seen.ext (by decide) he) (Nat.le_trans hsa (by decide)) (Nat.le_trans hsm.seen (by decide)));go_wp;refine HC.out.mono ?_;rintro r W2 ⟨rfl,hx2⟩;dsimp only;go_wp;exact zaa rfl hx2
       ·have h0:_=_:=f.1;have h1:_=_:=f.2.1;go_wp;exact sQ
      case hend =>
       intro x W he f;have h38:x 38=.bool false:=f.2.2.2.2.2.2.2.2.2.2.2.2.2.2.2.2.2.2.2.1;have h44:x 44=.bool (!zbm sa m.seen):=f.2.2.2.2.2.2.2.2.2.2.2.2.2.2.2.2.2.2.2.2.2.2.2.2.2.1;clear f;have HX:=zH (HXB.out.trans he);have HBW:=zH (HB.out.ext he);simp only [List.length_cons,List.length_nil,Nat.reduceAdd,List.take_succ_cons,List.take_zero,List.filterMap_cons,List.filterMap_nil,List.drop_succ_cons,List.drop_zero,zav,Act.put,List.setIfInBounds_toArray,List.set_cons_succ,List.set_cons_zero,h38,h44]
       cases hc:zbm sa m.seen with
       | false=>have HRF:=zH (show mayS ⟨sa,se,sp⟩=false by rw [HM2.out,HME.out,hc];rfl);clear he;go_wp;go_wp2_with fail;go_ret;exact⟨by rw [HRF.out];rfl,HX.out⟩
       | true =>
        have HN:=zH (show zeh sa none se=zeh sa ((pre++[m]).getLast?.map (·.key)) post by rw [HME.out,hc];simp);clear he;go_wp;go_wp2_with fail;go_roundw
        case rel=>exact⟨pre++[m],post,by rw [HL.out];simp,by simp <;> omega,HN,HBW,HX.out⟩
        case measure=>simp [intOf];omega
     ·rw [hp] at HME;have k4:=zg9 h0 (by omega);have k5:((pre.length - 1:Nat):Int) < (se.length:Int):=(by omega);have k6:(0:Int)<=((pre.length - 1:Nat):Int):=(by omega);have k7:(((pre.length - 1:Nat):Int)).toNat=pre.length - 1:=(by omega);have k8:(0:Int) < (pre.length:Int):=by omega
      cases hlt2:ltS q.key m.key with
      | false =>
       have HRF:=zH (show mayS ⟨sa,se,sp⟩=false by rw [HM2.out,HME.out];simp only [hlt2];rfl)
       refine zat [fun v _=>v=entV m (.slice C1 m.seen.length c1) (.slice C2 m.counts.length c2) (.slice C3 m.items.length c3),
   fun v _=>v=.bool true,
   fun v _=>v=.bool false,
   fun v _=>v=.bool false,
   fun v _=>v=I pre.length,
   fun v _=>v=.bool true,
   fun v _=>v=.bool true,
   fun v _=>v=.pointer (some ⟨w.heap.size,1,none⟩),
   fun v _=>v=.slice (some ⟨b,o,none⟩) se.length n2,
   fun v _=>v=I pre.length,
   fun v _=>v=I ((pre.length - 1:Nat):Int),
   fun v _=>v=.pointer (some ⟨b,o+(pre.length - 1) * 7,none⟩),
   fun v _=>v=.pointer (some ⟨b,o+(pre.length - 1) * 7,none⟩),
   fun v _=>v=St q.key,
   fun v _=>v=.pointer (some ⟨wr.heap.size,0,none⟩),
   fun v _=>v=St m.key,
   fun v _=>v=.bool true,
   fun v _=>v=.bool true,
   fun v _=>v=.bool true,
   fun v _=>v=.bool true,
   fun v _=>v=.tuple #[],
   fun v _=>v=.tuple #[],
   fun v _=>v=.tuple #[],
   fun v _=>v=.tuple #[],
   fun v _=>v=.tuple #[],
   fun v _=>v=.tuple #[]] rfl (by kernel_rfl) ?hR ?hstep ?hend
       case hR=>simp only [List.mem_cons,List.not_mem_nil,or_false,forall_eq_or_imp,forall_eq];exact⟨kP,kP,kP,kP,kP,kP,kP,kP,kP,kP,kP,kP,kP,kP,kP,kP,kP,kP,kP,kP,kP,kP,kP,kP,kP,kP⟩
       case hstep =>
        simp only [List.length_cons,List.length_nil,Nat.reduceAdd,List.take_succ_cons,List.take_zero,zbj,and_true]
        and_intros <;> intro x W he f
        ·have h0:x 4=.pointer (some ⟨wr.heap.size,0,none⟩):=f.1;have q0:=(rb.ext he).cell (j:=0) rfl;have q1:=(rb.ext he).cell (j:=1) rfl;have q2:=(rb.ext he).cell (j:=2) rfl;have q3:=(rb.ext he).cell (j:=3) rfl;have q4:=(rb.ext he).cell (j:=4) rfl;have q5:=(rb.ext he).cell (j:=5) rfl;have q6:=(rb.ext he).cell (j:=6) rfl;go_wp;exact sQ
        ·have h0:_=_:=f.1;have HC:=zH (zkx (hEA2.ext he) (Nat.le_trans hsm.items (by decide)));rw [hb] at HC;go_wp;refine HC.out.mono ?_;rintro r W2 ⟨rfl,hx2⟩;dsimp only;go_wp;exact zaa rfl hx2
        iterate 2 · have h0:_=_:=f.1;go_wp;exact sQ
        ·have h0:x 3=I pre.length:=f.1;have h1:_=_:=f.2.1;go_wp;exact sQ
        iterate 2 · have h0:_=_:=f.1;have h1:_=_:=f.2.1;go_wp;exact sQ
        ·have h0:x 1=.pointer (some ⟨w.heap.size,0,none⟩):=f.1;have h1:_=_:=f.2.1;go_wp;exact sQ
        ·have h0:_=_:=f.1;have h1:_=_:=f.2.1;have c1:=(HB.out.ext he).cell (j:=1) rfl;go_wp;exact sQ
        ·have h0:x 3=I pre.length:=f.1;have h1:_=_:=f.2.1;go_wp;exact sQ
        iterate 3 · first | (have h0:_=_:=f.1;have h1:_=_:=f.2.1;have h2:_=_:=f.2.2.1;go_wp;exact sQ) | (have h0:_=_:=f.1;have h1:_=_:=f.2.1;go_wp;exact sQ)
        ·have h0:_=_:=f.1;have h1:_=_:=f.2.1;have c1:=he.cell hq0;go_wp;exact sQ
        ·have h0:x 4=.pointer (some ⟨wr.heap.size,0,none⟩):=f.1;have h1:_=_:=f.2.1;go_wp;exact sQ
        ·have h0:_=_:=f.1;have h1:_=_:=f.2.1;have q0:=(rb.ext he).cell (j:=0) rfl;go_wp;exact sQ
        iterate 2 · have h0:_=_:=f.1;have h1:_=_:=f.2.1;have h2:_=_:=f.2.2.1;go_wp;exact sQ
        ·have h0:_=_:=f.1;have h1:_=_:=f.2.1;go_wp;exact sQ
        ·have h0:_=_:=f.1;go_wp;exact sQ
        ·have h0:x 1=.pointer (some ⟨w.heap.size,0,none⟩):=f.1;have h1:_=_:=f.2.1;go_wp;exact sQ
        ·have h0:_=_:=f.1;have h1:_=_:=f.2.1;have c1:=(HB.out.ext he).cell (j:=0) rfl;go_wp;exact sQ
        ·have h0:x 4=.pointer (some ⟨wr.heap.size,0,none⟩):=f.1;have h1:_=_:=f.2.1;go_wp;exact sQ
        ·have h0:_=_:=f.1;have h1:_=_:=f.2.1;have q1:=(rb.ext he).cell (j:=1) rfl;go_wp;exact sQ
        ·have h0:_=_:=f.1;have h1:_=_:=f.2.1;have h2:_=_:=f.2.2.1;go_wp;exact sQ
        ·have h0:_=_:=f.1;have h1:_=_:=f.2.1;go_wp;exact sQ
       case hend=>intro x W he f;have h38:x 38=.bool true:=f.2.2.2.2.2.2.2.2.2.2.2.2.2.2.2.2.2.2.2.1;clear f;have HX:=zH (HXB.out.trans he);have HBW:=zH (HB.out.ext he);simp only [List.length_cons,List.length_nil,Nat.reduceAdd,List.take_succ_cons,List.take_zero,List.filterMap_cons,List.filterMap_nil,List.drop_succ_cons,List.drop_zero,zav,Act.put,List.setIfInBounds_toArray,List.set_cons_succ,List.set_cons_zero,h38];clear he;go_wp;go_wp2_with fail;go_ret;exact⟨by rw [HRF.out];rfl,HX.out⟩
      | true =>
       have HME2:=zH (show zeh sa none se=(zbm sa m.seen && zeh sa (some m.key) post) by rw [HME.out];simp only [hlt2];rfl)
       refine zat [fun v _=>v=entV m (.slice C1 m.seen.length c1) (.slice C2 m.counts.length c2) (.slice C3 m.items.length c3),
   fun v _=>v=.bool true,
   fun v _=>v=.bool false,
   fun v _=>v=.bool false,
   fun v _=>v=I pre.length,
   fun v _=>v=.bool true,
   fun v _=>v=.bool true,
   fun v _=>v=.pointer (some ⟨w.heap.size,1,none⟩),
   fun v _=>v=.slice (some ⟨b,o,none⟩) se.length n2,
   fun v _=>v=I pre.length,
   fun v _=>v=I ((pre.length - 1:Nat):Int),
   fun v _=>v=.pointer (some ⟨b,o+(pre.length - 1) * 7,none⟩),
   fun v _=>v=.pointer (some ⟨b,o+(pre.length - 1) * 7,none⟩),
   fun v _=>v=St q.key,
   fun v _=>v=.pointer (some ⟨wr.heap.size,0,none⟩),
   fun v _=>v=St m.key,
   fun v _=>v=.bool false,
   fun v _=>v=.bool false,
   fun v _=>v=.bool false,
   fun v _=>v=.bool false,
   fun v _=>v=.pointer (some ⟨w.heap.size,0,none⟩),
   fun v _=>v=.slice A1 sa.length n1,
   fun v _=>v=.pointer (some ⟨wr.heap.size,1,none⟩),
   fun v _=>v=.slice C1 m.seen.length c1,
   fun v _=>v=.bool (zbm sa m.seen),
   fun v _=>v=.bool (!zbm sa m.seen)] rfl (by kernel_rfl) ?hR ?hstep ?hend
       case hR=>simp only [List.mem_cons,List.not_mem_nil,or_false,forall_eq_or_imp,forall_eq];exact⟨kP,kP,kP,kP,kP,kP,kP,kP,kP,kP,kP,kP,kP,kP,kP,kP,kP,kP,kP,kP,kP,kP,kP,kP,kP,kP⟩
       case hstep =>
        simp only [List.length_cons,List.length_nil,Nat.reduceAdd,List.take_succ_cons,List.take_zero,zbj,and_true]
        and_intros <;> intro x W he f
        ·have h0:x 4=.pointer (some ⟨wr.heap.size,0,none⟩):=f.1;have q0:=(rb.ext he).cell (j:=0) rfl;have q1:=(rb.ext he).cell (j:=1) rfl;have q2:=(rb.ext he).cell (j:=2) rfl;have q3:=(rb.ext he).cell (j:=3) rfl;have q4:=(rb.ext he).cell (j:=4) rfl;have q5:=(rb.ext he).cell (j:=5) rfl;have q6:=(rb.ext he).cell (j:=6) rfl;go_wp;exact sQ
        ·have h0:_=_:=f.1;have HC:=zH (zkx (hEA2.ext he) (Nat.le_trans hsm.items (by decide)));rw [hb] at HC;go_wp;refine HC.out.mono ?_;rintro r W2 ⟨rfl,hx2⟩;dsimp only;go_wp;exact zaa rfl hx2
        iterate 2 · have h0:_=_:=f.1;go_wp;exact sQ
        ·have h0:x 3=I pre.length:=f.1;have h1:_=_:=f.2.1;go_wp;exact sQ
        iterate 2 · have h0:_=_:=f.1;have h1:_=_:=f.2.1;go_wp;exact sQ
        ·have h0:x 1=.pointer (some ⟨w.heap.size,0,none⟩):=f.1;have h1:_=_:=f.2.1;go_wp;exact sQ
        ·have h0:_=_:=f.1;have h1:_=_:=f.2.1;have c1:=(HB.out.ext he).cell (j:=1) rfl;go_wp;exact sQ
        ·have h0:x 3=I pre.length:=f.1;have h1:_=_:=f.2.1;go_wp;exact sQ
        iterate 3 · first | (have h0:_=_:=f.1;have h1:_=_:=f.2.1;have h2:_=_:=f.2.2.1;go_wp;exact sQ) | (have h0:_=_:=f.1;have h1:_=_:=f.2.1;go_wp;exact sQ)
        ·have h0:_=_:=f.1;have h1:_=_:=f.2.1;have c1:=he.cell hq0;go_wp;exact sQ
        ·have h0:x 4=.pointer (some ⟨wr.heap.size,0,none⟩):=f.1;have h1:_=_:=f.2.1;go_wp;exact sQ
        ·have h0:_=_:=f.1;have h1:_=_:=f.2.1;have q0:=(rb.ext he).cell (j:=0) rfl;go_wp;exact sQ
        iterate 2 · have h0:_=_:=f.1;have h1:_=_:=f.2.1;have h2:_=_:=f.2.2.1;go_wp;exact sQ
        ·have h0:_=_:=f.1;have h1:_=_:=f.2.1;go_wp;exact sQ
        ·have h0:_=_:=f.1;go_wp;exact sQ
        ·have h0:x 1=.pointer (some ⟨w.heap.size,0,none⟩):=f.1;have h1:_=_:=f.2.1;go_wp;exact sQ
        ·have h0:_=_:=f.1;have h1:_=_:=f.2.1;have c1:=(HB.out.ext he).cell (j:=0) rfl;go_wp;exact sQ
        ·have h0:x 4=.pointer (some ⟨wr.heap.size,0,none⟩):=f.1;have h1:_=_:=f.2.1;go_wp;exact sQ
        ·have h0:_=_:=f.1;have h1:_=_:=f.2.1;have q1:=(rb.ext he).cell (j:=1) rfl;go_wp;exact sQ
        ·have h0:_=_:=f.1;have h1:_=_:=f.2.1;have h2:_=_:=f.2.2.1;have HC:=zH (zil (HSA.out.ext (by decide) he) (hEA2.seen.ext (by decide) he) (Nat.le_trans hsa (by decide)) (Nat.le_trans hsm.seen (by decide)));go_wp;refine HC.out.mono ?_;rintro r W2 ⟨rfl,hx2⟩;dsimp only;go_wp;exact zaa rfl hx2
        ·have h0:_=_:=f.1;have h1:_=_:=f.2.1;go_wp;exact sQ
       case hend =>
        intro x W he f;have h38:x 38=.bool false:=f.2.2.2.2.2.2.2.2.2.2.2.2.2.2.2.2.2.2.2.1;have h44:x 44=.bool (!zbm sa m.seen):=f.2.2.2.2.2.2.2.2.2.2.2.2.2.2.2.2.2.2.2.2.2.2.2.2.2.1;clear f;have HX:=zH (HXB.out.trans he);have HBW:=zH (HB.out.ext he);simp only [List.length_cons,List.length_nil,Nat.reduceAdd,List.take_succ_cons,List.take_zero,List.filterMap_cons,List.filterMap_nil,List.drop_succ_cons,List.drop_zero,zav,Act.put,List.setIfInBounds_toArray,List.set_cons_succ,List.set_cons_zero,h38,h44]
        cases hc:zbm sa m.seen with
        | false=>have HRF:=zH (show mayS ⟨sa,se,sp⟩=false by rw [HM2.out,HME2.out,hc];rfl);clear he;go_wp;go_wp2_with fail;go_ret;exact⟨by rw [HRF.out];rfl,HX.out⟩
        | true =>
         have HN:=zH (show zeh sa none se=zeh sa ((pre++[m]).getLast?.map (·.key)) post by rw [HME2.out,hc];simp);clear he;go_wp;go_wp2_with fail;go_roundw
         case rel=>exact⟨pre++[m],post,by rw [HL.out];simp,by simp <;> omega,HN,HBW,HX.out⟩
         case measure=>simp [intOf];omega
   | nil =>
    rw [List.append_nil] at hl;have hln:se.length=pre.length:=(by rw [hl]);have HM3:=zH (show mayS ⟨sa,se,sp⟩=zdt sa none sp by rw [HM2.out,hme.out];simp [zeh]);have c2:=hrow.out.cell (j:=2) rfl;have HX:=zH hx;have HSA:=zH H.out.all;clear hl hme hx HM2;go_wp2_with fail;obtain⟨wo,rfl⟩:∃ wo:World,wo=wr:=⟨_,rfl⟩
    go_loopw [50] (fun i wr2=>∃ p2 q2,sp=p2++q2/\i=I p2.length/\Hid (zdt sa none sp=zdt sa p2.getLast? q2)/\Hid (RowIs wr2 w.heap.size 26 [.slice A1 sa.length n1,.slice A2 se.length n2,.slice A3 sp.length n3] [])/\Ext w wr2) (fun i _=>sp.length - (intOf i).toNat)
    case atStart=>exact⟨[],sp,rfl,rfl,zH rfl,hrow,HX.out⟩
    case round =>
     obtain⟨p2,q2,hl2,rfl,hmp,hrow2,hx2⟩:=hrel
     cases q2 with
     | cons p q2 =>
      obtain⟨b,o,rfl,e0⟩:=HPT.out p2 q2 p wr hx2 hl2;have hlt2:p2.length < sp.length:=(by rw [hl2];simp);have HL2:=zH hl2
      have hprev:(p2.length=0/\p2.getLast? = none) ∨ (0 < p2.length/\∃ q:Str,p2.getLast? = some q/\wr.cell? ⟨b,o+(p2.length - 1),none⟩=some (St q)):=by
       rcases Nat.eq_zero_or_pos p2.length with h0 | h0
       ·exact .inl ⟨h0,by rw [List.eq_nil_of_length_eq_zero h0];rfl⟩
       ·obtain⟨p',q,f1,f2,f3⟩:=zin h0;obtain⟨b',o',e,q0⟩:=HPT.out p' (p :: q2) q wr hx2 (by rw [hl2,f1];simp);cases e;rw [f3] at q0;exact .inr ⟨h0,q,f2,q0⟩
      have r0:=hrow2.out.cell (j:=0) rfl;have r2:=hrow2.out.cell (j:=2) rfl;have HMP:=zH (show zdt sa none sp=(!p.isEmpty && ((match p2.getLast? with | none=>true | some k=>ltS k p) && (decide (ofM sa p=0) && zdt sa (some p) q2))) from hmp.out);have HX2:=zH hx2;have HOF:=zH (ze1 p (HSA.out.ext (by decide) hx2));clear hl2 hmp hx2
      by_cases hpe:p = []
      ·subst hpe;have HRF:=zH (show mayS ⟨sa,se,sp⟩=false by rw [HM3.out,HMP.out];rfl);clear hprev HOF;go_wp2_with fail;go_ret;exact⟨by rw [HRF.out];rfl,HX2.out⟩
      ·have hpb:(p == [])=false:=(by simpa using hpe);have hpi:p.isEmpty=false:=by cases p with | nil=>exact absurd rfl hpe | cons _ _=>rfl
       rw [hpi] at HMP;clear hpe hpi;rcases hprev with ⟨h0,hp⟩ | ⟨h0,q,hp,hq0⟩
       ·rw [hp] at HMP;obtain rfl:=List.eq_nil_of_length_eq_zero h0;simp only [List.length_nil,Nat.add_zero] at e0;have HME2:=zH (show zdt sa none sp=(decide (ofM sa p=0) && zdt sa (some p) q2) from HMP.out);clear hp;go_wp2_with fail;refine HOF.out.mono ?_;rintro r W2 ⟨rfl,hx3⟩;have HX3:=zH (HX2.out.trans hx3);have HRW:=zH (hrow2.out.ext hx3);obtain⟨z,hz9⟩:∃ z,ofM sa p=z:=⟨_,rfl⟩
        rw [hz9] at HME2;rw [hz9];clear hx3 hz9;rcases Nat.eq_zero_or_pos z with h9 | h9
        ·subst h9;have HN:=zH (show zdt sa none sp=zdt sa ((([]:List Str)++[p]).getLast?) q2 by rw [HME2.out];simp);go_wp2_with fail;go_roundw
         case rel=>exact⟨[]++[p],q2,by rw [HL2.out];simp,by simp,HN,HRW,HX3.out⟩
         case measure=>simp [intOf];omega
        ·have HRF:=zH (show mayS ⟨sa,se,sp⟩=false by rw [HM3.out,HME2.out];simp;omega);have h10:(z:Int) > 0:=(by omega);go_wp2_with fail;go_ret;exact⟨by rw [HRF.out];rfl,HX3.out⟩
       ·rw [hp] at HMP;have k4:=zg9 h0 (by omega);have k5:((p2.length - 1:Nat):Int) < (sp.length:Int):=(by omega);have k6:(0:Int)<=((p2.length - 1:Nat):Int):=(by omega);have k7:(((p2.length - 1:Nat):Int)).toNat=p2.length - 1:=(by omega);have k8:(0:Int) < (p2.length:Int):=(by omega);clear hp
        cases hlt3:ltS q p with
        | false=>have HRF:=zH (show mayS ⟨sa,se,sp⟩=false by rw [HM3.out,HMP.out];simp only [hlt3];rfl);clear HOF;go_wp2_with fail;go_ret;exact⟨by rw [HRF.out];rfl,HX2.out⟩
        | true =>
         have HME2:=zH (show zdt sa none sp=(decide (ofM sa p=0) && zdt sa (some p) q2) by rw [HMP.out];simp only [hlt3];rfl);go_wp2_with fail;refine HOF.out.mono ?_;rintro r W2 ⟨rfl,hx3⟩;have HX3:=zH (HX2.out.trans hx3);have HRW:=zH (hrow2.out.ext hx3);obtain⟨z,hz9⟩:∃ z,ofM sa p=z:=⟨_,rfl⟩
         rw [hz9] at HME2;rw [hz9];clear hx3 hz9;rcases Nat.eq_zero_or_pos z with h9 | h9
         ·subst h9;have HN:=zH (show zdt sa none sp=zdt sa ((p2++[p]).getLast?) q2 by rw [HME2.out];simp);go_wp2_with fail;go_roundw
          case rel=>exact⟨p2++[p],q2,by rw [HL2.out];simp,by simp <;> omega,HN,HRW,HX3.out⟩
          case measure=>simp [intOf];omega
         ·have HRF:=zH (show mayS ⟨sa,se,sp⟩=false by rw [HM3.out,HME2.out];simp;omega);have h10:(z:Int) > 0:=(by omega);go_wp2_with fail;go_ret;exact⟨by rw [HRF.out];rfl,HX3.out⟩
     | nil=>rw [List.append_nil] at hl2;have hln2:sp.length=p2.length:=(by rw [hl2]);have HRT:=zH (show mayS ⟨sa,se,sp⟩=true by rw [HM3.out,hmp.out];rfl);have HX2:=zH hx2;clear hl2 hmp hx2;go_wp2_with fail;go_ret;exact⟨by rw [HRT.out];rfl,HX2.out⟩
end
end Go.Proofs.YtaabaflgeljbjaaGreat
