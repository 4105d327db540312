/- Laws. -/
import Derived.Test.YtaabaflgeljbjaaGreatPr25
import Derived.Test.YtaabaflgeljbjaaGreatPr07
set_option linter.unusedVariables false
set_option linter.unusedSimpArgs false
set_option maxRecDepth 100000
set_option maxHeartbeats 40000000
namespace Go.Proofs.YtaabaflgeljbjaaGreat
section
open Go.RowKit
section
variable {P:Program} {ops:Array Oper} {Q:Exit->Act->World->Prop}
theorem zrj {lp nd:Nat} {row:String} {args:Array Value} {w:World} {R:Value->World->Prop} (h:Rows P row args w R):RowsIn (Fence.wide.inRound lp) nd P row args w R :=
 fun c cs _=>let ⟨v,w',r,s⟩:=h c cs;⟨v,w',r,stepsIn_wide.2 s⟩
theorem zxq {lp nd:Nat} {o:Oper} {a:Act} {w:World} {K:Act->World->Prop} (hd:∀ c,o.op ≠ .defer c) (h:o.wp P a w K Q):o.wpIn (Fence.wide.inRound lp) nd P a w K Q:=by
 refine ⟨fun _ _=>trivial,?_⟩;rw [Oper.semAt_eq _ _ _ hd];unfold Oper.wp at h;generalize (execOp a.eval o).run P w=r at h ⊢
 cases r with
 | ok x w' =>
  cases x with
  | value v=>exact h
  | skip=>exact h
  | defer d=>exact h
  | enter f args=>refine ⟨fun h=>by simp [Fence.wide] at h,CallsIn.inRound lp (callsIn_wide.2 (Calls.mono h fun e w'' he=>?_))⟩;cases e <;> exact he
  | row row args=>exact⟨fun h=>by simp [Fence.wide] at h,zrj h⟩
  | _=>exact h.elim
 | halt x w'=>cases x <;> exact h
theorem zxr {lp nd:Nat} {i:Nat} {K K':Act->World->Prop} {a:Act} {w:World} (hlo:LetsOut Q->False) (hd:∀ (i:Nat) (o:Oper),ops[i]? = some o->∀ c,o.op ≠ .defer c) (hK:∀ a w,K a w->K' a w) (h:wpOp P ops Q i K a w):wpOpIn (Fence.wide.inRound lp) nd P ops Q i K' a w:=by
 refine wpOpIn_mono hK ?_;unfold wpOp at h;unfold wpOpIn
 cases ho:ops[i]? with
 | none=>rw [ho] at h;exact h
 | some o =>
  rw [ho] at h;simp only at h ⊢
  split
  ·rename_i hw;rw [if_pos hw] at h;exact zxq (hd i o ho) (h.resolve_right fun h=>hlo h.2)
  ·rename_i hw;rw [if_neg hw] at h;exact⟨fun _ _=>trivial,h⟩
theorem zoa {lp nd:Nat} {md:Region.Mode} (hlo:LetsOut Q->False) (hd:∀ (i:Nat) (o:Oper),ops[i]? = some o->∀ c,o.op ≠ .defer c):∀ (fuel:Nat) (listed:Array Bool) (a:Act) (w:World),wpAny P md ops Q fuel listed a w->wpAnyIn (Fence.wide.inRound lp) nd P md ops Q fuel listed a w
 | 0,_,_,_,h=>h
 | fuel+1,listed,a,w,h=>⟨h.1,fun i hi=>zxr hlo hd (fun a w h=>zoa hlo hd fuel _ a w h) (h.2 i hi)⟩
end
section
variable {P:Program} {Q:Exit->Act->World->Prop} {a0:Act}
end
def LowP (v:Value) (w:World):Prop:=∃ g,v=.pointer (some ⟨g,0,none⟩)/\g < w.heap.size
def FreshP (v:Value) (w w':World):Prop:=∃ g,v=.pointer (some ⟨g,0,none⟩)/\w.heap.size<=g/\g < w'.heap.size
theorem LowP.ext {v:Value} {w w':World} (h:LowP v w) (he:Ext w w'):LowP v w':=by obtain⟨g,e,h⟩:=h;exact⟨g,e,Nat.lt_of_lt_of_le h he.size⟩
theorem FreshP.low {v:Value} {w w':World} (h:FreshP v w w'):LowP v w':=by obtain⟨g,e,_,h⟩:=h;exact⟨g,e,h⟩
theorem FreshP.ne {u v:Value} {w w':World} (h:FreshP v w w') (hu:LowP u w):u ≠ v:=by
 obtain⟨g,rfl,h1,_⟩:=h;obtain⟨g',rfl,h2⟩:=hu;intro e;simp only [Value.pointer.injEq,Option.some.injEq,Addr.mk.injEq,and_true] at e;omega
def zbg (fr:List Nat) (dst:Option Tmp) (r:Value->World->Prop) (w:World) (v:Value) (w':World):Prop:=r v w'/\match dst with
 | none=>True
 | some d=>d ∈ fr->FreshP v w w'
section
variable {P:Program} {ops:Array Oper} {Q:Exit->Act->World->Prop}
variable {n N:Nat} {a0:Act} {w0:World} {R:Nat->Value->World->Prop} {fr:List Nat}
structure RInvA (ops:Array Oper) (n:Nat) (fr:List Nat) (listed:Array Bool) (a:Act) (w:World):Prop where
 low:∀ d i,d ∈ fr->zbe ops n d=some i->listed.getD i false=true->LowP (a.eval (.tmp d)) w
 apart:∀ d i e j,d ∈ fr->e ∈ fr->d ≠ e->zbe ops n d=some i->zbe ops n e=some j->listed.getD i false=true->listed.getD j false=true->a.eval (.tmp d) ≠ a.eval (.tmp e)
theorem zu2 (hB:zhw ops n a0.tmps.size=true) (hR:∀ i v w w',R i v w->Ext w w'->R i v w')
  (hstep:∀ i o,i < n->ops[i]? = some o->∀ (x:Nat->Value) (w:World),Ext w0 w->(∀ t ∈ o.looksAt ops,za8 ops n a0 R x w t)->wpList P ops (zhx (zam a0.tmps.size a0.defers x) o.dst (zbg fr o.dst (R i) w) w) [o] (zam a0.tmps.size a0.defers x) w)
  (hend:∀ (x:Nat->Value) (w:World),Ext w0 w->(∀ t,za8 ops n a0 R x w t)->(∀ d e,d ∈ fr->e ∈ fr->d ≠ e->(zbe ops n d).isSome=true->(zbe ops n e).isSome=true->x d ≠ x e)->wpList P ops Q (ops.toList.drop n) (zam a0.tmps.size a0.defers x) w) :
  ∀ (k:Nat) (listed:Array Bool) (a:Act) (w:World),HeadInv .any ops n listed->cntU n listed=k->RInv ops n a0 w0 R listed a w->RInvA ops n fr listed a w->wpAny P .any ops Q (k+(ops.size - n)) listed a w:=by
 obtain⟨h1,h2,h3,h4,h5⟩:=zha hB;intro k
 induction k with
 | zero =>
  intro listed a w inv hc ri ra
  have hall:∀ i,i < n->listed.getD i false=true:=fun i hi=>by
   have:=List.countP_eq_zero.1 hc i (List.mem_range.2 hi)
   simpa using this
  have hcan:listed=zby n ops.size:=by
   apply Array.ext_getElem?
   intro i
   by_cases hi:i < ops.size
   ·have hil:i < listed.size:=by rw [inv.size];exact hi
    by_cases hin:i < n
    ·have:=hall i hin;simp [hil] at this;simp [zby,hi,hin,hil,this]
    ·have:=inv.tail i (by omega) hi;simp [hil] at this;simp [zby,hi,hin,hil,this]
   ·have hil:¬ i < listed.size:=(by rw [inv.size];exact hi);simp [zby,hi,hil]
  have hlen:(ops.toList.drop n).length=ops.size - n:=by simp
  have ha:=zdp a;rw [ri.size,ri.defers] at ha
  have hw:wpList P ops Q (ops.toList.drop n) a w:=by
   rw [ha];refine hend _ w ri.ext (fun t=>?_) (fun d e hd he hne h1 h2=>?_)
   rotate_left
   ·obtain⟨i,hi⟩:=Option.isSome_iff_exists.1 h1;obtain⟨j,hj⟩:=Option.isSome_iff_exists.1 h2;exact ra.apart d i e j hd he hne hi hj (hall i (zbs hi).1) (hall j (zbs hj).1)
   unfold za8
   split
   ·rename_i hd;exact ri.old t hd
   ·rename_i j hd;exact ri.got j t hd (hall j (zbs hd).1)
  have:=wpAny_of_seq (md:=.any) (Q':=Q) (ops.toList.drop n) n listed a w (fun j=>by simp [List.getElem?_drop]) (by rw [hlen,hcan];exact h5) hw;rw [hlen] at this;rw [Nat.zero_add];exact this
 | succ k ih =>
  intro listed a w inv hc ri ra
  have hex:∃ i,i < n/\listed.getD i false=false:=by
   have:0 < cntU n listed:=by omega
   obtain⟨i,hi,hl⟩:=List.countP_pos_iff.1 this;exact⟨i,List.mem_range.1 hi,by simpa using hl⟩
  obtain⟨i0,hi0,hl0⟩:=hex;obtain⟨jr,hjr,hjr2⟩:=zmv hB inv i0 hi0 hl0;rw [show k+1+(ops.size - n)=(k+(ops.size - n))+1 by omega];refine ⟨(fun h0=>(by rw [h0] at hjr2;cases hjr2)),fun i hi=>?_⟩
  have hin:i < n:=by
   rcases Nat.lt_or_ge i n with h | h
   ·exact h
   ·exact absurd hi (tail_waits h2 h3 h1 inv _ i0 rfl hi0 (getD_in (by rw [inv.size];omega) hl0) i h)
  obtain⟨hun,o,ho,hdeps⟩:=mem_ready.1 hi;obtain⟨g2,⟨d,g3,g3',g3''⟩,g4⟩:=zj2 (h4 i o hin ho);have ha:=zdp a;rw [ri.size,ri.defers] at ha
  have hs:=hstep i o hin ho (fun t=>a.eval (.tmp t)) w ri.ext fun t ht=>by
   unfold za8
   split
   ·rename_i hd;exact ri.old t hd
   ·rename_i j hd;refine ri.got j t hd ?_;obtain⟨o',ho',e,he,hb,hon⟩:=Region.waitsFor_spec (g4 t ht j hd);have:o'=o:=Option.some.inj (ho'.symm.trans ho);subst this;rw [<- hon];exact hdeps e he hb
  rw [<- ha] at hs;refine zdq ho (fun e a w he h=>by cases e <;> first | exact absurd rfl he | exact h) (fun a' w' h=>?_) hs;obtain⟨v,rfl,hv,hx⟩:=h;rw [g3];have hsz:d < a.tmps.size:=by rw [ri.size];exact g3'
  obtain⟨hv,hfv⟩:=hv;rw [g3] at hfv;simp only at hfv;refine ih _ _ _ (inv.set hi hin) ?_ ⟨by rw [zfu];exact ri.size,by rw [zfh];exact ri.defers,ri.ext.trans hx,fun t ht=>?_,fun j t ht hl=>?_⟩ ?_
  rotate_right
  ·have hoth:∀ t j,zbe ops n t=some j->d ≠ t->(listed.setIfInBounds i true).getD j false=true->listed.getD j false=true:=fun t j ht hdt hl=>by
    have hji:i ≠ j:=fun e=>by subst e;have:=(zbs ht).2;rw [ho] at this;exact hdt (Option.some.inj (g3.symm.trans this))
    rwa [getD_set_ne false hji] at hl
   refine ⟨fun t j hf ht hl=>?_,fun t j e k hf he hne ht hk hl1 hl2=>?_⟩
   ·by_cases hdt:d=t
    ·subst hdt;rw [zer _ _ _ hsz];exact (hfv hf).low
    ·rw [zc5 _ _ _ _ hdt];exact (ra.low t j hf ht (hoth t j ht hdt hl)).ext hx
   ·by_cases hdt:d=t
    ·subst hdt;rw [zer _ _ _ hsz,zc5 _ _ _ _ hne];exact ((hfv hf).ne (ra.low e k he hk (hoth e k hk hne hl2))).symm
    ·by_cases hde:d=e
     ·subst hde;rw [zer _ _ _ hsz,zc5 _ _ _ _ hdt];exact (hfv he).ne (ra.low t j hf ht (hoth t j ht hdt hl1))
     ·rw [zc5 _ _ _ _ hdt,zc5 _ _ _ _ hde];exact ra.apart t j e k hf he hne ht hk (hoth t j ht hdt hl1) (hoth e k hk hde hl2)
  ·have:=zf3 (fun j=>!listed.getD j false) (fun j=>!(listed.setIfInBounds i true).getD j false) i (by simpa using getD_both hun) (by
    have hlt:i < listed.size:=(by rw [inv.size];omega);simp [hlt]) (fun j hj=>by simp only [getD_set_ne false (Ne.symm hj)]) n hin
   unfold cntU at hc ⊢;omega
  ·rw [zc5 _ _ _ _ (fun e=>by subst e;rw [ht] at g3'';cases g3'')];exact ri.old t ht
  ·by_cases hdt:d=t
   ·subst hdt;obtain rfl:j=i:=Option.some.inj (ht.symm.trans g3'');rw [zer _ _ _ hsz];exact hv
   ·rw [zc5 _ _ _ _ hdt]
    have hji:i ≠ j:=fun e=>by subst e;have:=(zbs ht).2;rw [ho] at this;exact hdt (Option.some.inj (g3.symm.trans this))
    rw [getD_set_ne false hji] at hl;exact hR _ _ _ _ (ri.got j t ht hl) hx
def zd1 (P:Program) (ops:Array Oper) (n:Nat) (a0:Act) (w0:World) (R:Nat->Value->World->Prop) (fr:List Nat):List Oper->List (Value->World->Prop)->Prop
 | o :: l,r :: rs=>(∀ (x:Nat->Value) (w:World),Ext w0 w->za9 ops n a0 R x w (o.looksAt ops)->wpList P ops (zhx (zam a0.tmps.size a0.defers x) o.dst (zbg fr o.dst r w) w) [o] (zam a0.tmps.size a0.defers x) w)/\zd1 P ops n a0 w0 R fr l rs
 | [],[]=>True
 | _,_=>False
theorem zl1:∀ (l:List Oper) (rs:List (Value->World->Prop)),zd1 P ops n a0 w0 R fr l rs->∀ i o,l[i]? = some o->∀ (x:Nat->Value) (w:World),Ext w0 w->(∀ t ∈ o.looksAt ops,za8 ops n a0 R x w t) ->
  wpList P ops (zhx (zam a0.tmps.size a0.defers x) o.dst (zbg fr o.dst (nthR rs i) w) w) [o] (zam a0.tmps.size a0.defers x) w
 | [],_,_,i,o,ho,_,_,_,_=>by simp at ho
 | p :: l,[],h,_,_,_,_,_,_,_=>h.elim
 | p :: l,r :: rs,h,0,o,ho,x,w,he,hf=>by
  obtain rfl:p=o:=by simpa using ho
  exact h.1 x w he (zbp _ hf)
 | p :: l,r :: rs,h,i+1,o,ho,x,w,he,hf=>by
  have:=zl1 l rs h.2 i o (by simpa using ho) x w he hf
  simpa [nthR] using this
def zl2 (x:Nat->Value):List Nat->Prop
 | []=>True
 | d :: l=>(∀ e ∈ l,x d ≠ x e)/\zl2 x l
theorem zpv {x:Nat->Value}:∀ (l:List Nat),l.Nodup->(∀ d ∈ l,∀ e ∈ l,d ≠ e->x d ≠ x e)->zl2 x l
 | [],_,_=>trivial
 | d :: l,hn,h=>⟨fun e he=>h d (by simp) e (by simp [he]) (fun e2=>(List.nodup_cons.1 hn).1 (by rw [e2];exact he)),zpv l (List.nodup_cons.1 hn).2 fun a ha b hb=>h a (by simp [ha]) b (by simp [hb])⟩
theorem zob {l:List Oper} (Rs:List (Value->World->Prop)) (fr:List Nat) (hB:zhw l.toArray Rs.length a0.tmps.size=true) (hfr:(decide fr.Nodup && fr.all fun d=>(zbe l.toArray Rs.length d).isSome)=true)
  (hR:∀ r ∈ Rs,∀ v w w',r v w->Ext w w'->r v w')
  (hstep:zd1 P l.toArray Rs.length a0 w0 (nthR Rs) fr (l.take Rs.length) Rs)
  (hend:∀ (x:Nat->Value) (w:World),Ext w0 w->zl2 x fr->za9 l.toArray Rs.length a0 (nthR Rs) x w ((l.take Rs.length).filterMap (·.dst))->wpList P l.toArray Q (l.drop Rs.length) (zav a0 x ((l.take Rs.length).filterMap (·.dst))) w) :
  wpAny P .any l.toArray Q l.toArray.size (Array.replicate l.toArray.size false) a0 { w0 with drawn:=w0.drawn+1 }:=by
 simp only [Bool.and_eq_true,decide_eq_true_eq,List.all_eq_true] at hfr;obtain⟨hnd,hsome⟩:=hfr;have h1:=(zha hB).1
 have hrep:cntU Rs.length (Array.replicate l.toArray.size false)=Rs.length:=by unfold cntU;rw [List.countP_eq_length.2 (fun i _=>by rw [getD_replicate_false];rfl)];exact List.length_range
 have:=zu2 (P:=P) (Q:=Q) (w0:=w0) (R:=nthR Rs) (fr:=fr) hB (fun i v w w' h he=>by
   unfold nthR at h ⊢
   by_cases hi:i < Rs.length
   ·rw [List.getD_eq_getElem?_getD,List.getElem?_eq_getElem hi] at h ⊢;exact hR _ (List.getElem_mem hi) v w w' h he
   ·rw [List.getD_eq_getElem?_getD,List.getElem?_eq_none (by omega)] at h ⊢
    trivial) (fun i o hi ho=>zl1 _ _ hstep i o (by rw [List.getElem?_take_of_lt hi];simpa using ho))
  (fun x w he h hap=>by rw [show l.toArray.toList=l by simp,zfd (fun t ht=>by have:=h t;unfold za8 at this;rw [ht] at this;exact this)];exact hend x w he (zpv fr hnd fun d hd e he hne=>hap d e hd he hne (hsome d hd) (hsome e he)) (zbp _ fun t _=>h t))
  Rs.length (Array.replicate l.toArray.size false) a0 { w0 with drawn:=w0.drawn+1 }
  ⟨by simp,fun j oj _ hl=>(by rw [getD_replicate_false] at hl;cases hl),fun t _ ht=>getD_in (by simpa using ht) (getD_replicate_false _ _)⟩ hrep
  ⟨rfl,rfl,(Ext.refl w0).drew,fun _ _=>rfl,fun j d _ hl=>(by rw [getD_replicate_false] at hl;cases hl)⟩
  ⟨fun d i _ _ hl=>(by rw [getD_replicate_false] at hl;cases hl),fun d i e j _ _ _ _ _ hl=>(by rw [getD_replicate_false] at hl;cases hl)⟩
 rw [show Rs.length+(l.toArray.size - Rs.length)=l.toArray.size by omega] at this;exact this
theorem zni {id:Nat} {l:List Oper} (Rs:List (Value->World->Prop)) (fr:List Nat) (hm:P.follows .mixedOrders=true) (hB:zhw l.toArray Rs.length a0.tmps.size=true) (hfr:(decide fr.Nodup && fr.all fun d=>(zbe l.toArray Rs.length d).isSome)=true)
  (hR:∀ r ∈ Rs,∀ v w w',r v w->Ext w w'->r v w')
  (hstep:zd1 P l.toArray Rs.length a0 w0 (nthR Rs) fr (l.take Rs.length) Rs)
  (hend:∀ (x:Nat->Value) (w:World),Ext w0 w->zl2 x fr->za9 l.toArray Rs.length a0 (nthR Rs) x w ((l.take Rs.length).filterMap (·.dst))->wpList P l.toArray Q (l.drop Rs.length) (zav a0 x ((l.take Rs.length).filterMap (·.dst))) w) :
  (Code.region id l.toArray true).wp P Q a0 w0:=wp_region_any hm (zob Rs fr hB hfr hR hstep hend)
theorem zet {id lp nd:Nat} {l:List Oper} (Rs:List (Value->World->Prop)) (fr:List Nat) (hm:P.follows .mixedOrders=true) (hlo:LetsOut Q->False) (hnd:∀ o ∈ l,∀ c,o.op ≠ .defer c) (hB:zhw l.toArray Rs.length a0.tmps.size=true)
  (hfr:(decide fr.Nodup && fr.all fun d=>(zbe l.toArray Rs.length d).isSome)=true)
  (hR:∀ r ∈ Rs,∀ v w w',r v w->Ext w w'->r v w')
  (hstep:zd1 P l.toArray Rs.length a0 w0 (nthR Rs) fr (l.take Rs.length) Rs)
  (hend:∀ (x:Nat->Value) (w:World),Ext w0 w->zl2 x fr->za9 l.toArray Rs.length a0 (nthR Rs) x w ((l.take Rs.length).filterMap (·.dst))->wpList P l.toArray Q (l.drop Rs.length) (zav a0 x ((l.take Rs.length).filterMap (·.dst))) w) :
  (Code.region id l.toArray true).wpIn (Fence.wide.inRound lp) nd P Q a0 w0 :=
 wpIn_region_any hm (zoa hlo (fun i o ho=>hnd o (List.mem_of_getElem? (by simpa using ho))) _ _ _ _ (zob Rs fr hB hfr hR hstep hend))
end
end
end Go.Proofs.YtaabaflgeljbjaaGreat
