/- Laws. -/
import Derived.Test.YtblkikjmocnllaaGreatDoorQz01
import Derived.StillTail
import Derived.StillTailTactics
set_option linter.unusedVariables false
set_option linter.unusedSimpArgs false
set_option maxRecDepth 100000
set_option maxHeartbeats 40000000
namespace Go.Proofs.YtblkikjmocnllaaGreatDoor
section
open Go.RowKit
section
variable {P:Program} {ops:Array Oper} {Q:Exit->Act->World->Prop}
def dstIdx (ops:Array Oper) (n t:Nat):Option Nat:=(List.range n).find? fun j=>((ops[j]?).bind (·.dst)) == some t
def canonL (n m:Nat):Array Bool:=((List.range m).map fun i=>decide (i < n)).toArray
def headOp (ops:Array Oper) (n N i:Nat) (o:Oper):Bool :=
 (o.after.toList.all fun e=>!Region.binds .any e || decide (e.on < i)) && (match o.dst with | none=>false | some d=>decide (d < N) && (dstIdx ops n d == some i)) &&
  ((o.looksAt ops).all fun t=>match dstIdx ops n t with | none=>true | some j=>Region.waitsFor .any ops i j)
def headB (ops:Array Oper) (n N:Nat):Bool :=
 decide (n < ops.size) && Region.sinkB .any ops n && Region.chainB .any ops n && ((List.range n).all fun i=>match ops[i]? with | none=>false | some o=>headOp ops n N i o) &&
  Region.seqB .any ops (ops.size - n) n (canonL n ops.size)
def InvAct (N:Nat) (ds:List Deferred) (x:Nat->Value):Act:=⟨((List.range N).map x).toArray,ds⟩
theorem invAct_eq (a:Act):a=InvAct a.tmps.size a.defers (fun t=>a.eval (.tmp t)):=by
 obtain⟨t,d⟩:=a
 simp only [InvAct,Act.mk.injEq,and_true]
 apply Array.ext_getElem?
 intro i
 by_cases h:i < t.size <;> simp [h,Act.eval,Array.getElem?_eq_none]
theorem putA_size (a:Act) (d:Option Tmp) (v:Value):(a.put d v).tmps.size=a.tmps.size:=by cases d <;> simp [Act.put]
theorem putA_defers (a:Act) (d:Option Tmp) (v:Value):(a.put d v).defers=a.defers:=by cases d <;> simp [Act.put]
theorem putA_same (a:Act) (d:Nat) (v:Value) (h:d < a.tmps.size):(a.put (some d) v).eval (.tmp d)=v:=by simp [Act.put,Act.eval,Array.getD,h]
theorem putA_ne (a:Act) (d j:Nat) (v:Value) (h:d ≠ j):(a.put (some d) v).eval (.tmp j)=a.eval (.tmp j):=by
 simp only [Act.put,Act.eval,Array.getD_eq_getD_getElem?]
 rw [Array.getElem?_setIfInBounds_ne h]
def stepQ (A:Act) (dst:Option Tmp) (R:Value->World->Prop) (w:World):Exit->Act->World->Prop
 | .normal,a',w'=>∃ v,a'=A.put dst v/\R v w'/\Ext w w'
 | _,_,_=>False
def slotFact (ops:Array Oper) (n:Nat) (a0:Act) (R:Nat->Value->World->Prop) (x:Nat->Value) (w:World) (t:Nat):Prop :=
 match dstIdx ops n t with
 | none=>x t=a0.eval (.tmp t)
 | some j=>R j (x t) w
structure RInv (ops:Array Oper) (n:Nat) (a0:Act) (w0:World) (R:Nat->Value->World->Prop) (listed:Array Bool) (a:Act) (w:World):Prop where
 size:a.tmps.size=a0.tmps.size
 defers:a.defers=a0.defers
 ext:Ext w0 w
 old:∀ t,dstIdx ops n t=none->a.eval (.tmp t)=a0.eval (.tmp t)
 got:∀ i d,dstIdx ops n d=some i->listed.getD i false=true->R i (a.eval (.tmp d)) w
def cntU (n:Nat) (listed:Array Bool):Nat:=(List.range n).countP fun i=>!listed.getD i false
theorem countP_one (f g:Nat->Bool) (i:Nat) (hf:f i=true) (hg:g i=false) (h:∀ j,j ≠ i->f j=g j):∀ n,i < n->(List.range n).countP g+1=(List.range n).countP f
 | 0,h0=>by omega
 | n+1,h0=>by
  rw [List.range_succ,List.countP_append,List.countP_append]
  by_cases hi:i=n
  ·subst hi
   have:(List.range i).countP g=(List.range i).countP f:=List.countP_congr fun j hj=>by rw [h j (by have:=List.mem_range.1 hj;omega)]
   simp [this,hf,hg]
  ·have:=countP_one f g i hf hg h n (by omega)
   simp [h n (Ne.symm hi)]
   omega
theorem dstIdx_some {n t j:Nat} (h:dstIdx ops n t=some j):j < n/\(ops[j]?).bind (·.dst)=some t:=by
 unfold dstIdx at h
 exact⟨List.mem_range.1 (List.mem_of_find?_eq_some h),by simpa using List.find?_some h⟩
theorem wp_mono2 {o:Oper} {a:Act} {w:World} {K K':Act->World->Prop} {Q':Exit->Act->World->Prop} (h:∀ a w,K a w->K' a w) (hq:∀ e a w,e ≠ .normal->Q' e a w->False)
  (hh:o.wp P a w K Q'):o.wp P a w K' Q:=by
 unfold Oper.wp at *
 generalize (execOp a.eval o).run P w=r at *
 cases r with
 | ok n w' =>
  cases n <;> simp only [Oper.upon] at hh ⊢ <;>
   first
    |exact h _ _ hh
    | exact Calls.mono hh (fun e w'' he=>by
      cases e with
      | returned v=>exact h _ _ he
      | panicked c=>exact (hq _ _ _ (by simp) he).elim
      | outgrown=>obtain⟨a,w,he⟩:=he;exact (hq _ _ _ (by simp) he).elim)
    | exact Rows.mono hh (fun _ _ he=>h _ _ he)
 | halt x w'=>cases x <;> simp only [Oper.upon] at hh ⊢ <;> first | exact hh.elim | exact (hq _ _ _ (by simp) hh).elim
theorem wpOp_of_list {i:Nat} {o:Oper} {a:Act} {w:World} {K:Act->World->Prop} {Q':Exit->Act->World->Prop} (hi:ops[i]? = some o) (hq:∀ e a w,e ≠ .normal->Q' e a w->False)
  (h:∀ a w,Q' .normal a w->K a w) (hh:wpList P ops Q' [o] a w):wpOp P ops Q i K a w:=by
 unfold wpOp
 rw [hi]
 by_cases hw:Region.wanted o (yielded ops a.tmps)=true
 ·simp only [wpList,hw,if_true] at hh ⊢
  rcases hh with hh | ⟨_,a1,w1,hh⟩
  ·exact .inl (wp_mono2 h hq hh)
  ·exact (hq _ _ _ (by simp) hh).elim
 ·simp only [wpList,if_neg hw] at hh ⊢
  exact h _ _ hh
variable {n N:Nat} {a0:Act} {w0:World} {R:Nat->Value->World->Prop}
theorem headB_spec (h:headB ops n N=true):n < ops.size/\Region.sinkB .any ops n=true/\Region.chainB .any ops n=true/\(∀ i o,i < n->ops[i]? = some o->headOp ops n N i o=true)/\Region.seqB .any ops (ops.size - n) n (canonL n ops.size)=true:=by
 simp only [headB,Bool.and_eq_true,decide_eq_true_eq,List.all_eq_true,List.mem_range] at h
 obtain⟨⟨⟨⟨h1,h2⟩,h3⟩,h4⟩,h5⟩:=h
 exact⟨h1,h2,h3,fun i o hi ho=>by have:=h4 i hi;rw [ho] at this;exact this,h5⟩
theorem headOp_spec {i:Nat} {o:Oper} (h:headOp ops n N i o=true):(∀ e ∈ o.after,Region.binds .any e=true->e.on < i)/\(∃ d,o.dst=some d/\d < N/\dstIdx ops n d=some i) /\
  (∀ t ∈ o.looksAt ops,∀ j,dstIdx ops n t=some j->Region.waitsFor .any ops i j=true):=by
 simp only [headOp,Bool.and_eq_true,List.all_eq_true,Option.isNone_iff_eq_none] at h
 obtain⟨⟨h2,h3⟩,h4⟩:=h
 refine ⟨fun e he hb=>?_,?_,fun t ht j hj=>?_⟩
 ·have:=h2 e (by simpa using he)
  simpa [hb] using this
 ·cases hd:o.dst with
  | none=>rw [hd] at h3;cases h3
  | some d=>rw [hd] at h3;simp at h3;exact⟨d,rfl,h3⟩
 ·have:=h4 t ht
  rw [hj] at this
  exact this
theorem least_ready (hB:headB ops n N=true) {listed:Array Bool} (inv:HeadInv .any ops n listed):∀ i,i < n->listed.getD i false=false->∃ j,j < n/\j ∈ Region.ready .any ops listed:=by
 obtain⟨h1,h2,h3,h4,h5⟩:=headB_spec hB
 intro i
 induction i using Nat.strongRecOn with
 | _ i ih =>
  intro hi hl
  have hio:i < ops.size:=by omega
  have hoi:ops[i]? = some ops[i]:=by simp [hio]
  obtain⟨g2,g3,g4⟩:=headOp_spec (h4 i _ hi hoi)
  by_cases hall:∀ e ∈ (ops[i]).after,Region.binds .any e=true->listed.getD e.on false=true
  ·refine ⟨i,hi,mem_ready.2 ⟨?_,_,hoi,hall⟩⟩
   exact getD_in (by rw [inv.size];omega) hl
  ·simp only [Classical.not_forall] at hall
   obtain⟨e,he,hb,hne⟩:=hall
   have:=g2 e he hb
   exact ih e.on this (by omega) (by simpa using hne)
theorem wpAny_inv (hB:headB ops n a0.tmps.size=true) (hR:∀ i v w w',R i v w->Ext w w'->R i v w')
  (hstep:∀ i o,i < n->ops[i]? = some o->∀ (x:Nat->Value) (w:World),Ext w0 w->(∀ t ∈ o.looksAt ops,slotFact ops n a0 R x w t)->wpList P ops (stepQ (InvAct a0.tmps.size a0.defers x) o.dst (R i) w) [o] (InvAct a0.tmps.size a0.defers x) w)
  (hend:∀ (x:Nat->Value) (w:World),Ext w0 w->(∀ t,slotFact ops n a0 R x w t)->wpList P ops Q (ops.toList.drop n) (InvAct a0.tmps.size a0.defers x) w) :
  ∀ (k:Nat) (listed:Array Bool) (a:Act) (w:World),HeadInv .any ops n listed->cntU n listed=k->RInv ops n a0 w0 R listed a w->wpAny P .any ops Q (k+(ops.size - n)) listed a w:=by
 obtain⟨h1,h2,h3,h4,h5⟩:=headB_spec hB
 intro k
 induction k with
 | zero =>
  intro listed a w inv hc ri
  have hall:∀ i,i < n->listed.getD i false=true:=fun i hi=>by
   have:=List.countP_eq_zero.1 hc i (List.mem_range.2 hi)
   simpa using this
  have hcan:listed=canonL n ops.size:=by
   apply Array.ext_getElem?
   intro i
   by_cases hi:i < ops.size
   ·have hil:i < listed.size:=by rw [inv.size];exact hi
    by_cases hin:i < n
    ·have:=hall i hin
     simp [hil] at this
     simp [canonL,hi,hin,hil,this]
    ·have:=inv.tail i (by omega) hi
     simp [hil] at this
     simp [canonL,hi,hin,hil,this]
   ·have hil:¬ i < listed.size:=by rw [inv.size];exact hi
    simp [canonL,hi,hil]
  have hlen:(ops.toList.drop n).length=ops.size - n:=by simp
  have ha:=invAct_eq a
  rw [ri.size,ri.defers] at ha
  have hw:wpList P ops Q (ops.toList.drop n) a w:=by
   rw [ha]
   refine hend _ w ri.ext fun t=>?_
   unfold slotFact
   split
   ·rename_i hd;exact ri.old t hd
   ·rename_i j hd;exact ri.got j t hd (hall j (dstIdx_some hd).1)
  have:=wpAny_of_seq (md:=.any) (Q':=Q) (ops.toList.drop n) n listed a w (fun j=>by simp [List.getElem?_drop]) (by rw [hlen,hcan];exact h5) hw
  rw [hlen] at this
  rw [Nat.zero_add]
  exact this
 | succ k ih =>
  intro listed a w inv hc ri
  have hex:∃ i,i < n/\listed.getD i false=false:=by
   have:0 < cntU n listed:=by omega
   obtain⟨i,hi,hl⟩:=List.countP_pos_iff.1 this
   exact⟨i,List.mem_range.1 hi,by simpa using hl⟩
  obtain⟨i0,hi0,hl0⟩:=hex
  obtain⟨jr,hjr,hjr2⟩:=least_ready hB inv i0 hi0 hl0
  rw [show k+1+(ops.size - n)=(k+(ops.size - n))+1 by omega]
  refine ⟨(fun h0=>(by rw [h0] at hjr2;cases hjr2)),fun i hi=>?_⟩
  have hin:i < n:=by
   rcases Nat.lt_or_ge i n with h | h
   ·exact h
   ·exact absurd hi (tail_waits h2 h3 h1 inv _ i0 rfl hi0 (getD_in (by rw [inv.size];omega) hl0) i h)
  obtain⟨hun,o,ho,hdeps⟩:=mem_ready.1 hi
  obtain⟨g2,⟨d,g3,g3',g3''⟩,g4⟩:=headOp_spec (h4 i o hin ho)
  have ha:=invAct_eq a
  rw [ri.size,ri.defers] at ha
  have hs:=hstep i o hin ho (fun t=>a.eval (.tmp t)) w ri.ext fun t ht=>by
   unfold slotFact
   split
   ·rename_i hd;exact ri.old t hd
   ·rename_i j hd
    refine ri.got j t hd ?_
    obtain⟨o',ho',e,he,hb,hon⟩:=Region.waitsFor_spec (g4 t ht j hd)
    have:o'=o:=Option.some.inj (ho'.symm.trans ho)
    subst this
    rw [<- hon]
    exact hdeps e he hb
  rw [<- ha] at hs
  refine wpOp_of_list ho (fun e a w he h=>by cases e <;> first | exact absurd rfl he | exact h) (fun a' w' h=>?_) hs
  obtain⟨v,rfl,hv,hx⟩:=h
  rw [g3]
  have hsz:d < a.tmps.size:=by rw [ri.size];exact g3'
  refine ih _ _ _ (inv.set hi hin) ?_ ⟨by rw [putA_size];exact ri.size,by rw [putA_defers];exact ri.defers,ri.ext.trans hx,fun t ht=>?_,fun j t ht hl=>?_⟩
  ·have:=countP_one (fun j=>!listed.getD j false) (fun j=>!(listed.setIfInBounds i true).getD j false) i (by simpa using getD_both hun) (by
    have hlt:i < listed.size:=by rw [inv.size];omega
    simp [hlt]) (fun j hj=>by simp only [getD_set_ne false (Ne.symm hj)]) n hin
   unfold cntU at hc ⊢
   omega
  ·rw [putA_ne _ _ _ _ (fun e=>by subst e;rw [ht] at g3'';cases g3'')]
   exact ri.old t ht
  ·by_cases hdt:d=t
   ·subst hdt
    obtain rfl:j=i:=Option.some.inj (ht.symm.trans g3'')
    rw [putA_same _ _ _ hsz]
    exact hv
   ·rw [putA_ne _ _ _ _ hdt]
    have hji:i ≠ j:=fun e=>by
     subst e
     have:=(dstIdx_some ht).2
     rw [ho] at this
     exact hdt (Option.some.inj (g3.symm.trans this))
    rw [getD_set_ne false hji] at hl
    exact hR _ _ _ _ (ri.got j t ht hl) hx
theorem wp_region_inv {id:Nat} {l:List Oper} (n:Nat) (R:Nat->Value->World->Prop) (hm:P.follows .mixedOrders=true) (hB:headB l.toArray n a0.tmps.size=true) (hR:∀ i v w w',R i v w->Ext w w'->R i v w')
  (hstep:∀ i o,i < n->l[i]? = some o->∀ (x:Nat->Value) (w:World),Ext w0 w->(∀ t ∈ o.looksAt l.toArray,slotFact l.toArray n a0 R x w t)->wpList P l.toArray (stepQ (InvAct a0.tmps.size a0.defers x) o.dst (R i) w) [o] (InvAct a0.tmps.size a0.defers x) w)
  (hend:∀ (x:Nat->Value) (w:World),Ext w0 w->(∀ t,slotFact l.toArray n a0 R x w t)->wpList P l.toArray Q (l.drop n) (InvAct a0.tmps.size a0.defers x) w) :
  (Code.region id l.toArray true).wp P Q a0 w0:=by
 refine wp_region_any hm ?_
 have h1:=(headB_spec hB).1
 have hrep:cntU n (Array.replicate l.toArray.size false)=n:=by
  unfold cntU
  rw [List.countP_eq_length.2 (fun i _=>by rw [getD_replicate_false];rfl)]
  exact List.length_range
 have:=wpAny_inv (P:=P) (Q:=Q) (w0:=w0) hB hR (fun i o hi ho=>hstep i o hi (by simpa using ho)) hend n (Array.replicate l.toArray.size false) a0 { w0 with drawn:=w0.drawn+1 }
  ⟨by simp,fun j oj _ hl=>(by rw [getD_replicate_false] at hl;cases hl),fun t _ ht=>getD_in (by simpa using ht) (getD_replicate_false _ _)⟩ hrep
  ⟨rfl,rfl,(Ext.refl w0).drew,fun _ _=>rfl,fun j d _ hl=>(by rw [getD_replicate_false] at hl;cases hl)⟩
 rw [show n+(l.toArray.size - n)=l.toArray.size by omega] at this
 exact this
def slotFacts (ops:Array Oper) (n:Nat) (a0:Act) (R:Nat->Value->World->Prop) (x:Nat->Value) (w:World):List Tmp->Prop
 | []=>True
 | t :: l=>slotFact ops n a0 R x w t/\slotFacts ops n a0 R x w l
theorem slotFacts_of {x:Nat->Value} {w:World}:∀ l:List Tmp,(∀ t ∈ l,slotFact ops n a0 R x w t)->slotFacts ops n a0 R x w l
 | [],_=>trivial
 | t :: l,h=>⟨h t (by simp),slotFacts_of l fun s hs=>h s (by simp [hs])⟩
def nthR (Rs:List (Value->World->Prop)) (i:Nat):Value->World->Prop:=Rs.getD i fun _ _=>True
def stepsAll (P:Program) (ops:Array Oper) (n:Nat) (a0:Act) (w0:World) (R:Nat->Value->World->Prop):List Oper->List (Value->World->Prop)->Prop
 | o :: l,r :: rs=>(∀ (x:Nat->Value) (w:World),Ext w0 w->slotFacts ops n a0 R x w (o.looksAt ops)->wpList P ops (stepQ (InvAct a0.tmps.size a0.defers x) o.dst r w) [o] (InvAct a0.tmps.size a0.defers x) w)/\stepsAll P ops n a0 w0 R l rs
 | [],[]=>True
 | _,_=>False
theorem stepsAll_at:∀ (l:List Oper) (rs:List (Value->World->Prop)),stepsAll P ops n a0 w0 R l rs->∀ i o,l[i]? = some o->∀ (x:Nat->Value) (w:World),Ext w0 w->(∀ t ∈ o.looksAt ops,slotFact ops n a0 R x w t) ->
  wpList P ops (stepQ (InvAct a0.tmps.size a0.defers x) o.dst (nthR rs i) w) [o] (InvAct a0.tmps.size a0.defers x) w
 | [],_,_,i,o,ho,_,_,_,_=>by simp at ho
 | p :: l,[],h,_,_,_,_,_,_,_=>h.elim
 | p :: l,r :: rs,h,0,o,ho,x,w,he,hf=>by
  obtain rfl:p=o:=by simpa using ho
  exact h.1 x w he (slotFacts_of _ hf)
 | p :: l,r :: rs,h,i+1,o,ho,x,w,he,hf=>by
  have:=stepsAll_at l rs h.2 i o (by simpa using ho) x w he hf
  simpa [nthR] using this
theorem stepQ_ok {A:Act} {dst:Option Tmp} {r:Value->World->Prop} {w w':World} {v:Value} (hv:r v w') (hx:Ext w w'):stepQ A dst r w .normal (A.put dst v) w':=⟨v,rfl,hv,hx⟩
@[go_sem] theorem invAct_getD (N:Nat) (ds:List Deferred) (x:Nat->Value) (t:Nat) (u:Value) (h:t < N):(InvAct N ds x).tmps.getD t u=x t:=by simp [InvAct,h]
@[go_sem] theorem invAct_get? (N:Nat) (ds:List Deferred) (x:Nat->Value) (t:Nat) (h:t < N):(InvAct N ds x).tmps[t]? = some (x t):=by simp [InvAct,h]
@[go_sem] theorem invAct_eval (N:Nat) (ds:List Deferred) (x:Nat->Value) (t:Nat) (h:t < N):(InvAct N ds x).eval (.tmp t)=x t:=by simp [InvAct,h,Act.eval]
def putAll (a:Act) (x:Nat->Value):List Nat->Act
 | []=>a
 | d :: ds=>putAll (a.put (some d) (x d)) x ds
theorem putAll_size (x:Nat->Value):∀ (ds:List Nat) (a:Act),(putAll a x ds).tmps.size=a.tmps.size/\(putAll a x ds).defers=a.defers
 | [],a=>⟨rfl,rfl⟩
 | d :: ds,a=>by
  obtain⟨h1,h2⟩:=putAll_size x ds (a.put (some d) (x d))
  exact⟨h1.trans (putA_size _ _ _),h2.trans (putA_defers _ _ _)⟩
theorem putAll_eval (x:Nat->Value):∀ (ds:List Nat) (a:Act) (t:Nat),t < a.tmps.size->(putAll a x ds).eval (.tmp t)=if t ∈ ds then x t else a.eval (.tmp t)
 | [],a,t,_=>by simp [putAll]
 | d :: ds,a,t,ht=>by
  have:=putAll_eval x ds (a.put (some d) (x d)) t (by rw [putA_size];exact ht)
  unfold putAll
  rw [this]
  by_cases h1:t ∈ ds
  ·simp [h1]
  ·by_cases h2:d=t
   ·subst h2;simp [h1,putA_same _ _ _ ht]
   ·rw [putA_ne _ _ _ _ h2];simp [h1,Ne.symm h2]
theorem invAct_putAll {l:List Oper} {x:Nat->Value} (hx:∀ t,dstIdx l.toArray n t=none->x t=a0.eval (.tmp t)):InvAct a0.tmps.size a0.defers x=putAll a0 x ((l.take n).filterMap (·.dst)):=by
 obtain⟨h1,h2⟩:=putAll_size x ((l.take n).filterMap (·.dst)) a0
 rw [invAct_eq (putAll a0 x ((l.take n).filterMap (·.dst))),h1,h2]
 unfold InvAct
 congr 2
 apply List.map_congr_left
 intro t ht
 rw [putAll_eval _ _ _ _ (List.mem_range.1 ht)]
 split
 ·rfl
 ·rename_i hm
  refine hx t ?_
  unfold dstIdx
  rw [List.find?_eq_none]
  intro j hj hd
  refine hm ?_
  have hj':=List.mem_range.1 hj
  simp only [beq_iff_eq,Option.bind_eq_some_iff] at hd
  obtain⟨o,ho,hd⟩:=hd
  rw [List.mem_filterMap]
  refine ⟨o,?_,hd⟩
  have:(l.take n)[j]? = some o:=by rw [List.getElem?_take_of_lt hj'];simpa using ho
  exact List.mem_of_getElem? this
theorem wp_region_facts {id:Nat} {l:List Oper} (Rs:List (Value->World->Prop)) (hm:P.follows .mixedOrders=true) (hB:headB l.toArray Rs.length a0.tmps.size=true)
  (hR:∀ r ∈ Rs,∀ v w w',r v w->Ext w w'->r v w')
  (hstep:stepsAll P l.toArray Rs.length a0 w0 (nthR Rs) (l.take Rs.length) Rs)
  (hend:∀ (x:Nat->Value) (w:World),Ext w0 w->slotFacts l.toArray Rs.length a0 (nthR Rs) x w ((l.take Rs.length).filterMap (·.dst))->wpList P l.toArray Q (l.drop Rs.length) (putAll a0 x ((l.take Rs.length).filterMap (·.dst))) w) :
  (Code.region id l.toArray true).wp P Q a0 w0 :=
 wp_region_inv Rs.length (nthR Rs) hm hB (fun i v w w' h he=>by
  unfold nthR at h ⊢
  by_cases hi:i < Rs.length
  ·rw [List.getD_eq_getElem?_getD,List.getElem?_eq_getElem hi] at h ⊢
   exact hR _ (List.getElem_mem hi) v w w' h he
  ·rw [List.getD_eq_getElem?_getD,List.getElem?_eq_none (by omega)] at h ⊢
   trivial) (fun i o hi ho=>stepsAll_at _ _ hstep i o (by rw [List.getElem?_take_of_lt hi];exact ho)) (fun x w he h=>by
  rw [invAct_putAll (fun t ht=>by have:=h t;unfold slotFact at this;rw [ht] at this;exact this)]
  exact hend x w he (slotFacts_of _ fun t _=>h t))
end
section
variable {P:Program} {ops:Array Oper} {Q:Exit->Act->World->Prop}
def preB (ops:Array Oper) (q:Nat) (pre:List Nat):Bool:=pre.all fun i=>Region.waitsFor .any ops q i || pre.any fun j=>decide (i < j) && Region.waitsFor .any ops j i
def headOp2 (ops:Array Oper) (n N q i:Nat) (o:Oper):Bool :=
 o.guard.isNone && (o.after.toList.all fun e=>!Region.binds .any e || decide (e.on < i)) && (match o.dst with | none=>decide (i=q) | some d=>decide (d < N) && (dstIdx ops n d == some i)) &&
  ((o.looksAt ops).all fun t=>match dstIdx ops n t with | none=>true | some j=>Region.waitsFor .any ops i j)
def headB2 (ops:Array Oper) (n N q:Nat) (pre:List Nat):Bool :=
 decide (n < ops.size) && Region.sinkB .any ops n && Region.chainB .any ops n && ((List.range n).all fun i=>match ops[i]? with | none=>false | some o=>headOp2 ops n N q i o) &&
  Region.seqB .any ops (ops.size - n) n (canonL n ops.size) && decide (q < n) && preB ops q pre
def stepQ2 (A:Act) (dst:Option Tmp) (R:Value->World->Prop) (M:World->Prop):Exit->Act->World->Prop
 | .normal,a',w'=>∃ v,a'=A.put dst v/\R v w'/\M w'
 | _,_,_=>False
theorem stepQ2_ok {A:Act} {dst:Option Tmp} {r:Value->World->Prop} {M:World->Prop} {w':World} {v:Value} (hv:r v w') (hx:M w'):stepQ2 A dst r M .normal (A.put dst v) w':=⟨v,rfl,hv,hx⟩
structure RInv2 (ops:Array Oper) (n q:Nat) (a0:Act) (J0 J1:World->Prop) (R:Nat->Value->World->Prop) (listed:Array Bool) (a:Act) (w:World):Prop where
 size:a.tmps.size=a0.tmps.size
 defers:a.defers=a0.defers
 jn:if listed.getD q false=true then J1 w else J0 w
 old:∀ t,dstIdx ops n t=none->a.eval (.tmp t)=a0.eval (.tmp t)
 got:∀ i d,dstIdx ops n d=some i->listed.getD i false=true->R i (a.eval (.tmp d)) w
variable {n N q:Nat} {a0:Act} {J0 J1:World->Prop} {R:Nat->Value->World->Prop} {Mv:World->World->Prop} {pre:List Nat}
theorem headB2_spec (h:headB2 ops n N q pre=true):n < ops.size/\Region.sinkB .any ops n=true/\Region.chainB .any ops n=true/\(∀ i o,i < n->ops[i]? = some o->headOp2 ops n N q i o=true)/\Region.seqB .any ops (ops.size - n) n (canonL n ops.size)=true/\q < n/\preB ops q pre=true:=by
 simp only [headB2,Bool.and_eq_true,decide_eq_true_eq,List.all_eq_true,List.mem_range] at h
 obtain⟨⟨⟨⟨⟨⟨h1,h2⟩,h3⟩,h4⟩,h5⟩,h6⟩,h7⟩:=h
 exact⟨h1,h2,h3,fun i o hi ho=>by have:=h4 i hi;rw [ho] at this;exact this,h5,h6,h7⟩
theorem headOp2_spec {i:Nat} {o:Oper} (h:headOp2 ops n N q i o=true):o.guard=none/\(∀ e ∈ o.after,Region.binds .any e=true->e.on < i)/\((o.dst=none/\i=q) ∨ ∃ d,o.dst=some d/\d < N/\dstIdx ops n d=some i) /\
  (∀ t ∈ o.looksAt ops,∀ j,dstIdx ops n t=some j->Region.waitsFor .any ops i j=true):=by
 simp only [headOp2,Bool.and_eq_true,List.all_eq_true,Option.isNone_iff_eq_none] at h
 obtain⟨⟨⟨h1,h2⟩,h3⟩,h4⟩:=h
 refine ⟨h1,fun e he hb=>?_,?_,fun t ht j hj=>?_⟩
 ·have:=h2 e (by simpa using he)
  simpa [hb] using this
 ·cases hd:o.dst with
  | none=>rw [hd] at h3;exact .inl ⟨rfl,by simpa using h3⟩
  | some d=>rw [hd] at h3;simp at h3;exact .inr ⟨d,rfl,h3⟩
 ·have:=h4 t ht
  rw [hj] at this
  exact this
theorem pre_listed (hp:preB ops q pre=true) {listed:Array Bool} (inv:HeadInv .any ops n listed) (hq:listed.getD q false=true):∀ (k i:Nat),pre.foldr max 0 - i=k->i ∈ pre->listed.getD i false=true:=by
 intro k
 induction k using Nat.strongRecOn with
 | _ k ih =>
  intro i hk hi
  have h:=List.all_eq_true.1 hp i hi
  simp only [Bool.or_eq_true] at h
  have step:∀ j,listed.getD j false=true->Region.waitsFor .any ops j i=true->listed.getD i false=true:=fun j hj hw=>by
   obtain⟨oj,hoj,e,he,hb,hon⟩:=Region.waitsFor_spec hw
   have:=inv.closed j oj hoj hj e he hb
   rw [hon] at this
   exact this
  rcases h with h | h
  ·exact step q hq h
  ·obtain⟨j,hj,hw⟩:=List.any_eq_true.1 h
   simp only [Bool.and_eq_true,decide_eq_true_eq] at hw
   have hmax:j<=pre.foldr max 0:=by
    clear hp hi h ih hk
    induction pre with
    | nil=>cases hj
    | cons a l ih =>
     simp only [List.foldr_cons]
     rcases List.mem_cons.1 hj with rfl | hj
     ·exact Nat.le_max_left _ _
     ·exact Nat.le_trans (ih hj) (Nat.le_max_right _ _)
   exact step j (ih _ (by omega) j rfl hj) hw.2
theorem least_ready2 (hB:headB2 ops n N q pre=true) {listed:Array Bool} (inv:HeadInv .any ops n listed):∀ i,i < n->listed.getD i false=false->∃ j,j < n/\j ∈ Region.ready .any ops listed:=by
 obtain⟨h1,h2,h3,h4,h5,-,-⟩:=headB2_spec hB
 intro i
 induction i using Nat.strongRecOn with
 | _ i ih =>
  intro hi hl
  have hio:i < ops.size:=by omega
  have hoi:ops[i]? = some ops[i]:=by simp [hio]
  obtain⟨g1,g2,g3,g4⟩:=headOp2_spec (h4 i _ hi hoi)
  by_cases hall:∀ e ∈ (ops[i]).after,Region.binds .any e=true->listed.getD e.on false=true
  ·refine ⟨i,hi,mem_ready.2 ⟨?_,_,hoi,hall⟩⟩
   exact getD_in (by rw [inv.size];omega) hl
  ·simp only [Classical.not_forall] at hall
   obtain⟨e,he,hb,hne⟩:=hall
   have:=g2 e he hb
   exact ih e.on this (by omega) (by simpa using hne)
inductive HF where
 |early (r:Value->World->Prop)
 |late (r:Value->World->Prop)
 |store
 |move (r:Value->World->Prop)
def HF.fact:HF->Value->World->Prop
 | .early r=>r
 | .late r=>r
 | .store=>fun _ _=>True
 | .move r=>r
def HF.isEarly:HF->Bool
 | .early _=>true
 | _=>false
def HF.isStore:HF->Bool
 | .store=>true
 | .move _=>true
 | _=>false
def preOf (Fs:List HF):List Nat:=(List.range Fs.length).filter fun i=>(Fs[i]?.map HF.isEarly).getD false
def nthF (Fs:List HF) (i:Nat):Value->World->Prop:=((Fs[i]?).map HF.fact).getD fun _ _=>True
def storeB (Fs:List HF) (q:Nat):Bool:=(List.range Fs.length).all fun i=>(Fs[i]?.map HF.isStore).getD false == decide (i=q)
def stepsAll2 (P:Program) (ops:Array Oper) (n:Nat) (a0:Act) (J0 J1:World->Prop) (Mv:World->World->Prop) (R:Nat->Value->World->Prop):List Oper->List HF->Prop
 | o :: l,.early r :: rs=>(∀ (x:Nat->Value) (w:World),J0 w->slotFacts ops n a0 R x w (o.looksAt ops)->wpList P ops (stepQ2 (InvAct a0.tmps.size a0.defers x) o.dst r (fun w'=>J0 w'/\Mv w w')) [o] (InvAct a0.tmps.size a0.defers x) w)/\stepsAll2 P ops n a0 J0 J1 Mv R l rs
 | o :: l,.late r :: rs=>(∀ (x:Nat->Value) (w:World) (b:Bool),(if b=true then J1 w else J0 w)->slotFacts ops n a0 R x w (o.looksAt ops)->wpList P ops (stepQ2 (InvAct a0.tmps.size a0.defers x) o.dst r (fun w'=>(if b=true then J1 w' else J0 w')/\Mv w w')) [o] (InvAct a0.tmps.size a0.defers x) w)/\stepsAll2 P ops n a0 J0 J1 Mv R l rs
 | o :: l,.store :: rs=>(∀ (x:Nat->Value) (w:World),J0 w->slotFacts ops n a0 R x w (o.looksAt ops)->wpList P ops (stepQ2 (InvAct a0.tmps.size a0.defers x) o.dst (fun _ _=>True) (fun w'=>J1 w'/\Mv w w')) [o] (InvAct a0.tmps.size a0.defers x) w)/\stepsAll2 P ops n a0 J0 J1 Mv R l rs
 | o :: l,.move r :: rs=>(∀ (x:Nat->Value) (w:World),J0 w->slotFacts ops n a0 R x w (o.looksAt ops)->wpList P ops (stepQ2 (InvAct a0.tmps.size a0.defers x) o.dst r (fun w'=>J1 w'/\Mv w w')) [o] (InvAct a0.tmps.size a0.defers x) w)/\stepsAll2 P ops n a0 J0 J1 Mv R l rs
 | [],[]=>True
 | _,_=>False
end
section
variable {P:Program} {ops:Array Oper} {Q:Exit->Act->World->Prop}
variable {n N q:Nat} {a0:Act} {J0 J1:World->Prop} {R:Nat->Value->World->Prop} {Mn Mq:World->World->Prop} {pre:List Nat}
theorem wpAny_inv3 (hB:headB2 ops n a0.tmps.size q pre=true) (hR:∀ i v w w',R i v w->Mn w w'->R i v w') (hRq:∀ i v w w',i ≠ q->R i v w->Mq w w'->R i v w')
  (hstep:∀ i o,i < n->i ≠ q->ops[i]? = some o->∀ (x:Nat->Value) (w:World) (b:Bool),(b=true->i ∉ pre)->(if b=true then J1 w else J0 w)->(∀ t ∈ o.looksAt ops,slotFact ops n a0 R x w t) ->
   wpList P ops (stepQ2 (InvAct a0.tmps.size a0.defers x) o.dst (R i) (fun w'=>(if b=true then J1 w' else J0 w')/\Mn w w')) [o] (InvAct a0.tmps.size a0.defers x) w)
  (hq:∀ o,ops[q]? = some o->∀ (x:Nat->Value) (w:World),J0 w->(∀ t ∈ o.looksAt ops,slotFact ops n a0 R x w t) ->
   wpList P ops (stepQ2 (InvAct a0.tmps.size a0.defers x) o.dst (R q) (fun w'=>J1 w'/\Mq w w')) [o] (InvAct a0.tmps.size a0.defers x) w)
  (hend:∀ (x:Nat->Value) (w:World),J1 w->(∀ t,slotFact ops n a0 R x w t)->wpList P ops Q (ops.toList.drop n) (InvAct a0.tmps.size a0.defers x) w) :
  ∀ (k:Nat) (listed:Array Bool) (a:Act) (w:World),HeadInv .any ops n listed->cntU n listed=k->RInv2 ops n q a0 J0 J1 R listed a w->wpAny P .any ops Q (k+(ops.size - n)) listed a w:=by
 obtain⟨h1,h2,h3,h4,h5,hqn,hpre⟩:=headB2_spec hB
 intro k
 induction k with
 | zero =>
  intro listed a w inv hc ri
  have hall:∀ i,i < n->listed.getD i false=true:=fun i hi=>by
   have:=List.countP_eq_zero.1 hc i (List.mem_range.2 hi)
   simpa using this
  have hcan:listed=canonL n ops.size:=by
   apply Array.ext_getElem?
   intro i
   by_cases hi:i < ops.size
   ·have hil:i < listed.size:=by rw [inv.size];exact hi
    by_cases hin:i < n
    ·have:=hall i hin
     simp [hil] at this
     simp [canonL,hi,hin,hil,this]
    ·have:=inv.tail i (by omega) hi
     simp [hil] at this
     simp [canonL,hi,hin,hil,this]
   ·have hil:¬ i < listed.size:=by rw [inv.size];exact hi
    simp [canonL,hi,hil]
  have hlen:(ops.toList.drop n).length=ops.size - n:=by simp
  have ha:=invAct_eq a
  rw [ri.size,ri.defers] at ha
  have hj:=ri.jn
  rw [if_pos (hall q hqn)] at hj
  have hw:wpList P ops Q (ops.toList.drop n) a w:=by
   rw [ha]
   refine hend _ w hj fun t=>?_
   unfold slotFact
   split
   ·rename_i hd;exact ri.old t hd
   ·rename_i j hd;exact ri.got j t hd (hall j (dstIdx_some hd).1)
  have:=wpAny_of_seq (md:=.any) (Q':=Q) (ops.toList.drop n) n listed a w (fun j=>by simp [List.getElem?_drop]) (by rw [hlen,hcan];exact h5) hw
  rw [hlen] at this
  rw [Nat.zero_add]
  exact this
 | succ k ih =>
  intro listed a w inv hc ri
  have hex:∃ i,i < n/\listed.getD i false=false:=by
   have:0 < cntU n listed:=by omega
   obtain⟨i,hi,hl⟩:=List.countP_pos_iff.1 this
   exact⟨i,List.mem_range.1 hi,by simpa using hl⟩
  obtain⟨i0,hi0,hl0⟩:=hex
  obtain⟨jr,hjr,hjr2⟩:=least_ready2 hB inv i0 hi0 hl0
  rw [show k+1+(ops.size - n)=(k+(ops.size - n))+1 by omega]
  refine ⟨(fun h0=>(by rw [h0] at hjr2;cases hjr2)),fun i hi=>?_⟩
  have hin:i < n:=by
   rcases Nat.lt_or_ge i n with h | h
   ·exact h
   ·exact absurd hi (tail_waits h2 h3 h1 inv _ i0 rfl hi0 (getD_in (by rw [inv.size];omega) hl0) i h)
  obtain⟨hun,o,ho,hdeps⟩:=mem_ready.1 hi
  obtain⟨g1,g2,g3,g4⟩:=headOp2_spec (h4 i o hin ho)
  have ha:=invAct_eq a
  rw [ri.size,ri.defers] at ha
  have hfacts:∀ t ∈ o.looksAt ops,slotFact ops n a0 R (fun t=>a.eval (.tmp t)) w t:=fun t ht=>by
   unfold slotFact
   split
   ·rename_i hd;exact ri.old t hd
   ·rename_i j hd
    refine ri.got j t hd ?_
    obtain⟨o',ho',e,he,hb,hon⟩:=Region.waitsFor_spec (g4 t ht j hd)
    have:o'=o:=Option.some.inj (ho'.symm.trans ho)
    subst this
    rw [<- hon]
    exact hdeps e he hb
  have hcnt:cntU n (listed.setIfInBounds i true)=k:=by
   have:=countP_one (fun j=>!listed.getD j false) (fun j=>!(listed.setIfInBounds i true).getD j false) i (by simpa using getD_both hun) (by
    have hlt:i < listed.size:=by rw [inv.size];omega
    simp [hlt]) (fun j hj=>by simp only [getD_set_ne false (Ne.symm hj)]) n hin
   unfold cntU at hc ⊢
   omega
  have hself:(listed.setIfInBounds i true).getD i false=true:=by
   have hlt:i < listed.size:=by rw [inv.size];omega
   simp [hlt]
  rcases g3 with ⟨gd,rfl⟩ | ⟨d,g3,g3',g3''⟩
  ·have hj:=ri.jn
   rw [getD_both hun,if_neg (by simp)] at hj
   have hs:=hq o ho (fun t=>a.eval (.tmp t)) w hj hfacts
   rw [<- ha] at hs
   refine wpOp_of_list ho (fun e a w he h=>by cases e <;> first | exact absurd rfl he | exact h) (fun a' w' h=>?_) hs
   obtain⟨v,rfl,-,hj1,hx⟩:=h
   rw [gd]
   refine ih _ _ _ (inv.set hi hin) hcnt ⟨ri.size,ri.defers,by rw [if_pos hself];exact hj1,ri.old,fun j t ht hl=>?_⟩
   have hji:i ≠ j:=fun e=>by
    subst e
    have:=(dstIdx_some ht).2
    rw [ho] at this
    simp [gd] at this
   rw [getD_set_ne false hji] at hl
   exact hRq _ _ _ _ (Ne.symm hji) (ri.got j t ht hl) hx
  ·obtain⟨M,hM,hs⟩:∃ M:World->Prop,(∀ w',M w'->(if (listed.setIfInBounds i true).getD q false=true then J1 w' else J0 w')/\(i ≠ q->Mn w w')/\(i=q->Mq w w')) /\
     wpList P ops (stepQ2 (InvAct a0.tmps.size a0.defers (fun t=>a.eval (.tmp t))) o.dst (R i) M) [o] (InvAct a0.tmps.size a0.defers (fun t=>a.eval (.tmp t))) w:=by
    by_cases giq:i=q
    ·subst giq
     have hj:=ri.jn
     rw [getD_both hun,if_neg (by simp)] at hj
     simp only [hself,if_true]
     exact⟨_,fun w' h=>⟨h.1,fun h2=>absurd rfl h2,fun _=>h.2⟩,hq o ho (fun t=>a.eval (.tmp t)) w hj hfacts⟩
    ·simp only [getD_set_ne false giq]
     exact⟨_,fun w' h=>⟨h.1,fun _=>h.2,fun h2=>absurd h2 giq⟩,hstep i o hin giq ho (fun t=>a.eval (.tmp t)) w (listed.getD q false) (fun hb hip=>by
      have:=pre_listed hpre inv hb _ i rfl hip
      rw [getD_both hun] at this
      cases this) ri.jn hfacts⟩
   rw [<- ha] at hs
   refine wpOp_of_list ho (fun e a w he h=>by cases e <;> first | exact absurd rfl he | exact h) (fun a' w' h=>?_) hs
   obtain⟨v,rfl,hv,hm⟩:=h
   obtain⟨hj1,hxn,hxq⟩:=hM _ hm
   rw [g3]
   have hsz:d < a.tmps.size:=by rw [ri.size];exact g3'
   refine ih _ _ _ (inv.set hi hin) hcnt ⟨by rw [putA_size];exact ri.size,by rw [putA_defers];exact ri.defers,hj1,fun t ht=>?_,fun j t ht hl=>?_⟩
   ·rw [putA_ne _ _ _ _ (fun e=>by subst e;rw [ht] at g3'';cases g3'')]
    exact ri.old t ht
   ·by_cases hdt:d=t
    ·subst hdt
     obtain rfl:j=i:=Option.some.inj (ht.symm.trans g3'')
     rw [putA_same _ _ _ hsz]
     exact hv
    ·rw [putA_ne _ _ _ _ hdt]
     have hji:i ≠ j:=fun e=>by
      subst e
      have:=(dstIdx_some ht).2
      rw [ho] at this
      exact hdt (Option.some.inj (g3.symm.trans this))
     rw [getD_set_ne false hji] at hl
     by_cases giq:i=q
     ·exact hRq _ _ _ _ (fun e=>hji (giq.trans e.symm)) (ri.got j t ht hl) (hxq giq)
     ·exact hR _ _ _ _ (ri.got j t ht hl) (hxn giq)
def stepsAll3 (P:Program) (ops:Array Oper) (n:Nat) (a0:Act) (J0 J1:World->Prop) (Mn Mq:World->World->Prop) (R:Nat->Value->World->Prop):List Oper->List HF->Prop
 | o :: l,.early r :: rs=>(∀ (x:Nat->Value) (w:World),J0 w->slotFacts ops n a0 R x w (o.looksAt ops)->wpList P ops (stepQ2 (InvAct a0.tmps.size a0.defers x) o.dst r (fun w'=>J0 w'/\Mn w w')) [o] (InvAct a0.tmps.size a0.defers x) w)/\stepsAll3 P ops n a0 J0 J1 Mn Mq R l rs
 | o :: l,.late r :: rs=>(∀ (x:Nat->Value) (w:World) (b:Bool),(if b=true then J1 w else J0 w)->slotFacts ops n a0 R x w (o.looksAt ops)->wpList P ops (stepQ2 (InvAct a0.tmps.size a0.defers x) o.dst r (fun w'=>(if b=true then J1 w' else J0 w')/\Mn w w')) [o] (InvAct a0.tmps.size a0.defers x) w)/\stepsAll3 P ops n a0 J0 J1 Mn Mq R l rs
 | o :: l,.store :: rs=>(∀ (x:Nat->Value) (w:World),J0 w->slotFacts ops n a0 R x w (o.looksAt ops)->wpList P ops (stepQ2 (InvAct a0.tmps.size a0.defers x) o.dst (fun _ _=>True) (fun w'=>J1 w'/\Mq w w')) [o] (InvAct a0.tmps.size a0.defers x) w)/\stepsAll3 P ops n a0 J0 J1 Mn Mq R l rs
 | o :: l,.move r :: rs=>(∀ (x:Nat->Value) (w:World),J0 w->slotFacts ops n a0 R x w (o.looksAt ops)->wpList P ops (stepQ2 (InvAct a0.tmps.size a0.defers x) o.dst r (fun w'=>J1 w'/\Mq w w')) [o] (InvAct a0.tmps.size a0.defers x) w)/\stepsAll3 P ops n a0 J0 J1 Mn Mq R l rs
 | [],[]=>True
 | _,_=>False
def stepAt3 (P:Program) (ops:Array Oper) (n:Nat) (a0:Act) (J0 J1:World->Prop) (Mn Mq:World->World->Prop) (R:Nat->Value->World->Prop) (o:Oper):HF->Prop
 | .early r=>∀ (x:Nat->Value) (w:World),J0 w->slotFacts ops n a0 R x w (o.looksAt ops)->wpList P ops (stepQ2 (InvAct a0.tmps.size a0.defers x) o.dst r (fun w'=>J0 w'/\Mn w w')) [o] (InvAct a0.tmps.size a0.defers x) w
 | .late r=>∀ (x:Nat->Value) (w:World) (b:Bool),(if b=true then J1 w else J0 w)->slotFacts ops n a0 R x w (o.looksAt ops)->wpList P ops (stepQ2 (InvAct a0.tmps.size a0.defers x) o.dst r (fun w'=>(if b=true then J1 w' else J0 w')/\Mn w w')) [o] (InvAct a0.tmps.size a0.defers x) w
 | .store=>∀ (x:Nat->Value) (w:World),J0 w->slotFacts ops n a0 R x w (o.looksAt ops)->wpList P ops (stepQ2 (InvAct a0.tmps.size a0.defers x) o.dst (fun _ _=>True) (fun w'=>J1 w'/\Mq w w')) [o] (InvAct a0.tmps.size a0.defers x) w
 | .move r=>∀ (x:Nat->Value) (w:World),J0 w->slotFacts ops n a0 R x w (o.looksAt ops)->wpList P ops (stepQ2 (InvAct a0.tmps.size a0.defers x) o.dst r (fun w'=>J1 w'/\Mq w w')) [o] (InvAct a0.tmps.size a0.defers x) w
theorem stepsAll3_at:∀ (l:List Oper) (rs:List HF),stepsAll3 P ops n a0 J0 J1 Mn Mq R l rs->∀ (i:Nat) (o:Oper),l[i]? = some o->∃ f,rs[i]? = some f/\stepAt3 P ops n a0 J0 J1 Mn Mq R o f
 | [],_,_,i,o,ho=>by simp at ho
 | p :: l,[],h,_,_,_=>h.elim
 | p :: l,r :: rs,h,0,o,ho=>by
  obtain rfl:p=o:=by simpa using ho
  refine ⟨r,rfl,?_⟩
  cases r <;> exact h.1
 | p :: l,r :: rs,h,i+1,o,ho=>by
  have h2:stepsAll3 P ops n a0 J0 J1 Mn Mq R l rs:=by cases r <;> exact h.2
  obtain⟨f,hf,hs⟩:=stepsAll3_at l rs h2 i o (by simpa using ho)
  exact⟨f,by simpa using hf,hs⟩
theorem wp_region_facts3 {id:Nat} {w0:World} {l:List Oper} (Fs:List HF) (q:Nat) (J0 J1:World->Prop) (Mn Mq:World->World->Prop) (hm:P.follows .mixedOrders=true) (hB:headB2 l.toArray Fs.length a0.tmps.size q (preOf Fs)=true) (hst:storeB Fs q=true)
  (hR:∀ f ∈ Fs,∀ v w w',f.fact v w->Mn w w'->f.fact v w') (hRq:∀ f ∈ Fs,f.isStore=false->∀ v w w',f.fact v w->Mq w w'->f.fact v w') (hJ:J0 w0.drew)
  (hstep:stepsAll3 P l.toArray Fs.length a0 J0 J1 Mn Mq (nthF Fs) (l.take Fs.length) Fs)
  (hend:∀ (x:Nat->Value) (w:World),J1 w->slotFacts l.toArray Fs.length a0 (nthF Fs) x w ((l.take Fs.length).filterMap (·.dst))->wpList P l.toArray Q (l.drop Fs.length) (putAll a0 x ((l.take Fs.length).filterMap (·.dst))) w) :
  (Code.region id l.toArray true).wp P Q a0 w0:=by
 refine wp_region_any hm ?_
 obtain⟨h1,-,-,-,-,hqn,-⟩:=headB2_spec hB
 have hrep:cntU Fs.length (Array.replicate l.toArray.size false)=Fs.length:=by
  unfold cntU
  rw [List.countP_eq_length.2 (fun i _=>by rw [getD_replicate_false];rfl)]
  exact List.length_range
 have hat:∀ i o,i < Fs.length->l[i]? = some o->∃ f,Fs[i]? = some f/\stepAt3 P l.toArray Fs.length a0 J0 J1 Mn Mq (nthF Fs) o f:=fun i o hi ho =>
  stepsAll3_at _ _ hstep i o (by rw [List.getElem?_take_of_lt hi];exact ho)
 have hstore:∀ i f,Fs[i]? = some f->(f.isStore=true↔i=q):=fun i f hf=>by
  have hi:=(List.getElem?_eq_some_iff.1 hf).1
  have:=List.all_eq_true.1 hst i (List.mem_range.2 hi)
  rw [hf] at this
  simp only [Option.map_some,Option.getD_some,beq_iff_eq] at this
  rw [this]
  simp
 have:=wpAny_inv3 (P:=P) (Q:=Q) (J0:=J0) (J1:=J1) (Mn:=Mn) (Mq:=Mq) (R:=nthF Fs) hB (fun i v w w' h he=>by
   unfold nthF at h ⊢
   cases hf:Fs[i]? with
   | none=>simp
   | some f =>
    rw [hf] at h
    exact hR f (List.mem_of_getElem? hf) v w w' h he)
  (fun i v w w' hiq h he=>by
   unfold nthF at h ⊢
   cases hf:Fs[i]? with
   | none=>simp
   | some f =>
    rw [hf] at h
    refine hRq f (List.mem_of_getElem? hf) ?_ v w w' h he
    cases hs:f.isStore with
    | false=>rfl
    | true=>exact absurd ((hstore i f hf).1 hs) hiq)
  (fun i o hi hiq ho x w b hb hj hfacts=>by
   obtain⟨f,hf,hs⟩:=hat i o hi (by simpa using ho)
   have hr:nthF Fs i=f.fact:=by unfold nthF;rw [hf];rfl
   rw [hr]
   cases f with
   | early r =>
    have hb':b=false:=by
     cases b with
     | false=>rfl
     | true =>
      refine absurd ?_ (hb rfl)
      unfold preOf
      rw [List.mem_filter]
      exact⟨List.mem_range.2 hi,by rw [hf];rfl⟩
    subst hb'
    exact hs x w hj (slotFacts_of _ hfacts)
   | late r=>exact hs x w b hj (slotFacts_of _ hfacts)
   | store=>exact absurd ((hstore i _ hf).1 rfl) hiq
   | move r=>exact absurd ((hstore i _ hf).1 rfl) hiq)
  (fun o ho x w hj hfacts=>by
   obtain⟨f,hf,hs⟩:=hat q o hqn (by simpa using ho)
   have:=(hstore q f hf).2 rfl
   have hr:nthF Fs q=f.fact:=by unfold nthF;rw [hf];rfl
   rw [hr]
   cases f with
   | early r=>cases this
   | late r=>cases this
   | store=>exact hs x w hj (slotFacts_of _ hfacts)
   | move r=>exact hs x w hj (slotFacts_of _ hfacts))
  (fun x w hj h=>by
   rw [show l.toArray.toList=l by simp,invAct_putAll (fun t ht=>by have:=h t;unfold slotFact at this;rw [ht] at this;exact this)]
   exact hend x w hj (slotFacts_of _ fun t _=>h t))
  Fs.length (Array.replicate l.toArray.size false) a0 { w0 with drawn:=w0.drawn+1 }
  ⟨by simp,fun j oj _ hl=>(by rw [getD_replicate_false] at hl;cases hl),fun t _ ht=>getD_in (by simpa using ht) (getD_replicate_false _ _)⟩ hrep
  ⟨rfl,rfl,by rw [getD_replicate_false];exact hJ,fun _ _=>rfl,fun j d _ hl=>(by rw [getD_replicate_false] at hl;cases hl)⟩
 rw [show Fs.length+(l.toArray.size - Fs.length)=l.toArray.size by omega] at this
 exact this
end
end
section
open Go Go.RowKit
section
variable {P:Program} {ops:Array Oper} {Q:Exit->Act->World->Prop}
def QN (K:Act->World->Prop):Exit->Act->World->Prop
 | .normal,a,w=>K a w
 | _,_,_=>False
theorem QN_not {K:Act->World->Prop}:∀ e a w,e ≠ .normal->QN K e a w->False:=fun e a w h=>by cases e <;> simp [QN] at h ⊢
theorem canonL_set {k m:Nat}:(canonL k m).setIfInBounds k true=canonL (k+1) m:=by
 apply Array.ext_getElem?
 intro i
 by_cases hi:i < m
 ·by_cases hk:k=i
  ·subst hk;simp [canonL,hi]
  ·simp [canonL,hi,Array.getElem?_setIfInBounds,hk];omega
 ·simp [canonL,hi,Array.getElem?_setIfInBounds]
def forcedB (ops:Array Oper):Nat->Nat->Bool
 | 0,_=>true
 | c+1,k=>decide (Region.ready .any ops (canonL k ops.size) = [k]) && forcedB ops c (k+1)
theorem wpAny_forced {K:Act->World->Prop} {g:Nat}:∀ (l:List Oper) (k:Nat) (a:Act) (w:World),(∀ j,j < l.length->l[j]? = ops[k+j]?)->forcedB ops l.length k=true ->
  (∀ a w,K a w->wpAny P .any ops Q g (canonL (k+l.length) ops.size) a w)->wpList P ops (QN K) l a w->wpAny P .any ops Q (l.length+g) (canonL k ops.size) a w
 | [],k,a,w,_,_,hK,h=>by
  rw [List.length_nil,Nat.zero_add]
  exact hK a w h
 | o :: l,k,a,w,hl,hB,hK,h=>by
  have h0:ops[k]? = some o:=by simpa using (hl 0 (by simp)).symm
  simp only [List.length_cons,forcedB,Bool.and_eq_true,decide_eq_true_eq] at hB
  rw [List.length_cons,show l.length+1+g=(l.length+g)+1 by omega]
  refine ⟨fun h1=>(by rw [hB.1] at h1;cases h1),fun i hi=>?_⟩
  rw [hB.1] at hi
  have hik:i=k:=by simpa using hi
  subst hik
  have hrec:∀ a w,wpList P ops (QN K) l a w->wpAny P .any ops Q (l.length+g) ((canonL i ops.size).setIfInBounds i true) a w:=fun a w hh=>by
   rw [canonL_set]
   exact wpAny_forced l (i+1) a w (fun j hj=>by have:=hl (j+1) (by simp;omega);simpa [Nat.add_assoc,Nat.add_comm 1 j] using this) hB.2
    (fun a w hk=>by rw [show i+1+l.length=i+(o :: l).length by simp;omega];exact hK a w hk) hh
  unfold wpOp
  rw [h0]
  by_cases hw:Region.wanted o (yielded ops a.tmps)=true
  ·simp only [wpList,hw,if_true] at h ⊢
   rcases h with h | ⟨_,a1,w1,h⟩
   ·exact .inl (wp_mono2 hrec QN_not h)
   ·exact (QN_not _ _ _ (by simp) h).elim
  ·simp only [wpList,if_neg hw] at h ⊢
   exact hrec _ _ h
def hangB (ops:Array Oper) (n:Nat):Bool :=
 (List.range ops.size).all fun t=>decide (t<=n) || (List.range t).any fun j=>decide (n<=j) && Region.waitsFor .any ops t j
theorem tail_waitsC {n:Nat} {listed:Array Bool} (hs:Region.sinkB .any ops n=true) (hc:hangB ops n=true) (hn:n < ops.size) (inv:HeadInv .any ops n listed) :
  ∀ (d i:Nat),n - i=d->i < n->listed.getD i true=false->∀ t,n<=t->t ∉ Region.ready .any ops listed:=by
 intro d
 induction d using Nat.strongRecOn with
 | _ d ih =>
  intro i hd hi hun t ht hr
  obtain⟨_,ot,hot,hall⟩:=mem_ready.1 hr
  have htlt:t < ops.size:=(Array.getElem?_eq_some_iff.1 hot).1
  by_cases htn:t=n
  ·subst htn
   have h1:=List.all_eq_true.1 hs i (List.mem_range.2 hi)
   obtain⟨j,hj,hj2⟩:=List.any_eq_true.1 h1
   simp only [Bool.and_eq_true,decide_eq_true_eq] at hj2
   obtain⟨oj,hoj,e,he,hb,hon⟩:=Region.waitsFor_spec hj2.2
   have hjle:j<=t:=by have:=List.mem_range.1 hj;omega
   by_cases hjt:j=t
   ·subst hjt
    have:oj=ot:=Option.some.inj (hoj.symm.trans hot)
    subst this
    have h2:=hall e he hb
    rw [hon,getD_both hun] at h2
    cases h2
   ·cases hl:listed.getD j false with
    | true =>
     have h2:=inv.closed j oj hoj hl e he hb
     rw [hon,getD_both hun] at h2
     cases h2
    | false =>
     have hjs:j < listed.size:=by rw [inv.size];omega
     exact ih (t - j) (by omega) j rfl (by omega) (getD_in hjs hl) t (Nat.le_refl _) hr
  ·have h1:=List.all_eq_true.1 hc t (List.mem_range.2 htlt)
   simp only [Bool.or_eq_true,decide_eq_true_eq] at h1
   rcases h1 with h1 | h1
   ·omega
   ·obtain⟨j,hj,hj2⟩:=List.any_eq_true.1 h1
    simp only [Bool.and_eq_true,decide_eq_true_eq] at hj2
    have hjt:=List.mem_range.1 hj
    obtain⟨o',ho',e,he,hb,hon⟩:=Region.waitsFor_spec hj2.2
    have:o'=ot:=Option.some.inj (ho'.symm.trans hot)
    subst this
    have h2:=hall e he hb
    rw [hon,getD_both (inv.tail j hj2.1 (by omega))] at h2
    cases h2
theorem wpAnyL_firstC {n i:Nat} {oi:Oper} {v:Value} {w:World} {L:Array Bool->Act->Prop} (hi:ops[i]? = some oi) (hsel:∀ (j:Nat) (o:Oper) cs b,ops[j]? = some o->o.op ≠ .select cs b)
  (hs:Region.sinkB .any ops n=true) (hc:hangB ops n=true) (hn:n < ops.size) (hin:i < n)
  (hdone:∀ listed a,L listed a->∀ j ∈ Region.ready .any ops listed,n<=j) :
  ∀ (f:Nat) (listed:Array Bool) (a:Act),HeadInv .any ops n listed ->
   (∀ j oj,ops[j]? = some oj->j ≠ i->listed.getD j true=false->(∀ e ∈ oj.after,Region.binds .any e=true->e.on ≠ i)->oi.apart ops oj=true) ->
   i ∈ Region.ready .any ops listed->YieldsAt P ops w oi v a ->
   wpAnyL P .any ops w n L f (listed.setIfInBounds i true) (a.put oi.dst v)->wpAnyL P .any ops w n L (f+1) listed a:=by
 intro f
 induction f with
 | zero =>
  intro listed a inv _ hr hy H
  have hun:=(mem_ready.1 hr).1
  refine ⟨fun h=>(by rw [h] at hr;cases hr),fun j hj=>?_⟩
  have hjn:j < n:=by
   rcases Nat.lt_or_ge j n with h | h
   ·exact h
   ·exact absurd hj (tail_waitsC hs hc hn inv _ i rfl hin hun j h)
  refine ⟨hjn,?_⟩
  by_cases hji:j=i
  ·subst hji;exact hy.stOp hi H
  ·have:=hdone _ _ H j (ready_mono hj hji)
   omega
 | succ f ih =>
  intro listed a inv hfree hr hy H
  have hun:=(mem_ready.1 hr).1
  refine ⟨fun h=>(by rw [h] at hr;cases hr),fun j hj=>?_⟩
  have hjn:j < n:=by
   rcases Nat.lt_or_ge j n with h | h
   ·exact h
   ·exact absurd hj (tail_waitsC hs hc hn inv _ i rfl hin hun j h)
  refine ⟨hjn,?_⟩
  by_cases hji:j=i
  ·subst hji;exact hy.stOp hi H
  ·have h1:=(H.2 j (ready_mono hj hji)).2
   obtain⟨hjun,oj,hoj,hall⟩:=mem_ready.1 hj
   have hnot:∀ e ∈ oj.after,Region.binds .any e=true->e.on ≠ i:=fun e he hb heq=>by
    have h1:=hall e he hb
    rw [heq,getD_both hun] at h1
    cases h1
   have h2:=stOp_put hoj (hfree j oj hoj hji hjun hnot) (fun cs b=>hsel i oi cs b hi) (fun cs b=>hsel j oj cs b hoj) hy h1
   have hfree':∀ k ok,ops[k]? = some ok->k ≠ i->(listed.setIfInBounds j true).getD k true=false ->
     (∀ e ∈ ok.after,Region.binds .any e=true->e.on ≠ i)->oi.apart ops ok=true:=fun k ok hk hki hun hno=>by
    refine hfree k ok hk hki ?_ hno
    by_cases hjk:j=k
    ·subst hjk;exact hjun
    ·rw [getD_set_ne true hjk] at hun;exact hun
   refine stOp_mono (fun a' h3=>ih (listed.setIfInBounds j true) a' (inv.set hj hjn) hfree' (ready_mono hr (Ne.symm hji)) h3.1 ?_) h2
   rw [Array.setIfInBounds_comm _ _ hji]
   exact h3.2
def stillB (ops:Array Oper):Nat->Nat->Bool
 | 0,_=>true
 | c+1,k=>(Region.ready .any ops (canonL k ops.size)).contains k && Region.free .any ops (canonL k ops.size) k && stillB ops c (k+1)
def cutB (ops:Array Oper) (k n:Nat):Bool :=
 Region.noSelect ops && decide (n < ops.size) && Region.sinkB .any ops n && hangB ops n && stillB ops (n - k) k && ((Region.ready .any ops (canonL n ops.size)).all fun j=>decide (n<=j)) &&
  (List.range k).all fun j=>match ops[j]? with | none=>true | some o=>o.after.toList.all fun e=>!Region.binds .any e || decide (e.on < k)
theorem wpAnyL_lexC {n:Nat} {w:World} {Lq:Act->Prop} (hsel:Region.noSelect ops=true) (hs:Region.sinkB .any ops n=true) (hc:hangB ops n=true) (hn:n < ops.size) (hd:∀ j ∈ Region.ready .any ops (canonL n ops.size),n<=j) :
  ∀ (l:List Oper) (k:Nat) (a:Act),(∀ j,j < l.length->l[j]? = ops[k+j]?)->k+l.length=n->HeadInv .any ops n (canonL k ops.size) ->
  stillB ops l.length k=true->wpStill P ops w Lq l a ->
  wpAnyL P .any ops w n (fun listed' a'=>listed'=canonL n ops.size/\Lq a') l.length (canonL k ops.size) a
 | [],k,a,_,hk,_,_,h=>by
  have:k=n:=by simpa using hk
  subst this
  exact⟨rfl,h⟩
 | o :: l,k,a,hl,hk,inv,hB,h=>by
  have h0:ops[k]? = some o:=by simpa using (hl 0 (by simp)).symm
  simp only [List.length_cons,stillB,Bool.and_eq_true] at hB
  obtain⟨⟨hr,hf⟩,hB'⟩:=hB
  have hkn:k < n:=by simp only [List.length_cons] at hk;omega
  have hr':k ∈ Region.ready .any ops (canonL k ops.size):=by simpa using hr
  have hst:stOp P ops w k (wpStill P ops w Lq l) a:=by unfold stOp;simp only [h0];exact h
  obtain⟨v,hy,hK⟩:=yieldsAt_of_stOp h0 hst
  have hi':HeadInv .any ops n (canonL (k+1) ops.size):=by rw [<- canonL_set];exact inv.set hr' hkn
  refine wpAnyL_firstC h0 (Region.noSelect_spec hsel) hs hc hn hkn (fun listed' a' hL=>by rw [hL.1];exact hd) l.length _ a inv (Region.free_spec h0 hf) hr' hy ?_
  rw [canonL_set]
  exact wpAnyL_lexC hsel hs hc hn hd l (k+1) _ (fun j hj=>by have:=hl (j+1) (by simp;omega);simpa [Nat.add_assoc,Nat.add_comm 1 j] using this) (by simp only [List.length_cons] at hk;omega) hi' hB' hK
theorem canonL_getD {k m j:Nat} (hj:j < m) (d:Bool):(canonL k m).getD j d=decide (j < k):=by
 simp [canonL,hj]
theorem wpAny_still {k n:Nat} {w:World} {a:Act} (hB:cutB ops k n=true) (hk:k<=n)
  (h:wpStill P ops w (fun a'=>wpAny P .any ops Q (ops.size - n) (canonL n ops.size) a' w) ((ops.toList.drop k).take (n - k)) a):wpAny P .any ops Q (ops.size - k) (canonL k ops.size) a w:=by
 simp only [cutB,Bool.and_eq_true,decide_eq_true_eq] at hB
 obtain⟨⟨⟨⟨⟨⟨hsel,hn⟩,hs⟩,hc⟩,hst⟩,hd⟩,hcl⟩:=hB
 have hlen:((ops.toList.drop k).take (n - k)).length=n - k:=by simp;omega
 have inv:HeadInv .any ops n (canonL k ops.size):=by
  refine ⟨by simp [canonL],fun j oj hj hl e he hb=>?_,fun t ht ht'=>by rw [canonL_getD ht'];simp;omega⟩
  have hjs:=(Array.getElem?_eq_some_iff.1 hj).1
  rw [canonL_getD hjs] at hl
  have hjk:j < k:=by simpa using hl
  have h1:=List.all_eq_true.1 hcl j (List.mem_range.2 hjk)
  rw [hj] at h1
  have h2:=List.all_eq_true.1 h1 e (by simpa using he)
  rw [hb] at h2
  have h3:e.on < k:=by simpa using h2
  rw [canonL_getD (by omega)]
  simpa using h3
 have H:=wpAnyL_lexC (P:=P) (w:=w) hsel hs hc hn (fun j hj=>by simpa using List.all_eq_true.1 hd j hj) ((ops.toList.drop k).take (n - k)) k a
  (fun j hj=>by rw [hlen] at hj;rw [List.getElem?_take_of_lt hj,List.getElem?_drop];simp) (by rw [hlen];omega) inv (by rw [hlen];exact hst) h
 have:=wpAny_of_head (md:=.any) (Q':=Q) (g:=ops.size - n) (L:=fun listed' a'=>listed'=canonL n ops.size/\wpAny P .any ops Q (ops.size - n) (canonL n ops.size) a' w)
  (fun listed a' hL=>by rw [hL.1];exact hL.2) _ _ _ H
 rw [hlen,show n - k+(ops.size - n)=ops.size - k by omega] at this
 exact this
theorem wpAny_last {k:Nat} {w:World} {a:Act} (hB:Region.seqB .any ops (ops.size - k) k (canonL k ops.size)=true)
  (h:wpList P ops Q (ops.toList.drop k) a w):wpAny P .any ops Q (ops.size - k) (canonL k ops.size) a w:=by
 have hlen:(ops.toList.drop k).length=ops.size - k:=by simp
 have:=wpAny_of_seq (md:=.any) (Q':=Q) (ops.toList.drop k) k (canonL k ops.size) a w (fun j=>by simp [List.getElem?_drop]) (by rw [hlen];exact hB) h
 rw [hlen] at this
 exact this
theorem wp_region_cut {id:Nat} {l:List Oper} {a:Act} {w:World} (hm:P.follows .mixedOrders=true) (h:wpAny P .any l.toArray Q (l.toArray.size - 0) (canonL 0 l.toArray.size) a { w with drawn:=w.drawn+1 }):(Code.region id l.toArray true).wp P Q a w:=by
 refine wp_region_any hm ?_
 rw [Nat.sub_zero] at h
 have e:Array.replicate l.toArray.size false=canonL 0 l.toArray.size:=by
  apply Array.ext_getElem?
  intro i
  by_cases hi:i < l.toArray.size
  ·have hi':i < l.length:=by simpa using hi
   simp [canonL,hi']
  ·have hi':¬ i < l.length:=by simpa using hi
   simp [canonL,hi']
 rw [e]
 exact h
theorem wpAny_next {k:Nat} (n:Nat) {w:World} {a:Act} (hk:k<=n) (hn:n<=ops.size) (hB:forcedB ops (n - k) k=true)
  (h:wpList P ops (QN fun a w=>wpAny P .any ops Q (ops.size - n) (canonL n ops.size) a w) ((ops.toList.drop k).take (n - k)) a w):wpAny P .any ops Q (ops.size - k) (canonL k ops.size) a w:=by
 have hlen:((ops.toList.drop k).take (n - k)).length=n - k:=by simp;omega
 have:=wpAny_forced (P:=P) (Q:=Q) (g:=ops.size - n) ((ops.toList.drop k).take (n - k)) k a w (fun j hj=>by rw [hlen] at hj;rw [List.getElem?_take_of_lt hj,List.getElem?_drop];simp) (by rw [hlen];exact hB)
  (fun a w hK=>by rw [hlen,show k+(n - k)=n by omega];exact hK) h
 rw [hlen,show n - k+(ops.size - n)=ops.size - k by omega] at this
 exact this
end
end
end Go.Proofs.YtblkikjmocnllaaGreatDoor
