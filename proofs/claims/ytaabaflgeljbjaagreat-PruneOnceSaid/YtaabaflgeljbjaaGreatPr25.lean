/- Laws. -/
import Derived.Test.YtaabaflgeljbjaaGreatPr01
import Derived.StillTail
import Derived.StillTailTactics
set_option linter.unusedVariables false
set_option linter.unusedSimpArgs false
set_option maxRecDepth 100000
set_option maxHeartbeats 40000000
namespace Go.Proofs.YtaabaflgeljbjaaGreat
section
open Go.RowKit
section
variable {P:Program} {ops:Array Oper} {Q:Exit->Act->World->Prop}
def zbe (ops:Array Oper) (n t:Nat):Option Nat:=(List.range n).find? fun j=>((ops[j]?).bind (·.dst)) == some t
def zby (n m:Nat):Array Bool:=((List.range m).map fun i=>decide (i < n)).toArray
def zn3 (ops:Array Oper) (n N i:Nat) (o:Oper):Bool :=
 (o.after.toList.all fun e=>!Region.binds .any e || decide (e.on < i)) && (match o.dst with | none=>false | some d=>decide (d < N) && (zbe ops n d == some i)) &&
  ((o.looksAt ops).all fun t=>match zbe ops n t with | none=>true | some j=>Region.waitsFor .any ops i j)
def zhw (ops:Array Oper) (n N:Nat):Bool :=
 decide (n < ops.size) && Region.sinkB .any ops n && Region.chainB .any ops n && ((List.range n).all fun i=>match ops[i]? with | none=>false | some o=>zn3 ops n N i o) &&
  Region.seqB .any ops (ops.size - n) n (zby n ops.size)
def zam (N:Nat) (ds:List Deferred) (x:Nat->Value):Act:=⟨((List.range N).map x).toArray,ds⟩
theorem zdp (a:Act):a=zam a.tmps.size a.defers (fun t=>a.eval (.tmp t)):=by
 obtain⟨t,d⟩:=a;simp only [zam,Act.mk.injEq,and_true]
 apply Array.ext_getElem?
 intro i
 by_cases h:i < t.size <;> simp [h,Act.eval,Array.getElem?_eq_none]
theorem zfu (a:Act) (d:Option Tmp) (v:Value):(a.put d v).tmps.size=a.tmps.size:=by cases d <;> simp [Act.put]
theorem zfh (a:Act) (d:Option Tmp) (v:Value):(a.put d v).defers=a.defers:=by cases d <;> simp [Act.put]
theorem zer (a:Act) (d:Nat) (v:Value) (h:d < a.tmps.size):(a.put (some d) v).eval (.tmp d)=v:=by simp [Act.put,Act.eval,Array.getD,h]
theorem zc5 (a:Act) (d j:Nat) (v:Value) (h:d ≠ j):(a.put (some d) v).eval (.tmp j)=a.eval (.tmp j):=by
 simp only [Act.put,Act.eval,Array.getD_eq_getD_getElem?];rw [Array.getElem?_setIfInBounds_ne h]
def zhx (A:Act) (dst:Option Tmp) (R:Value->World->Prop) (w:World):Exit->Act->World->Prop
 | .normal,a',w'=>∃ v,a'=A.put dst v/\R v w'/\Ext w w'
 | _,_,_=>False
def za8 (ops:Array Oper) (n:Nat) (a0:Act) (R:Nat->Value->World->Prop) (x:Nat->Value) (w:World) (t:Nat):Prop :=
 match zbe ops n t with
 | none=>x t=a0.eval (.tmp t)
 | some j=>R j (x t) w
structure RInv (ops:Array Oper) (n:Nat) (a0:Act) (w0:World) (R:Nat->Value->World->Prop) (listed:Array Bool) (a:Act) (w:World):Prop where
 size:a.tmps.size=a0.tmps.size
 defers:a.defers=a0.defers
 ext:Ext w0 w
 old:∀ t,zbe ops n t=none->a.eval (.tmp t)=a0.eval (.tmp t)
 got:∀ i d,zbe ops n d=some i->listed.getD i false=true->R i (a.eval (.tmp d)) w
def cntU (n:Nat) (listed:Array Bool):Nat:=(List.range n).countP fun i=>!listed.getD i false
theorem zf3 (f g:Nat->Bool) (i:Nat) (hf:f i=true) (hg:g i=false) (h:∀ j,j ≠ i->f j=g j):∀ n,i < n->(List.range n).countP g+1=(List.range n).countP f
 | 0,h0=>by omega
 | n+1,h0=>by
  rw [List.range_succ,List.countP_append,List.countP_append]
  by_cases hi:i=n
  ·subst hi;have:(List.range i).countP g=(List.range i).countP f:=List.countP_congr fun j hj=>by rw [h j (by have:=List.mem_range.1 hj;omega)]
   simp [this,hf,hg]
  ·have:=zf3 f g i hf hg h n (by omega);simp [h n (Ne.symm hi)];omega
theorem zbs {n t j:Nat} (h:zbe ops n t=some j):j < n/\(ops[j]?).bind (·.dst)=some t:=by
 unfold zbe at h;exact⟨List.mem_range.1 (List.mem_of_find?_eq_some h),by simpa using List.find?_some h⟩
theorem zzg {o:Oper} {a:Act} {w:World} {K K':Act->World->Prop} {Q':Exit->Act->World->Prop} (h:∀ a w,K a w->K' a w) (hq:∀ e a w,e ≠ .normal->Q' e a w->False)
  (hh:o.wp P a w K Q'):o.wp P a w K' Q:=by
 unfold Oper.wp at *;generalize (execOp a.eval o).run P w=r at *
 cases r with
 | ok n w' =>
  cases n <;> simp only [Oper.upon] at hh ⊢ <;>
   first
    |exact h _ _ hh
    | exact Calls.mono hh (fun e w'' he=>by
      cases e with
      | returned v=>exact h _ _ he
      | panicked c=>exact (hq _ _ _ (by simp) he).elim
      | outgrown=>obtain⟨a,w,he⟩:=he;exact (hq _ _ _ (by simp) he).elim)
    | exact Rows.mono hh (fun _ _ he=>h _ _ he)
 | halt x w'=>cases x <;> simp only [Oper.upon] at hh ⊢ <;> first | exact hh.elim | exact (hq _ _ _ (by simp) hh).elim
theorem zdq {i:Nat} {o:Oper} {a:Act} {w:World} {K:Act->World->Prop} {Q':Exit->Act->World->Prop} (hi:ops[i]? = some o) (hq:∀ e a w,e ≠ .normal->Q' e a w->False)
  (h:∀ a w,Q' .normal a w->K a w) (hh:wpList P ops Q' [o] a w):wpOp P ops Q i K a w:=by
 unfold wpOp;rw [hi]
 by_cases hw:Region.wanted o (yielded ops a.tmps)=true
 ·simp only [wpList,hw,if_true] at hh ⊢;rcases hh with hh | ⟨_,a1,w1,hh⟩
  ·exact .inl (zzg h hq hh)
  ·exact (hq _ _ _ (by simp) hh).elim
 ·simp only [wpList,if_neg hw] at hh ⊢;exact h _ _ hh
variable {n N:Nat} {a0:Act} {w0:World} {R:Nat->Value->World->Prop}
theorem zha (h:zhw ops n N=true):n < ops.size/\Region.sinkB .any ops n=true/\Region.chainB .any ops n=true/\(∀ i o,i < n->ops[i]? = some o->zn3 ops n N i o=true)/\Region.seqB .any ops (ops.size - n) n (zby n ops.size)=true:=by
 simp only [zhw,Bool.and_eq_true,decide_eq_true_eq,List.all_eq_true,List.mem_range] at h;obtain⟨⟨⟨⟨h1,h2⟩,h3⟩,h4⟩,h5⟩:=h;exact⟨h1,h2,h3,fun i o hi ho=>by have:=h4 i hi;rw [ho] at this;exact this,h5⟩
theorem zj2 {i:Nat} {o:Oper} (h:zn3 ops n N i o=true):(∀ e ∈ o.after,Region.binds .any e=true->e.on < i)/\(∃ d,o.dst=some d/\d < N/\zbe ops n d=some i) /\
  (∀ t ∈ o.looksAt ops,∀ j,zbe ops n t=some j->Region.waitsFor .any ops i j=true):=by
 simp only [zn3,Bool.and_eq_true,List.all_eq_true,Option.isNone_iff_eq_none] at h;obtain⟨⟨h2,h3⟩,h4⟩:=h;refine ⟨fun e he hb=>?_,?_,fun t ht j hj=>?_⟩
 ·have:=h2 e (by simpa using he)
  simpa [hb] using this
 ·cases hd:o.dst with
  | none=>rw [hd] at h3;cases h3
  | some d=>rw [hd] at h3;simp at h3;exact⟨d,rfl,h3⟩
 ·have:=h4 t ht;rw [hj] at this;exact this
theorem zmv (hB:zhw ops n N=true) {listed:Array Bool} (inv:HeadInv .any ops n listed):∀ i,i < n->listed.getD i false=false->∃ j,j < n/\j ∈ Region.ready .any ops listed:=by
 obtain⟨h1,h2,h3,h4,h5⟩:=zha hB;intro i
 induction i using Nat.strongRecOn with
 | _ i ih =>
  intro hi hl;have hio:i < ops.size:=by omega
  have hoi:ops[i]? = some ops[i]:=by simp [hio]
  obtain⟨g2,g3,g4⟩:=zj2 (h4 i _ hi hoi)
  by_cases hall:∀ e ∈ (ops[i]).after,Region.binds .any e=true->listed.getD e.on false=true
  ·refine ⟨i,hi,mem_ready.2 ⟨?_,_,hoi,hall⟩⟩;exact getD_in (by rw [inv.size];omega) hl
  ·simp only [Classical.not_forall] at hall;obtain⟨e,he,hb,hne⟩:=hall;have:=g2 e he hb;exact ih e.on this (by omega) (by simpa using hne)
theorem zxg (hB:zhw ops n a0.tmps.size=true) (hR:∀ i v w w',R i v w->Ext w w'->R i v w')
  (hstep:∀ i o,i < n->ops[i]? = some o->∀ (x:Nat->Value) (w:World),Ext w0 w->(∀ t ∈ o.looksAt ops,za8 ops n a0 R x w t)->wpList P ops (zhx (zam a0.tmps.size a0.defers x) o.dst (R i) w) [o] (zam a0.tmps.size a0.defers x) w)
  (hend:∀ (x:Nat->Value) (w:World),Ext w0 w->(∀ t,za8 ops n a0 R x w t)->wpList P ops Q (ops.toList.drop n) (zam a0.tmps.size a0.defers x) w) :
  ∀ (k:Nat) (listed:Array Bool) (a:Act) (w:World),HeadInv .any ops n listed->cntU n listed=k->RInv ops n a0 w0 R listed a w->wpAny P .any ops Q (k+(ops.size - n)) listed a w:=by
 obtain⟨h1,h2,h3,h4,h5⟩:=zha hB;intro k
 induction k with
 | zero =>
  intro listed a w inv hc ri
  have hall:∀ i,i < n->listed.getD i false=true:=fun i hi=>by
   have:=List.countP_eq_zero.1 hc i (List.mem_range.2 hi)
   simpa using this
  have hcan:listed=zby n ops.size:=by
   apply Array.ext_getElem?
   intro i
   by_cases hi:i < ops.size
   ·have hil:i < listed.size:=by rw [inv.size];exact hi
    by_cases hin:i < n
    ·have:=hall i hin;simp [hil] at this;simp [zby,hi,hin,hil,this]
    ·have:=inv.tail i (by omega) hi;simp [hil] at this;simp [zby,hi,hin,hil,this]
   ·have hil:¬ i < listed.size:=(by rw [inv.size];exact hi);simp [zby,hi,hil]
  have hlen:(ops.toList.drop n).length=ops.size - n:=by simp
  have ha:=zdp a;rw [ri.size,ri.defers] at ha
  have hw:wpList P ops Q (ops.toList.drop n) a w:=by
   rw [ha];refine hend _ w ri.ext fun t=>?_
   unfold za8
   split
   ·rename_i hd;exact ri.old t hd
   ·rename_i j hd;exact ri.got j t hd (hall j (zbs hd).1)
  have:=wpAny_of_seq (md:=.any) (Q':=Q) (ops.toList.drop n) n listed a w (fun j=>by simp [List.getElem?_drop]) (by rw [hlen,hcan];exact h5) hw;rw [hlen] at this;rw [Nat.zero_add];exact this
 | succ k ih =>
  intro listed a w inv hc ri
  have hex:∃ i,i < n/\listed.getD i false=false:=by
   have:0 < cntU n listed:=by omega
   obtain⟨i,hi,hl⟩:=List.countP_pos_iff.1 this;exact⟨i,List.mem_range.1 hi,by simpa using hl⟩
  obtain⟨i0,hi0,hl0⟩:=hex;obtain⟨jr,hjr,hjr2⟩:=zmv hB inv i0 hi0 hl0;rw [show k+1+(ops.size - n)=(k+(ops.size - n))+1 by omega];refine ⟨(fun h0=>(by rw [h0] at hjr2;cases hjr2)),fun i hi=>?_⟩
  have hin:i < n:=by
   rcases Nat.lt_or_ge i n with h | h
   ·exact h
   ·exact absurd hi (tail_waits h2 h3 h1 inv _ i0 rfl hi0 (getD_in (by rw [inv.size];omega) hl0) i h)
  obtain⟨hun,o,ho,hdeps⟩:=mem_ready.1 hi;obtain⟨g2,⟨d,g3,g3',g3''⟩,g4⟩:=zj2 (h4 i o hin ho);have ha:=zdp a;rw [ri.size,ri.defers] at ha
  have hs:=hstep i o hin ho (fun t=>a.eval (.tmp t)) w ri.ext fun t ht=>by
   unfold za8
   split
   ·rename_i hd;exact ri.old t hd
   ·rename_i j hd;refine ri.got j t hd ?_;obtain⟨o',ho',e,he,hb,hon⟩:=Region.waitsFor_spec (g4 t ht j hd);have:o'=o:=Option.some.inj (ho'.symm.trans ho);subst this;rw [<- hon];exact hdeps e he hb
  rw [<- ha] at hs;refine zdq ho (fun e a w he h=>by cases e <;> first | exact absurd rfl he | exact h) (fun a' w' h=>?_) hs;obtain⟨v,rfl,hv,hx⟩:=h;rw [g3];have hsz:d < a.tmps.size:=by rw [ri.size];exact g3'
  refine ih _ _ _ (inv.set hi hin) ?_ ⟨by rw [zfu];exact ri.size,by rw [zfh];exact ri.defers,ri.ext.trans hx,fun t ht=>?_,fun j t ht hl=>?_⟩
  ·have:=zf3 (fun j=>!listed.getD j false) (fun j=>!(listed.setIfInBounds i true).getD j false) i (by simpa using getD_both hun) (by
    have hlt:i < listed.size:=(by rw [inv.size];omega);simp [hlt]) (fun j hj=>by simp only [getD_set_ne false (Ne.symm hj)]) n hin
   unfold cntU at hc ⊢;omega
  ·rw [zc5 _ _ _ _ (fun e=>by subst e;rw [ht] at g3'';cases g3'')];exact ri.old t ht
  ·by_cases hdt:d=t
   ·subst hdt;obtain rfl:j=i:=Option.some.inj (ht.symm.trans g3'');rw [zer _ _ _ hsz];exact hv
   ·rw [zc5 _ _ _ _ hdt]
    have hji:i ≠ j:=fun e=>by subst e;have:=(zbs ht).2;rw [ho] at this;exact hdt (Option.some.inj (g3.symm.trans this))
    rw [getD_set_ne false hji] at hl;exact hR _ _ _ _ (ri.got j t ht hl) hx
theorem zqm {id:Nat} {l:List Oper} (n:Nat) (R:Nat->Value->World->Prop) (hm:P.follows .mixedOrders=true) (hB:zhw l.toArray n a0.tmps.size=true) (hR:∀ i v w w',R i v w->Ext w w'->R i v w')
  (hstep:∀ i o,i < n->l[i]? = some o->∀ (x:Nat->Value) (w:World),Ext w0 w->(∀ t ∈ o.looksAt l.toArray,za8 l.toArray n a0 R x w t)->wpList P l.toArray (zhx (zam a0.tmps.size a0.defers x) o.dst (R i) w) [o] (zam a0.tmps.size a0.defers x) w)
  (hend:∀ (x:Nat->Value) (w:World),Ext w0 w->(∀ t,za8 l.toArray n a0 R x w t)->wpList P l.toArray Q (l.drop n) (zam a0.tmps.size a0.defers x) w) :
  (Code.region id l.toArray true).wp P Q a0 w0:=by
 refine wp_region_any hm ?_;have h1:=(zha hB).1
 have hrep:cntU n (Array.replicate l.toArray.size false)=n:=by unfold cntU;rw [List.countP_eq_length.2 (fun i _=>by rw [getD_replicate_false];rfl)];exact List.length_range
 have:=zxg (P:=P) (Q:=Q) (w0:=w0) hB hR (fun i o hi ho=>hstep i o hi (by simpa using ho)) hend n (Array.replicate l.toArray.size false) a0 { w0 with drawn:=w0.drawn+1 }
  ⟨by simp,fun j oj _ hl=>(by rw [getD_replicate_false] at hl;cases hl),fun t _ ht=>getD_in (by simpa using ht) (getD_replicate_false _ _)⟩ hrep
  ⟨rfl,rfl,(Ext.refl w0).drew,fun _ _=>rfl,fun j d _ hl=>(by rw [getD_replicate_false] at hl;cases hl)⟩
 rw [show n+(l.toArray.size - n)=l.toArray.size by omega] at this;exact this
def za9 (ops:Array Oper) (n:Nat) (a0:Act) (R:Nat->Value->World->Prop) (x:Nat->Value) (w:World):List Tmp->Prop
 | []=>True
 | t :: l=>za8 ops n a0 R x w t/\za9 ops n a0 R x w l
theorem zbp {x:Nat->Value} {w:World}:∀ l:List Tmp,(∀ t ∈ l,za8 ops n a0 R x w t)->za9 ops n a0 R x w l
 | [],_=>trivial
 | t :: l,h=>⟨h t (by simp),zbp l fun s hs=>h s (by simp [hs])⟩
def nthR (Rs:List (Value->World->Prop)) (i:Nat):Value->World->Prop:=Rs.getD i fun _ _=>True
def zbj (P:Program) (ops:Array Oper) (n:Nat) (a0:Act) (w0:World) (R:Nat->Value->World->Prop):List Oper->List (Value->World->Prop)->Prop
 | o :: l,r :: rs=>(∀ (x:Nat->Value) (w:World),Ext w0 w->za9 ops n a0 R x w (o.looksAt ops)->wpList P ops (zhx (zam a0.tmps.size a0.defers x) o.dst r w) [o] (zam a0.tmps.size a0.defers x) w)/\zbj P ops n a0 w0 R l rs
 | [],[]=>True
 | _,_=>False
theorem zmw:∀ (l:List Oper) (rs:List (Value->World->Prop)),zbj P ops n a0 w0 R l rs->∀ i o,l[i]? = some o->∀ (x:Nat->Value) (w:World),Ext w0 w->(∀ t ∈ o.looksAt ops,za8 ops n a0 R x w t) ->
  wpList P ops (zhx (zam a0.tmps.size a0.defers x) o.dst (nthR rs i) w) [o] (zam a0.tmps.size a0.defers x) w
 | [],_,_,i,o,ho,_,_,_,_=>by simp at ho
 | p :: l,[],h,_,_,_,_,_,_,_=>h.elim
 | p :: l,r :: rs,h,0,o,ho,x,w,he,hf=>by
  obtain rfl:p=o:=by simpa using ho
  exact h.1 x w he (zbp _ hf)
 | p :: l,r :: rs,h,i+1,o,ho,x,w,he,hf=>by
  have:=zmw l rs h.2 i o (by simpa using ho) x w he hf
  simpa [nthR] using this
theorem zaa {A:Act} {dst:Option Tmp} {r:Value->World->Prop} {w w':World} {v:Value} (hv:r v w') (hx:Ext w w'):zhx A dst r w .normal (A.put dst v) w':=⟨v,rfl,hv,hx⟩
theorem sQ {A:Act} {dst:Option Tmp} {w:World} {v:Value}:zhx A dst (fun u _=>u=v) w .normal (A.put dst v) w:=zaa rfl (Ext.refl _)
@[go_sem] theorem invAct_getD (N:Nat) (ds:List Deferred) (x:Nat->Value) (t:Nat) (u:Value) (h:t < N):(zam N ds x).tmps.getD t u=x t:=by simp [zam,h]
@[go_sem] theorem invAct_get? (N:Nat) (ds:List Deferred) (x:Nat->Value) (t:Nat) (h:t < N):(zam N ds x).tmps[t]? = some (x t):=by simp [zam,h]
@[go_sem] theorem invAct_eval (N:Nat) (ds:List Deferred) (x:Nat->Value) (t:Nat) (h:t < N):(zam N ds x).eval (.tmp t)=x t:=by simp [zam,h,Act.eval]
def zav (a:Act) (x:Nat->Value):List Nat->Act
 | []=>a
 | d :: ds=>zav (a.put (some d) (x d)) x ds
theorem zmx (x:Nat->Value):∀ (ds:List Nat) (a:Act),(zav a x ds).tmps.size=a.tmps.size/\(zav a x ds).defers=a.defers
 | [],a=>⟨rfl,rfl⟩
 | d :: ds,a=>by obtain⟨h1,h2⟩:=zmx x ds (a.put (some d) (x d));exact⟨h1.trans (zfu _ _ _),h2.trans (zfh _ _ _)⟩
theorem zmy (x:Nat->Value):∀ (ds:List Nat) (a:Act) (t:Nat),t < a.tmps.size->(zav a x ds).eval (.tmp t)=if t ∈ ds then x t else a.eval (.tmp t)
 | [],a,t,_=>by simp [zav]
 | d :: ds,a,t,ht=>by
  have:=zmy x ds (a.put (some d) (x d)) t (by rw [zfu];exact ht);unfold zav;rw [this]
  by_cases h1:t ∈ ds
  ·simp [h1]
  ·by_cases h2:d=t
   ·subst h2;simp [h1,zer _ _ _ ht]
   ·rw [zc5 _ _ _ _ h2];simp [h1,Ne.symm h2]
theorem zfd {l:List Oper} {x:Nat->Value} (hx:∀ t,zbe l.toArray n t=none->x t=a0.eval (.tmp t)):zam a0.tmps.size a0.defers x=zav a0 x ((l.take n).filterMap (·.dst)):=by
 obtain⟨h1,h2⟩:=zmx x ((l.take n).filterMap (·.dst)) a0;rw [zdp (zav a0 x ((l.take n).filterMap (·.dst))),h1,h2];unfold zam
 congr 2
 apply List.map_congr_left
 intro t ht;rw [zmy _ _ _ _ (List.mem_range.1 ht)]
 split
 ·rfl
 ·rename_i hm;refine hx t ?_;unfold zbe;rw [List.find?_eq_none];intro j hj hd;refine hm ?_;have hj':=List.mem_range.1 hj;simp only [beq_iff_eq,Option.bind_eq_some_iff] at hd;obtain⟨o,ho,hd⟩:=hd;rw [List.mem_filterMap];refine ⟨o,?_,hd⟩;have:(l.take n)[j]? = some o:=by rw [List.getElem?_take_of_lt hj'];simpa using ho
  exact List.mem_of_getElem? this
theorem zat {id:Nat} {l:List Oper} (Rs:List (Value->World->Prop)) (hm:P.follows .mixedOrders=true) (hB:zhw l.toArray Rs.length a0.tmps.size=true)
  (hR:∀ r ∈ Rs,∀ v w w',r v w->Ext w w'->r v w')
  (hstep:zbj P l.toArray Rs.length a0 w0 (nthR Rs) (l.take Rs.length) Rs)
  (hend:∀ (x:Nat->Value) (w:World),Ext w0 w->za9 l.toArray Rs.length a0 (nthR Rs) x w ((l.take Rs.length).filterMap (·.dst))->wpList P l.toArray Q (l.drop Rs.length) (zav a0 x ((l.take Rs.length).filterMap (·.dst))) w) :
  (Code.region id l.toArray true).wp P Q a0 w0 :=
 zqm Rs.length (nthR Rs) hm hB (fun i v w w' h he=>by
  unfold nthR at h ⊢
  by_cases hi:i < Rs.length
  ·rw [List.getD_eq_getElem?_getD,List.getElem?_eq_getElem hi] at h ⊢;exact hR _ (List.getElem_mem hi) v w w' h he
  ·rw [List.getD_eq_getElem?_getD,List.getElem?_eq_none (by omega)] at h ⊢
   trivial) (fun i o hi ho=>zmw _ _ hstep i o (by rw [List.getElem?_take_of_lt hi];exact ho)) (fun x w he h=>by
  rw [zfd (fun t ht=>by have:=h t;unfold za8 at this;rw [ht] at this;exact this)];exact hend x w he (zbp _ fun t _=>h t))
end
section
variable {P:Program} {ops:Array Oper} {Q:Exit->Act->World->Prop}
def preB (ops:Array Oper) (q:Nat) (pre:List Nat):Bool:=pre.all fun i=>Region.waitsFor .any ops q i || pre.any fun j=>decide (i < j) && Region.waitsFor .any ops j i
def zmh (ops:Array Oper) (n N q i:Nat) (o:Oper):Bool :=
 o.guard.isNone && (o.after.toList.all fun e=>!Region.binds .any e || decide (e.on < i)) && (match o.dst with | none=>decide (i=q) | some d=>decide (d < N) && (zbe ops n d == some i)) &&
  ((o.looksAt ops).all fun t=>match zbe ops n t with | none=>true | some j=>Region.waitsFor .any ops i j)
def zjg (ops:Array Oper) (n N q:Nat) (pre:List Nat):Bool :=
 decide (n < ops.size) && Region.sinkB .any ops n && Region.chainB .any ops n && ((List.range n).all fun i=>match ops[i]? with | none=>false | some o=>zmh ops n N q i o) &&
  Region.seqB .any ops (ops.size - n) n (zby n ops.size) && decide (q < n) && preB ops q pre
def zcc (A:Act) (dst:Option Tmp) (R:Value->World->Prop) (M:World->Prop):Exit->Act->World->Prop
 | .normal,a',w'=>∃ v,a'=A.put dst v/\R v w'/\M w'
 | _,_,_=>False
theorem zai {A:Act} {dst:Option Tmp} {r:Value->World->Prop} {M:World->Prop} {w':World} {v:Value} (hv:r v w') (hx:M w'):zcc A dst r M .normal (A.put dst v) w':=⟨v,rfl,hv,hx⟩
structure RInv2 (ops:Array Oper) (n q:Nat) (a0:Act) (J0 J1:World->Prop) (R:Nat->Value->World->Prop) (listed:Array Bool) (a:Act) (w:World):Prop where
 size:a.tmps.size=a0.tmps.size
 defers:a.defers=a0.defers
 jn:if listed.getD q false=true then J1 w else J0 w
 old:∀ t,zbe ops n t=none->a.eval (.tmp t)=a0.eval (.tmp t)
 got:∀ i d,zbe ops n d=some i->listed.getD i false=true->R i (a.eval (.tmp d)) w
variable {n N q:Nat} {a0:Act} {J0 J1:World->Prop} {R:Nat->Value->World->Prop} {Mv:World->World->Prop} {pre:List Nat}
theorem zf7 (h:zjg ops n N q pre=true):n < ops.size/\Region.sinkB .any ops n=true/\Region.chainB .any ops n=true/\(∀ i o,i < n->ops[i]? = some o->zmh ops n N q i o=true)/\Region.seqB .any ops (ops.size - n) n (zby n ops.size)=true/\q < n/\preB ops q pre=true:=by
 simp only [zjg,Bool.and_eq_true,decide_eq_true_eq,List.all_eq_true,List.mem_range] at h;obtain⟨⟨⟨⟨⟨⟨h1,h2⟩,h3⟩,h4⟩,h5⟩,h6⟩,h7⟩:=h;exact⟨h1,h2,h3,fun i o hi ho=>by have:=h4 i hi;rw [ho] at this;exact this,h5,h6,h7⟩
theorem zjh {i:Nat} {o:Oper} (h:zmh ops n N q i o=true):o.guard=none/\(∀ e ∈ o.after,Region.binds .any e=true->e.on < i)/\((o.dst=none/\i=q) ∨ ∃ d,o.dst=some d/\d < N/\zbe ops n d=some i) /\
  (∀ t ∈ o.looksAt ops,∀ j,zbe ops n t=some j->Region.waitsFor .any ops i j=true):=by
 simp only [zmh,Bool.and_eq_true,List.all_eq_true,Option.isNone_iff_eq_none] at h;obtain⟨⟨⟨h1,h2⟩,h3⟩,h4⟩:=h;refine ⟨h1,fun e he hb=>?_,?_,fun t ht j hj=>?_⟩
 ·have:=h2 e (by simpa using he)
  simpa [hb] using this
 ·cases hd:o.dst with
  | none=>rw [hd] at h3;exact .inl ⟨rfl,by simpa using h3⟩
  | some d=>rw [hd] at h3;simp at h3;exact .inr ⟨d,rfl,h3⟩
 ·have:=h4 t ht;rw [hj] at this;exact this
theorem zn6 (hp:preB ops q pre=true) {listed:Array Bool} (inv:HeadInv .any ops n listed) (hq:listed.getD q false=true):∀ (k i:Nat),pre.foldr max 0 - i=k->i ∈ pre->listed.getD i false=true:=by
 intro k
 induction k using Nat.strongRecOn with
 | _ k ih =>
  intro i hk hi;have h:=List.all_eq_true.1 hp i hi;simp only [Bool.or_eq_true] at h
  have step:∀ j,listed.getD j false=true->Region.waitsFor .any ops j i=true->listed.getD i false=true:=fun j hj hw=>by obtain⟨oj,hoj,e,he,hb,hon⟩:=Region.waitsFor_spec hw;have:=inv.closed j oj hoj hj e he hb;rw [hon] at this;exact this
  rcases h with h | h
  ·exact step q hq h
  ·obtain⟨j,hj,hw⟩:=List.any_eq_true.1 h;simp only [Bool.and_eq_true,decide_eq_true_eq] at hw
   have hmax:j<=pre.foldr max 0:=by
    clear hp hi h ih hk
    induction pre with
    | nil=>cases hj
    | cons a l ih =>
     simp only [List.foldr_cons];rcases List.mem_cons.1 hj with rfl | hj
     ·exact Nat.le_max_left _ _
     ·exact Nat.le_trans (ih hj) (Nat.le_max_right _ _)
   exact step j (ih _ (by omega) j rfl hj) hw.2
theorem zls (hB:zjg ops n N q pre=true) {listed:Array Bool} (inv:HeadInv .any ops n listed):∀ i,i < n->listed.getD i false=false->∃ j,j < n/\j ∈ Region.ready .any ops listed:=by
 obtain⟨h1,h2,h3,h4,h5,-,-⟩:=zf7 hB;intro i
 induction i using Nat.strongRecOn with
 | _ i ih =>
  intro hi hl;have hio:i < ops.size:=by omega
  have hoi:ops[i]? = some ops[i]:=by simp [hio]
  obtain⟨g1,g2,g3,g4⟩:=zjh (h4 i _ hi hoi)
  by_cases hall:∀ e ∈ (ops[i]).after,Region.binds .any e=true->listed.getD e.on false=true
  ·refine ⟨i,hi,mem_ready.2 ⟨?_,_,hoi,hall⟩⟩;exact getD_in (by rw [inv.size];omega) hl
  ·simp only [Classical.not_forall] at hall;obtain⟨e,he,hb,hne⟩:=hall;have:=g2 e he hb;exact ih e.on this (by omega) (by simpa using hne)
theorem zur (hB:zjg ops n a0.tmps.size q pre=true) (hR:∀ i v w w',R i v w->Mv w w'->R i v w')
  (hstep:∀ i o,i < n->i ≠ q->ops[i]? = some o->∀ (x:Nat->Value) (w:World) (b:Bool),(b=true->i ∉ pre)->(if b=true then J1 w else J0 w)->(∀ t ∈ o.looksAt ops,za8 ops n a0 R x w t) ->
   wpList P ops (zcc (zam a0.tmps.size a0.defers x) o.dst (R i) (fun w'=>(if b=true then J1 w' else J0 w')/\Mv w w')) [o] (zam a0.tmps.size a0.defers x) w)
  (hq:∀ o,ops[q]? = some o->∀ (x:Nat->Value) (w:World),J0 w->(∀ t ∈ o.looksAt ops,za8 ops n a0 R x w t) ->
   wpList P ops (zcc (zam a0.tmps.size a0.defers x) o.dst (R q) (fun w'=>J1 w'/\Mv w w')) [o] (zam a0.tmps.size a0.defers x) w)
  (hend:∀ (x:Nat->Value) (w:World),J1 w->(∀ t,za8 ops n a0 R x w t)->wpList P ops Q (ops.toList.drop n) (zam a0.tmps.size a0.defers x) w) :
  ∀ (k:Nat) (listed:Array Bool) (a:Act) (w:World),HeadInv .any ops n listed->cntU n listed=k->RInv2 ops n q a0 J0 J1 R listed a w->wpAny P .any ops Q (k+(ops.size - n)) listed a w:=by
 obtain⟨h1,h2,h3,h4,h5,hqn,hpre⟩:=zf7 hB;intro k
 induction k with
 | zero =>
  intro listed a w inv hc ri
  have hall:∀ i,i < n->listed.getD i false=true:=fun i hi=>by
   have:=List.countP_eq_zero.1 hc i (List.mem_range.2 hi)
   simpa using this
  have hcan:listed=zby n ops.size:=by
   apply Array.ext_getElem?
   intro i
   by_cases hi:i < ops.size
   ·have hil:i < listed.size:=by rw [inv.size];exact hi
    by_cases hin:i < n
    ·have:=hall i hin;simp [hil] at this;simp [zby,hi,hin,hil,this]
    ·have:=inv.tail i (by omega) hi;simp [hil] at this;simp [zby,hi,hin,hil,this]
   ·have hil:¬ i < listed.size:=(by rw [inv.size];exact hi);simp [zby,hi,hil]
  have hlen:(ops.toList.drop n).length=ops.size - n:=by simp
  have ha:=zdp a;rw [ri.size,ri.defers] at ha;have hj:=ri.jn;rw [if_pos (hall q hqn)] at hj
  have hw:wpList P ops Q (ops.toList.drop n) a w:=by
   rw [ha];refine hend _ w hj fun t=>?_
   unfold za8
   split
   ·rename_i hd;exact ri.old t hd
   ·rename_i j hd;exact ri.got j t hd (hall j (zbs hd).1)
  have:=wpAny_of_seq (md:=.any) (Q':=Q) (ops.toList.drop n) n listed a w (fun j=>by simp [List.getElem?_drop]) (by rw [hlen,hcan];exact h5) hw;rw [hlen] at this;rw [Nat.zero_add];exact this
 | succ k ih =>
  intro listed a w inv hc ri
  have hex:∃ i,i < n/\listed.getD i false=false:=by
   have:0 < cntU n listed:=by omega
   obtain⟨i,hi,hl⟩:=List.countP_pos_iff.1 this;exact⟨i,List.mem_range.1 hi,by simpa using hl⟩
  obtain⟨i0,hi0,hl0⟩:=hex;obtain⟨jr,hjr,hjr2⟩:=zls hB inv i0 hi0 hl0;rw [show k+1+(ops.size - n)=(k+(ops.size - n))+1 by omega];refine ⟨(fun h0=>(by rw [h0] at hjr2;cases hjr2)),fun i hi=>?_⟩
  have hin:i < n:=by
   rcases Nat.lt_or_ge i n with h | h
   ·exact h
   ·exact absurd hi (tail_waits h2 h3 h1 inv _ i0 rfl hi0 (getD_in (by rw [inv.size];omega) hl0) i h)
  obtain⟨hun,o,ho,hdeps⟩:=mem_ready.1 hi;obtain⟨g1,g2,g3,g4⟩:=zjh (h4 i o hin ho);have ha:=zdp a;rw [ri.size,ri.defers] at ha
  have hfacts:∀ t ∈ o.looksAt ops,za8 ops n a0 R (fun t=>a.eval (.tmp t)) w t:=fun t ht=>by
   unfold za8
   split
   ·rename_i hd;exact ri.old t hd
   ·rename_i j hd;refine ri.got j t hd ?_;obtain⟨o',ho',e,he,hb,hon⟩:=Region.waitsFor_spec (g4 t ht j hd);have:o'=o:=Option.some.inj (ho'.symm.trans ho);subst this;rw [<- hon];exact hdeps e he hb
  have hcnt:cntU n (listed.setIfInBounds i true)=k:=by
   have:=zf3 (fun j=>!listed.getD j false) (fun j=>!(listed.setIfInBounds i true).getD j false) i (by simpa using getD_both hun) (by have hlt:i < listed.size:=(by rw [inv.size];omega);simp [hlt]) (fun j hj=>by simp only [getD_set_ne false (Ne.symm hj)]) n hin
   unfold cntU at hc ⊢;omega
  have hself:(listed.setIfInBounds i true).getD i false=true:=by have hlt:i < listed.size:=(by rw [inv.size];omega);simp [hlt]
  rcases g3 with ⟨gd,rfl⟩ | ⟨d,g3,g3',g3''⟩
  ·have hj:=ri.jn;rw [getD_both hun,if_neg (by simp)] at hj;have hs:=hq o ho (fun t=>a.eval (.tmp t)) w hj hfacts;rw [<- ha] at hs;refine zdq ho (fun e a w he h=>by cases e <;> first | exact absurd rfl he | exact h) (fun a' w' h=>?_) hs;obtain⟨v,rfl,-,hj1,hx⟩:=h;rw [gd];refine ih _ _ _ (inv.set hi hin) hcnt ⟨ri.size,ri.defers,by rw [if_pos hself];exact hj1,ri.old,fun j t ht hl=>?_⟩
   have hji:i ≠ j:=fun e=>by subst e;have:=(zbs ht).2;rw [ho] at this;simp [gd] at this
   rw [getD_set_ne false hji] at hl;exact hR _ _ _ _ (ri.got j t ht hl) hx
  ·have hs:wpList P ops (zcc (zam a0.tmps.size a0.defers (fun t=>a.eval (.tmp t))) o.dst (R i) (fun w'=>(if (listed.setIfInBounds i true).getD q false=true then J1 w' else J0 w')/\Mv w w')) [o] (zam a0.tmps.size a0.defers (fun t=>a.eval (.tmp t))) w:=by
    by_cases giq:i=q
    ·subst giq;have hj:=ri.jn;rw [getD_both hun,if_neg (by simp)] at hj;simp only [hself,if_true];exact hq o ho (fun t=>a.eval (.tmp t)) w hj hfacts
    ·simp only [getD_set_ne false giq]
     exact hstep i o hin giq ho (fun t=>a.eval (.tmp t)) w (listed.getD q false) (fun hb hip=>by have:=zn6 hpre inv hb _ i rfl hip;rw [getD_both hun] at this;cases this) ri.jn hfacts
   rw [<- ha] at hs;refine zdq ho (fun e a w he h=>by cases e <;> first | exact absurd rfl he | exact h) (fun a' w' h=>?_) hs;obtain⟨v,rfl,hv,hj1,hx⟩:=h;rw [g3];have hsz:d < a.tmps.size:=(by rw [ri.size];exact g3');refine ih _ _ _ (inv.set hi hin) hcnt ⟨by rw [zfu];exact ri.size,by rw [zfh];exact ri.defers,hj1,fun t ht=>?_,fun j t ht hl=>?_⟩
   ·rw [zc5 _ _ _ _ (fun e=>by subst e;rw [ht] at g3'';cases g3'')];exact ri.old t ht
   ·by_cases hdt:d=t
    ·subst hdt;obtain rfl:j=i:=Option.some.inj (ht.symm.trans g3'');rw [zer _ _ _ hsz];exact hv
    ·rw [zc5 _ _ _ _ hdt]
     have hji:i ≠ j:=fun e=>by subst e;have:=(zbs ht).2;rw [ho] at this;exact hdt (Option.some.inj (g3.symm.trans this))
     rw [getD_set_ne false hji] at hl;exact hR _ _ _ _ (ri.got j t ht hl) hx
inductive HF where
 |early (r:Value->World->Prop)
 |late (r:Value->World->Prop)
 |store
 |move (r:Value->World->Prop)
def HF.fact:HF->Value->World->Prop
 | .early r=>r
 | .late r=>r
 | .store=>fun _ _=>True
 | .move r=>r
def HF.isEarly:HF->Bool
 | .early _=>true
 | _=>false
def HF.isStore:HF->Bool
 | .store=>true
 | .move _=>true
 | _=>false
def zqu (Fs:List HF):List Nat:=(List.range Fs.length).filter fun i=>(Fs[i]?.map HF.isEarly).getD false
def nthF (Fs:List HF) (i:Nat):Value->World->Prop:=((Fs[i]?).map HF.fact).getD fun _ _=>True
def zxj (Fs:List HF) (q:Nat):Bool:=(List.range Fs.length).all fun i=>(Fs[i]?.map HF.isStore).getD false == decide (i=q)
def zd0 (P:Program) (ops:Array Oper) (n:Nat) (a0:Act) (J0 J1:World->Prop) (Mv:World->World->Prop) (R:Nat->Value->World->Prop):List Oper->List HF->Prop
 | o :: l,.early r :: rs=>(∀ (x:Nat->Value) (w:World),J0 w->za9 ops n a0 R x w (o.looksAt ops)->wpList P ops (zcc (zam a0.tmps.size a0.defers x) o.dst r (fun w'=>J0 w'/\Mv w w')) [o] (zam a0.tmps.size a0.defers x) w)/\zd0 P ops n a0 J0 J1 Mv R l rs
 | o :: l,.late r :: rs=>(∀ (x:Nat->Value) (w:World) (b:Bool),(if b=true then J1 w else J0 w)->za9 ops n a0 R x w (o.looksAt ops)->wpList P ops (zcc (zam a0.tmps.size a0.defers x) o.dst r (fun w'=>(if b=true then J1 w' else J0 w')/\Mv w w')) [o] (zam a0.tmps.size a0.defers x) w)/\zd0 P ops n a0 J0 J1 Mv R l rs
 | o :: l,.store :: rs=>(∀ (x:Nat->Value) (w:World),J0 w->za9 ops n a0 R x w (o.looksAt ops)->wpList P ops (zcc (zam a0.tmps.size a0.defers x) o.dst (fun _ _=>True) (fun w'=>J1 w'/\Mv w w')) [o] (zam a0.tmps.size a0.defers x) w)/\zd0 P ops n a0 J0 J1 Mv R l rs
 | o :: l,.move r :: rs=>(∀ (x:Nat->Value) (w:World),J0 w->za9 ops n a0 R x w (o.looksAt ops)->wpList P ops (zcc (zam a0.tmps.size a0.defers x) o.dst r (fun w'=>J1 w'/\Mv w w')) [o] (zam a0.tmps.size a0.defers x) w)/\zd0 P ops n a0 J0 J1 Mv R l rs
 | [],[]=>True
 | _,_=>False
def ztx (P:Program) (ops:Array Oper) (n:Nat) (a0:Act) (J0 J1:World->Prop) (Mv:World->World->Prop) (R:Nat->Value->World->Prop) (o:Oper):HF->Prop
 | .early r=>∀ (x:Nat->Value) (w:World),J0 w->za9 ops n a0 R x w (o.looksAt ops)->wpList P ops (zcc (zam a0.tmps.size a0.defers x) o.dst r (fun w'=>J0 w'/\Mv w w')) [o] (zam a0.tmps.size a0.defers x) w
 | .late r=>∀ (x:Nat->Value) (w:World) (b:Bool),(if b=true then J1 w else J0 w)->za9 ops n a0 R x w (o.looksAt ops)->wpList P ops (zcc (zam a0.tmps.size a0.defers x) o.dst r (fun w'=>(if b=true then J1 w' else J0 w')/\Mv w w')) [o] (zam a0.tmps.size a0.defers x) w
 | .store=>∀ (x:Nat->Value) (w:World),J0 w->za9 ops n a0 R x w (o.looksAt ops)->wpList P ops (zcc (zam a0.tmps.size a0.defers x) o.dst (fun _ _=>True) (fun w'=>J1 w'/\Mv w w')) [o] (zam a0.tmps.size a0.defers x) w
 | .move r=>∀ (x:Nat->Value) (w:World),J0 w->za9 ops n a0 R x w (o.looksAt ops)->wpList P ops (zcc (zam a0.tmps.size a0.defers x) o.dst r (fun w'=>J1 w'/\Mv w w')) [o] (zam a0.tmps.size a0.defers x) w
theorem zlt:∀ (l:List Oper) (rs:List HF),zd0 P ops n a0 J0 J1 Mv R l rs->∀ (i:Nat) (o:Oper),l[i]? = some o->∃ f,rs[i]? = some f/\ztx P ops n a0 J0 J1 Mv R o f
 | [],_,_,i,o,ho=>by simp at ho
 | p :: l,[],h,_,_,_=>h.elim
 | p :: l,r :: rs,h,0,o,ho=>by
  obtain rfl:p=o:=by simpa using ho
  refine ⟨r,rfl,?_⟩;cases r <;> exact h.1
 | p :: l,r :: rs,h,i+1,o,ho=>by
  have h2:zd0 P ops n a0 J0 J1 Mv R l rs:=by cases r <;> exact h.2
  obtain⟨f,hf,hs⟩:=zlt l rs h2 i o (by simpa using ho);exact⟨f,by simpa using hf,hs⟩
theorem zgl {id:Nat} {w0:World} {l:List Oper} (Fs:List HF) (q:Nat) (J0 J1:World->Prop) (Mv:World->World->Prop) (hm:P.follows .mixedOrders=true) (hB:zjg l.toArray Fs.length a0.tmps.size q (zqu Fs)=true) (hst:zxj Fs q=true)
  (hR:∀ f ∈ Fs,∀ v w w',f.fact v w->Mv w w'->f.fact v w') (hJ:J0 w0.drew)
  (hstep:zd0 P l.toArray Fs.length a0 J0 J1 Mv (nthF Fs) (l.take Fs.length) Fs)
  (hend:∀ (x:Nat->Value) (w:World),J1 w->za9 l.toArray Fs.length a0 (nthF Fs) x w ((l.take Fs.length).filterMap (·.dst))->wpList P l.toArray Q (l.drop Fs.length) (zav a0 x ((l.take Fs.length).filterMap (·.dst))) w) :
  (Code.region id l.toArray true).wp P Q a0 w0:=by
 refine wp_region_any hm ?_;obtain⟨h1,-,-,-,-,hqn,-⟩:=zf7 hB
 have hrep:cntU Fs.length (Array.replicate l.toArray.size false)=Fs.length:=by unfold cntU;rw [List.countP_eq_length.2 (fun i _=>by rw [getD_replicate_false];rfl)];exact List.length_range
 have hat:∀ i o,i < Fs.length->l[i]? = some o->∃ f,Fs[i]? = some f/\ztx P l.toArray Fs.length a0 J0 J1 Mv (nthF Fs) o f:=fun i o hi ho=>zlt _ _ hstep i o (by rw [List.getElem?_take_of_lt hi];exact ho)
 have hstore:∀ i f,Fs[i]? = some f->(f.isStore=true↔i=q):=fun i f hf=>by have hi:=(List.getElem?_eq_some_iff.1 hf).1;have:=List.all_eq_true.1 hst i (List.mem_range.2 hi);rw [hf] at this;simp only [Option.map_some,Option.getD_some,beq_iff_eq] at this;rw [this];simp
 have:=zur (P:=P) (Q:=Q) (J0:=J0) (J1:=J1) (Mv:=Mv) (R:=nthF Fs) hB (fun i v w w' h he=>by
   unfold nthF at h ⊢
   cases hf:Fs[i]? with
   | none=>simp
   | some f=>rw [hf] at h;exact hR f (List.mem_of_getElem? hf) v w w' h he)
  (fun i o hi hiq ho x w b hb hj hfacts=>by
   obtain⟨f,hf,hs⟩:=hat i o hi (by simpa using ho);have hr:nthF Fs i=f.fact:=(by unfold nthF;rw [hf];rfl);rw [hr]
   cases f with
   | early r =>
    have hb':b=false:=by
     cases b with
     | false=>rfl
     | true=>refine absurd ?_ (hb rfl);unfold zqu;rw [List.mem_filter];exact⟨List.mem_range.2 hi,by rw [hf];rfl⟩
    subst hb';exact hs x w hj (zbp _ hfacts)
   | late r=>exact hs x w b hj (zbp _ hfacts)
   | store=>exact absurd ((hstore i _ hf).1 rfl) hiq
   | move r=>exact absurd ((hstore i _ hf).1 rfl) hiq)
  (fun o ho x w hj hfacts=>by
   obtain⟨f,hf,hs⟩:=hat q o hqn (by simpa using ho);have:=(hstore q f hf).2 rfl;have hr:nthF Fs q=f.fact:=(by unfold nthF;rw [hf];rfl);rw [hr]
   cases f with
   | early r=>cases this
   | late r=>cases this
   | store=>exact hs x w hj (zbp _ hfacts)
   | move r=>exact hs x w hj (zbp _ hfacts))
  (fun x w hj h=>by rw [show l.toArray.toList=l by simp,zfd (fun t ht=>by have:=h t;unfold za8 at this;rw [ht] at this;exact this)];exact hend x w hj (zbp _ fun t _=>h t))
  Fs.length (Array.replicate l.toArray.size false) a0 { w0 with drawn:=w0.drawn+1 }
  ⟨by simp,fun j oj _ hl=>(by rw [getD_replicate_false] at hl;cases hl),fun t _ ht=>getD_in (by simpa using ht) (getD_replicate_false _ _)⟩ hrep
  ⟨rfl,rfl,by rw [getD_replicate_false];exact hJ,fun _ _=>rfl,fun j d _ hl=>(by rw [getD_replicate_false] at hl;cases hl)⟩
 rw [show Fs.length+(l.toArray.size - Fs.length)=l.toArray.size by omega] at this;exact this
end
section
variable {P:Program} {ops:Array Oper} {Q:Exit->Act->World->Prop}
variable {n N q:Nat} {a0:Act} {J0 J1:World->Prop} {R:Nat->Value->World->Prop} {Mn Mq:World->World->Prop} {pre:List Nat}
theorem zuz (hB:zjg ops n a0.tmps.size q pre=true) (hR:∀ i v w w',R i v w->Mn w w'->R i v w') (hRq:∀ i v w w',i ≠ q->R i v w->Mq w w'->R i v w')
  (hstep:∀ i o,i < n->i ≠ q->ops[i]? = some o->∀ (x:Nat->Value) (w:World) (b:Bool),(b=true->i ∉ pre)->(if b=true then J1 w else J0 w)->(∀ t ∈ o.looksAt ops,za8 ops n a0 R x w t) ->
   wpList P ops (zcc (zam a0.tmps.size a0.defers x) o.dst (R i) (fun w'=>(if b=true then J1 w' else J0 w')/\Mn w w')) [o] (zam a0.tmps.size a0.defers x) w)
  (hq:∀ o,ops[q]? = some o->∀ (x:Nat->Value) (w:World),J0 w->(∀ t ∈ o.looksAt ops,za8 ops n a0 R x w t) ->
   wpList P ops (zcc (zam a0.tmps.size a0.defers x) o.dst (R q) (fun w'=>J1 w'/\Mq w w')) [o] (zam a0.tmps.size a0.defers x) w)
  (hend:∀ (x:Nat->Value) (w:World),J1 w->(∀ t,za8 ops n a0 R x w t)->wpList P ops Q (ops.toList.drop n) (zam a0.tmps.size a0.defers x) w) :
  ∀ (k:Nat) (listed:Array Bool) (a:Act) (w:World),HeadInv .any ops n listed->cntU n listed=k->RInv2 ops n q a0 J0 J1 R listed a w->wpAny P .any ops Q (k+(ops.size - n)) listed a w:=by
 obtain⟨h1,h2,h3,h4,h5,hqn,hpre⟩:=zf7 hB;intro k
 induction k with
 | zero =>
  intro listed a w inv hc ri
  have hall:∀ i,i < n->listed.getD i false=true:=fun i hi=>by
   have:=List.countP_eq_zero.1 hc i (List.mem_range.2 hi)
   simpa using this
  have hcan:listed=zby n ops.size:=by
   apply Array.ext_getElem?
   intro i
   by_cases hi:i < ops.size
   ·have hil:i < listed.size:=by rw [inv.size];exact hi
    by_cases hin:i < n
    ·have:=hall i hin;simp [hil] at this;simp [zby,hi,hin,hil,this]
    ·have:=inv.tail i (by omega) hi;simp [hil] at this;simp [zby,hi,hin,hil,this]
   ·have hil:¬ i < listed.size:=(by rw [inv.size];exact hi);simp [zby,hi,hil]
  have hlen:(ops.toList.drop n).length=ops.size - n:=by simp
  have ha:=zdp a;rw [ri.size,ri.defers] at ha;have hj:=ri.jn;rw [if_pos (hall q hqn)] at hj
  have hw:wpList P ops Q (ops.toList.drop n) a w:=by
   rw [ha];refine hend _ w hj fun t=>?_
   unfold za8
   split
   ·rename_i hd;exact ri.old t hd
   ·rename_i j hd;exact ri.got j t hd (hall j (zbs hd).1)
  have:=wpAny_of_seq (md:=.any) (Q':=Q) (ops.toList.drop n) n listed a w (fun j=>by simp [List.getElem?_drop]) (by rw [hlen,hcan];exact h5) hw;rw [hlen] at this;rw [Nat.zero_add];exact this
 | succ k ih =>
  intro listed a w inv hc ri
  have hex:∃ i,i < n/\listed.getD i false=false:=by
   have:0 < cntU n listed:=by omega
   obtain⟨i,hi,hl⟩:=List.countP_pos_iff.1 this;exact⟨i,List.mem_range.1 hi,by simpa using hl⟩
  obtain⟨i0,hi0,hl0⟩:=hex;obtain⟨jr,hjr,hjr2⟩:=zls hB inv i0 hi0 hl0;rw [show k+1+(ops.size - n)=(k+(ops.size - n))+1 by omega];refine ⟨(fun h0=>(by rw [h0] at hjr2;cases hjr2)),fun i hi=>?_⟩
  have hin:i < n:=by
   rcases Nat.lt_or_ge i n with h | h
   ·exact h
   ·exact absurd hi (tail_waits h2 h3 h1 inv _ i0 rfl hi0 (getD_in (by rw [inv.size];omega) hl0) i h)
  obtain⟨hun,o,ho,hdeps⟩:=mem_ready.1 hi;obtain⟨g1,g2,g3,g4⟩:=zjh (h4 i o hin ho);have ha:=zdp a;rw [ri.size,ri.defers] at ha
  have hfacts:∀ t ∈ o.looksAt ops,za8 ops n a0 R (fun t=>a.eval (.tmp t)) w t:=fun t ht=>by
   unfold za8
   split
   ·rename_i hd;exact ri.old t hd
   ·rename_i j hd;refine ri.got j t hd ?_;obtain⟨o',ho',e,he,hb,hon⟩:=Region.waitsFor_spec (g4 t ht j hd);have:o'=o:=Option.some.inj (ho'.symm.trans ho);subst this;rw [<- hon];exact hdeps e he hb
  have hcnt:cntU n (listed.setIfInBounds i true)=k:=by
   have:=zf3 (fun j=>!listed.getD j false) (fun j=>!(listed.setIfInBounds i true).getD j false) i (by simpa using getD_both hun) (by have hlt:i < listed.size:=(by rw [inv.size];omega);simp [hlt]) (fun j hj=>by simp only [getD_set_ne false (Ne.symm hj)]) n hin
   unfold cntU at hc ⊢;omega
  have hself:(listed.setIfInBounds i true).getD i false=true:=by have hlt:i < listed.size:=(by rw [inv.size];omega);simp [hlt]
  rcases g3 with ⟨gd,rfl⟩ | ⟨d,g3,g3',g3''⟩
  ·have hj:=ri.jn;rw [getD_both hun,if_neg (by simp)] at hj;have hs:=hq o ho (fun t=>a.eval (.tmp t)) w hj hfacts;rw [<- ha] at hs;refine zdq ho (fun e a w he h=>by cases e <;> first | exact absurd rfl he | exact h) (fun a' w' h=>?_) hs;obtain⟨v,rfl,-,hj1,hx⟩:=h;rw [gd];refine ih _ _ _ (inv.set hi hin) hcnt ⟨ri.size,ri.defers,by rw [if_pos hself];exact hj1,ri.old,fun j t ht hl=>?_⟩
   have hji:i ≠ j:=fun e=>by subst e;have:=(zbs ht).2;rw [ho] at this;simp [gd] at this
   rw [getD_set_ne false hji] at hl;exact hRq _ _ _ _ (Ne.symm hji) (ri.got j t ht hl) hx
  ·obtain⟨M,hM,hs⟩:∃ M:World->Prop,(∀ w',M w'->(if (listed.setIfInBounds i true).getD q false=true then J1 w' else J0 w')/\(i ≠ q->Mn w w')/\(i=q->Mq w w')) /\
     wpList P ops (zcc (zam a0.tmps.size a0.defers (fun t=>a.eval (.tmp t))) o.dst (R i) M) [o] (zam a0.tmps.size a0.defers (fun t=>a.eval (.tmp t))) w:=by
    by_cases giq:i=q
    ·subst giq;have hj:=ri.jn;rw [getD_both hun,if_neg (by simp)] at hj;simp only [hself,if_true];exact⟨_,fun w' h=>⟨h.1,fun h2=>absurd rfl h2,fun _=>h.2⟩,hq o ho (fun t=>a.eval (.tmp t)) w hj hfacts⟩
    ·simp only [getD_set_ne false giq]
     exact⟨_,fun w' h=>⟨h.1,fun _=>h.2,fun h2=>absurd h2 giq⟩,hstep i o hin giq ho (fun t=>a.eval (.tmp t)) w (listed.getD q false) (fun hb hip=>by have:=zn6 hpre inv hb _ i rfl hip;rw [getD_both hun] at this;cases this) ri.jn hfacts⟩
   rw [<- ha] at hs;refine zdq ho (fun e a w he h=>by cases e <;> first | exact absurd rfl he | exact h) (fun a' w' h=>?_) hs;obtain⟨v,rfl,hv,hm⟩:=h;obtain⟨hj1,hxn,hxq⟩:=hM _ hm;rw [g3];have hsz:d < a.tmps.size:=(by rw [ri.size];exact g3');refine ih _ _ _ (inv.set hi hin) hcnt ⟨by rw [zfu];exact ri.size,by rw [zfh];exact ri.defers,hj1,fun t ht=>?_,fun j t ht hl=>?_⟩
   ·rw [zc5 _ _ _ _ (fun e=>by subst e;rw [ht] at g3'';cases g3'')];exact ri.old t ht
   ·by_cases hdt:d=t
    ·subst hdt;obtain rfl:j=i:=Option.some.inj (ht.symm.trans g3'');rw [zer _ _ _ hsz];exact hv
    ·rw [zc5 _ _ _ _ hdt]
     have hji:i ≠ j:=fun e=>by subst e;have:=(zbs ht).2;rw [ho] at this;exact hdt (Option.some.inj (g3.symm.trans this))
     rw [getD_set_ne false hji] at hl
     by_cases giq:i=q
     ·exact hRq _ _ _ _ (fun e=>hji (giq.trans e.symm)) (ri.got j t ht hl) (hxq giq)
     ·exact hR _ _ _ _ (ri.got j t ht hl) (hxn giq)
def zes (P:Program) (ops:Array Oper) (n:Nat) (a0:Act) (J0 J1:World->Prop) (Mn Mq:World->World->Prop) (R:Nat->Value->World->Prop):List Oper->List HF->Prop
 | o :: l,.early r :: rs=>(∀ (x:Nat->Value) (w:World),J0 w->za9 ops n a0 R x w (o.looksAt ops)->wpList P ops (zcc (zam a0.tmps.size a0.defers x) o.dst r (fun w'=>J0 w'/\Mn w w')) [o] (zam a0.tmps.size a0.defers x) w)/\zes P ops n a0 J0 J1 Mn Mq R l rs
 | o :: l,.late r :: rs=>(∀ (x:Nat->Value) (w:World) (b:Bool),(if b=true then J1 w else J0 w)->za9 ops n a0 R x w (o.looksAt ops)->wpList P ops (zcc (zam a0.tmps.size a0.defers x) o.dst r (fun w'=>(if b=true then J1 w' else J0 w')/\Mn w w')) [o] (zam a0.tmps.size a0.defers x) w)/\zes P ops n a0 J0 J1 Mn Mq R l rs
 | o :: l,.store :: rs=>(∀ (x:Nat->Value) (w:World),J0 w->za9 ops n a0 R x w (o.looksAt ops)->wpList P ops (zcc (zam a0.tmps.size a0.defers x) o.dst (fun _ _=>True) (fun w'=>J1 w'/\Mq w w')) [o] (zam a0.tmps.size a0.defers x) w)/\zes P ops n a0 J0 J1 Mn Mq R l rs
 | o :: l,.move r :: rs=>(∀ (x:Nat->Value) (w:World),J0 w->za9 ops n a0 R x w (o.looksAt ops)->wpList P ops (zcc (zam a0.tmps.size a0.defers x) o.dst r (fun w'=>J1 w'/\Mq w w')) [o] (zam a0.tmps.size a0.defers x) w)/\zes P ops n a0 J0 J1 Mn Mq R l rs
 | [],[]=>True
 | _,_=>False
def zty (P:Program) (ops:Array Oper) (n:Nat) (a0:Act) (J0 J1:World->Prop) (Mn Mq:World->World->Prop) (R:Nat->Value->World->Prop) (o:Oper):HF->Prop
 | .early r=>∀ (x:Nat->Value) (w:World),J0 w->za9 ops n a0 R x w (o.looksAt ops)->wpList P ops (zcc (zam a0.tmps.size a0.defers x) o.dst r (fun w'=>J0 w'/\Mn w w')) [o] (zam a0.tmps.size a0.defers x) w
 | .late r=>∀ (x:Nat->Value) (w:World) (b:Bool),(if b=true then J1 w else J0 w)->za9 ops n a0 R x w (o.looksAt ops)->wpList P ops (zcc (zam a0.tmps.size a0.defers x) o.dst r (fun w'=>(if b=true then J1 w' else J0 w')/\Mn w w')) [o] (zam a0.tmps.size a0.defers x) w
 | .store=>∀ (x:Nat->Value) (w:World),J0 w->za9 ops n a0 R x w (o.looksAt ops)->wpList P ops (zcc (zam a0.tmps.size a0.defers x) o.dst (fun _ _=>True) (fun w'=>J1 w'/\Mq w w')) [o] (zam a0.tmps.size a0.defers x) w
 | .move r=>∀ (x:Nat->Value) (w:World),J0 w->za9 ops n a0 R x w (o.looksAt ops)->wpList P ops (zcc (zam a0.tmps.size a0.defers x) o.dst r (fun w'=>J1 w'/\Mq w w')) [o] (zam a0.tmps.size a0.defers x) w
theorem zlz:∀ (l:List Oper) (rs:List HF),zes P ops n a0 J0 J1 Mn Mq R l rs->∀ (i:Nat) (o:Oper),l[i]? = some o->∃ f,rs[i]? = some f/\zty P ops n a0 J0 J1 Mn Mq R o f
 | [],_,_,i,o,ho=>by simp at ho
 | p :: l,[],h,_,_,_=>h.elim
 | p :: l,r :: rs,h,0,o,ho=>by
  obtain rfl:p=o:=by simpa using ho
  refine ⟨r,rfl,?_⟩;cases r <;> exact h.1
 | p :: l,r :: rs,h,i+1,o,ho=>by
  have h2:zes P ops n a0 J0 J1 Mn Mq R l rs:=by cases r <;> exact h.2
  obtain⟨f,hf,hs⟩:=zlz l rs h2 i o (by simpa using ho);exact⟨f,by simpa using hf,hs⟩
theorem zjj {id:Nat} {w0:World} {l:List Oper} (Fs:List HF) (q:Nat) (J0 J1:World->Prop) (Mn Mq:World->World->Prop) (hm:P.follows .mixedOrders=true) (hB:zjg l.toArray Fs.length a0.tmps.size q (zqu Fs)=true) (hst:zxj Fs q=true)
  (hR:∀ f ∈ Fs,∀ v w w',f.fact v w->Mn w w'->f.fact v w') (hRq:∀ f ∈ Fs,f.isStore=false->∀ v w w',f.fact v w->Mq w w'->f.fact v w') (hJ:J0 w0.drew)
  (hstep:zes P l.toArray Fs.length a0 J0 J1 Mn Mq (nthF Fs) (l.take Fs.length) Fs)
  (hend:∀ (x:Nat->Value) (w:World),J1 w->za9 l.toArray Fs.length a0 (nthF Fs) x w ((l.take Fs.length).filterMap (·.dst))->wpList P l.toArray Q (l.drop Fs.length) (zav a0 x ((l.take Fs.length).filterMap (·.dst))) w) :
  (Code.region id l.toArray true).wp P Q a0 w0:=by
 refine wp_region_any hm ?_;obtain⟨h1,-,-,-,-,hqn,-⟩:=zf7 hB
 have hrep:cntU Fs.length (Array.replicate l.toArray.size false)=Fs.length:=by unfold cntU;rw [List.countP_eq_length.2 (fun i _=>by rw [getD_replicate_false];rfl)];exact List.length_range
 have hat:∀ i o,i < Fs.length->l[i]? = some o->∃ f,Fs[i]? = some f/\zty P l.toArray Fs.length a0 J0 J1 Mn Mq (nthF Fs) o f:=fun i o hi ho=>zlz _ _ hstep i o (by rw [List.getElem?_take_of_lt hi];exact ho)
 have hstore:∀ i f,Fs[i]? = some f->(f.isStore=true↔i=q):=fun i f hf=>by have hi:=(List.getElem?_eq_some_iff.1 hf).1;have:=List.all_eq_true.1 hst i (List.mem_range.2 hi);rw [hf] at this;simp only [Option.map_some,Option.getD_some,beq_iff_eq] at this;rw [this];simp
 have:=zuz (P:=P) (Q:=Q) (J0:=J0) (J1:=J1) (Mn:=Mn) (Mq:=Mq) (R:=nthF Fs) hB (fun i v w w' h he=>by
   unfold nthF at h ⊢
   cases hf:Fs[i]? with
   | none=>simp
   | some f=>rw [hf] at h;exact hR f (List.mem_of_getElem? hf) v w w' h he)
  (fun i v w w' hiq h he=>by
   unfold nthF at h ⊢
   cases hf:Fs[i]? with
   | none=>simp
   | some f =>
    rw [hf] at h;refine hRq f (List.mem_of_getElem? hf) ?_ v w w' h he
    cases hs:f.isStore with
    | false=>rfl
    | true=>exact absurd ((hstore i f hf).1 hs) hiq)
  (fun i o hi hiq ho x w b hb hj hfacts=>by
   obtain⟨f,hf,hs⟩:=hat i o hi (by simpa using ho);have hr:nthF Fs i=f.fact:=(by unfold nthF;rw [hf];rfl);rw [hr]
   cases f with
   | early r =>
    have hb':b=false:=by
     cases b with
     | false=>rfl
     | true=>refine absurd ?_ (hb rfl);unfold zqu;rw [List.mem_filter];exact⟨List.mem_range.2 hi,by rw [hf];rfl⟩
    subst hb';exact hs x w hj (zbp _ hfacts)
   | late r=>exact hs x w b hj (zbp _ hfacts)
   | store=>exact absurd ((hstore i _ hf).1 rfl) hiq
   | move r=>exact absurd ((hstore i _ hf).1 rfl) hiq)
  (fun o ho x w hj hfacts=>by
   obtain⟨f,hf,hs⟩:=hat q o hqn (by simpa using ho);have:=(hstore q f hf).2 rfl;have hr:nthF Fs q=f.fact:=(by unfold nthF;rw [hf];rfl);rw [hr]
   cases f with
   | early r=>cases this
   | late r=>cases this
   | store=>exact hs x w hj (zbp _ hfacts)
   | move r=>exact hs x w hj (zbp _ hfacts))
  (fun x w hj h=>by rw [show l.toArray.toList=l by simp,zfd (fun t ht=>by have:=h t;unfold za8 at this;rw [ht] at this;exact this)];exact hend x w hj (zbp _ fun t _=>h t))
  Fs.length (Array.replicate l.toArray.size false) a0 { w0 with drawn:=w0.drawn+1 }
  ⟨by simp,fun j oj _ hl=>(by rw [getD_replicate_false] at hl;cases hl),fun t _ ht=>getD_in (by simpa using ht) (getD_replicate_false _ _)⟩ hrep
  ⟨rfl,rfl,by rw [getD_replicate_false];exact hJ,fun _ _=>rfl,fun j d _ hl=>(by rw [getD_replicate_false] at hl;cases hl)⟩
 rw [show Fs.length+(l.toArray.size - Fs.length)=l.toArray.size by omega] at this;exact this
end
section
variable {P:Program} {ops:Array Oper} {Q:Exit->Act->World->Prop}
variable {n:Nat} {a0:Act} {w0:World} {F:Nat->Option (Value->Prop)} {K:(Nat->Option Value)->World->Prop}
def zmk (ops:Array Oper) (n N i:Nat) (o:Oper):Bool :=
 (o.after.toList.all fun e=>!Region.binds .any e || decide (e.on < i)) && (match o.dst with | none=>true | some d=>decide (d < N) && (zbe ops n d == some i)) &&
  ((o.looksAt ops).all fun t=>match zbe ops n t with | none=>true | some j=>Region.waitsFor .any ops i j)
def zok (ops:Array Oper) (n N:Nat):Bool :=
 decide (n < ops.size) && Region.sinkB .any ops n && Region.chainB .any ops n && ((List.range n).all fun i=>match ops[i]? with | none=>false | some o=>zmk ops n N i o) &&
  Region.seqB .any ops (ops.size - n) n (zby n ops.size)
def zfo (st:Nat->Option Value) (i:Nat) (v:Value):Nat->Option Value:=fun j=>if j=i then some v else st j
theorem zb2 (st:Nat->Option Value) (i:Nat) (v:Value):zfo st i v i=some v:=if_pos rfl
theorem zah (st:Nat->Option Value) {i j:Nat} (v:Value) (h:j ≠ i):zfo st i v j=st j:=if_neg h
def zvf (A:Act) (dst:Option Tmp) (M:Value->World->Prop):Exit->Act->World->Prop
 | .normal,a',w'=>∃ v,a'=A.put dst v/\M v w'
 | _,_,_=>False
theorem za2 {A:Act} {dst:Option Tmp} {M:Value->World->Prop} {w':World} {v:Value} (hv:M v w'):zvf A dst M .normal (A.put dst v) w':=⟨v,rfl,hv⟩
def zev (ops:Array Oper) (n:Nat) (a0:Act) (F:Nat->Option (Value->Prop)) (st:Nat->Option Value) (x:Nat->Value) (t:Nat):Prop :=
 match zbe ops n t with
 | none=>x t=a0.eval (.tmp t)
 | some j=>match F j with
  | some r=>r (x t)
  | none=>st j=some (x t)
structure RInvS (ops:Array Oper) (n:Nat) (a0:Act) (w0:World) (F:Nat->Option (Value->Prop)) (K:(Nat->Option Value)->World->Prop) (listed:Array Bool) (a:Act) (w:World) (st:Nat->Option Value):Prop where
 size:a.tmps.size=a0.tmps.size
 defers:a.defers=a0.defers
 ext:Ext w0 w
 old:∀ t,zbe ops n t=none->a.eval (.tmp t)=a0.eval (.tmp t)
 got:∀ i d,zbe ops n d=some i->listed.getD i false=true->zev ops n a0 F st (fun t=>a.eval (.tmp t)) d
 off:∀ i,listed.getD i false=false->st i=none
 on:∀ i,i < n->F i=none->listed.getD i false=true->st i ≠ none
 k:K st w
theorem zk4 {N:Nat} (h:zok ops n N=true):n < ops.size/\Region.sinkB .any ops n=true/\Region.chainB .any ops n=true/\(∀ i o,i < n->ops[i]? = some o->zmk ops n N i o=true)/\Region.seqB .any ops (ops.size - n) n (zby n ops.size)=true:=by
 simp only [zok,Bool.and_eq_true,decide_eq_true_eq,List.all_eq_true,List.mem_range] at h;obtain⟨⟨⟨⟨h1,h2⟩,h3⟩,h4⟩,h5⟩:=h;exact⟨h1,h2,h3,fun i o hi ho=>by have:=h4 i hi;rw [ho] at this;exact this,h5⟩
theorem zl8 {N i:Nat} {o:Oper} (h:zmk ops n N i o=true):(∀ e ∈ o.after,Region.binds .any e=true->e.on < i)/\(o.dst=none ∨ ∃ d,o.dst=some d/\d < N/\zbe ops n d=some i) /\
  (∀ t ∈ o.looksAt ops,∀ j,zbe ops n t=some j->Region.waitsFor .any ops i j=true):=by
 simp only [zmk,Bool.and_eq_true,List.all_eq_true] at h;obtain⟨⟨h2,h3⟩,h4⟩:=h;refine ⟨fun e he hb=>?_,?_,fun t ht j hj=>?_⟩
 ·have:=h2 e (by simpa using he)
  simpa [hb] using this
 ·cases hd:o.dst with
  | none=>exact .inl rfl
  | some d=>rw [hd] at h3;simp at h3;exact .inr ⟨d,rfl,h3⟩
 ·have:=h4 t ht;rw [hj] at this;exact this
theorem zr0 {N:Nat} (hB:zok ops n N=true) {listed:Array Bool} (inv:HeadInv .any ops n listed):∀ i,i < n->listed.getD i false=false->∃ j,j < n/\j ∈ Region.ready .any ops listed:=by
 obtain⟨h1,h2,h3,h4,h5⟩:=zk4 hB;intro i
 induction i using Nat.strongRecOn with
 | _ i ih =>
  intro hi hl;have hio:i < ops.size:=by omega
  have hoi:ops[i]? = some ops[i]:=by simp [hio]
  obtain⟨g2,g3,g4⟩:=zl8 (h4 i _ hi hoi)
  by_cases hall:∀ e ∈ (ops[i]).after,Region.binds .any e=true->listed.getD e.on false=true
  ·refine ⟨i,hi,mem_ready.2 ⟨?_,_,hoi,hall⟩⟩;exact getD_in (by rw [inv.size];omega) hl
  ·simp only [Classical.not_forall] at hall;obtain⟨e,he,hb,hne⟩:=hall;have:=g2 e he hb;exact ih e.on this (by omega) (by simpa using hne)
theorem zl9 {st st':Nat->Option Value} {x x':Nat->Value} {t:Nat} (hx:x' t=x t) (hst:∀ j,zbe ops n t=some j->F j=none->st' j=st j) (h:zev ops n a0 F st x t):zev ops n a0 F st' x' t:=by
 unfold zev at h ⊢;rw [hx]
 split
 ·rename_i hd;rw [hd] at h;exact h
 ·rename_i j hd;rw [hd] at h;simp only at h ⊢
  split
  ·rename_i r hr;rw [hr] at h;exact h
  ·rename_i hr;rw [hr] at h;rw [hst j hd hr];exact h
theorem zvg (hB:zok ops n a0.tmps.size=true) (hK:∀ st w w',K st w->Ext w w'->K st w')
  (hstep:∀ i o r,i < n->ops[i]? = some o->F i=some r->∀ (x:Nat->Value) (w:World) (st:Nat->Option Value),Ext w0 w->K st w->(∀ t ∈ o.looksAt ops,zev ops n a0 F st x t) ->
   wpList P ops (zhx (zam a0.tmps.size a0.defers x) o.dst (fun v _=>r v) w) [o] (zam a0.tmps.size a0.defers x) w)
  (hsp:∀ i o,i < n->ops[i]? = some o->F i=none->∀ (x:Nat->Value) (w:World) (st:Nat->Option Value),Ext w0 w->K st w->st i=none->(∀ t ∈ o.looksAt ops,zev ops n a0 F st x t) ->
   wpList P ops (zvf (zam a0.tmps.size a0.defers x) o.dst (fun v w'=>K (zfo st i v) w'/\Ext w0 w')) [o] (zam a0.tmps.size a0.defers x) w)
  (hend:∀ (x:Nat->Value) (w:World) (st:Nat->Option Value),Ext w0 w->K st w->(∀ i,i < n->F i=none->st i ≠ none)->(∀ t,zev ops n a0 F st x t)->wpList P ops Q (ops.toList.drop n) (zam a0.tmps.size a0.defers x) w) :
  ∀ (k:Nat) (listed:Array Bool) (a:Act) (w:World),HeadInv .any ops n listed->cntU n listed=k->(∃ st,RInvS ops n a0 w0 F K listed a w st)->wpAny P .any ops Q (k+(ops.size - n)) listed a w:=by
 obtain⟨h1,h2,h3,h4,h5⟩:=zk4 hB;intro k
 induction k with
 | zero =>
  intro listed a w inv hc ⟨st,ri⟩
  have hall:∀ i,i < n->listed.getD i false=true:=fun i hi=>by
   have:=List.countP_eq_zero.1 hc i (List.mem_range.2 hi)
   simpa using this
  have hcan:listed=zby n ops.size:=by
   apply Array.ext_getElem?
   intro i
   by_cases hi:i < ops.size
   ·have hil:i < listed.size:=by rw [inv.size];exact hi
    by_cases hin:i < n
    ·have:=hall i hin;simp [hil] at this;simp [zby,hi,hin,hil,this]
    ·have:=inv.tail i (by omega) hi;simp [hil] at this;simp [zby,hi,hin,hil,this]
   ·have hil:¬ i < listed.size:=(by rw [inv.size];exact hi);simp [zby,hi,hil]
  have hlen:(ops.toList.drop n).length=ops.size - n:=by simp
  have ha:=zdp a;rw [ri.size,ri.defers] at ha
  have hw:wpList P ops Q (ops.toList.drop n) a w:=by
   rw [ha];refine hend _ w st ri.ext ri.k (fun i hi hf=>ri.on i hi hf (hall i hi)) fun t=>?_
   cases hd:zbe ops n t with
   | none=>unfold zev;rw [hd];exact ri.old t hd
   | some j=>exact ri.got j t hd (hall j (zbs hd).1)
  have:=wpAny_of_seq (md:=.any) (Q':=Q) (ops.toList.drop n) n listed a w (fun j=>by simp [List.getElem?_drop]) (by rw [hlen,hcan];exact h5) hw;rw [hlen] at this;rw [Nat.zero_add];exact this
 | succ k ih =>
  intro listed a w inv hc ⟨st,ri⟩
  have hex:∃ i,i < n/\listed.getD i false=false:=by
   have:0 < cntU n listed:=by omega
   obtain⟨i,hi,hl⟩:=List.countP_pos_iff.1 this;exact⟨i,List.mem_range.1 hi,by simpa using hl⟩
  obtain⟨i0,hi0,hl0⟩:=hex;obtain⟨jr,hjr,hjr2⟩:=zr0 hB inv i0 hi0 hl0;rw [show k+1+(ops.size - n)=(k+(ops.size - n))+1 by omega];refine ⟨(fun h0=>(by rw [h0] at hjr2;cases hjr2)),fun i hi=>?_⟩
  have hin:i < n:=by
   rcases Nat.lt_or_ge i n with h | h
   ·exact h
   ·exact absurd hi (tail_waits h2 h3 h1 inv _ i0 rfl hi0 (getD_in (by rw [inv.size];omega) hl0) i h)
  obtain⟨hun,o,ho,hdeps⟩:=mem_ready.1 hi;obtain⟨g2,g3,g4⟩:=zl8 (h4 i o hin ho);have ha:=zdp a;rw [ri.size,ri.defers] at ha
  have hfacts:∀ t ∈ o.looksAt ops,zev ops n a0 F st (fun t=>a.eval (.tmp t)) t:=fun t ht=>by
   cases hd:zbe ops n t with
   | none=>unfold zev;rw [hd];exact ri.old t hd
   | some j=>refine ri.got j t hd ?_;obtain⟨o',ho',e,he,hb,hon⟩:=Region.waitsFor_spec (g4 t ht j hd);have:o'=o:=Option.some.inj (ho'.symm.trans ho);subst this;rw [<- hon];exact hdeps e he hb
  have hcnt:cntU n (listed.setIfInBounds i true)=k:=by
   have:=zf3 (fun j=>!listed.getD j false) (fun j=>!(listed.setIfInBounds i true).getD j false) i (by simpa using getD_both hun) (by have hlt:i < listed.size:=(by rw [inv.size];omega);simp [hlt]) (fun j hj=>by simp only [getD_set_ne false (Ne.symm hj)]) n hin
   unfold cntU at hc ⊢;omega
  have hself:(listed.setIfInBounds i true).getD i false=true:=by have hlt:i < listed.size:=(by rw [inv.size];omega);simp [hlt]
  have cont:∀ (v:Value) (w':World) (st':Nat->Option Value),K st' w'->(∀ j,j ≠ i->st' j=st j)->(match F i with | some r=>r v/\st' i=none | none=>st' i=some v)->Ext w0 w'->wpAny P .any ops Q (k+(ops.size - n)) (listed.setIfInBounds i true) (a.put o.dst v) w':=by
   intro v w' st' hk' hst' hv hx
   have hoff:∀ j,(listed.setIfInBounds i true).getD j false=false->st' j=none:=fun j hl=>by
    have hji:j ≠ i:=fun e=>by subst e;rw [hself] at hl;cases hl
    rw [hst' j hji];rw [getD_set_ne false (Ne.symm hji)] at hl;exact ri.off j hl
   have hon:∀ j,j < n->F j=none->(listed.setIfInBounds i true).getD j false=true->st' j ≠ none:=fun j hj hf hl=>by
    by_cases hji:j=i
    ·subst hji;rw [hf] at hv;simp only at hv;rw [hv];simp
    ·rw [hst' j hji];rw [getD_set_ne false (Ne.symm hji)] at hl;exact ri.on j hj hf hl
   rcases g3 with gd | ⟨d,g3,g3',g3''⟩
   ·rw [gd];refine ih _ _ _ (inv.set hi hin) hcnt ⟨st',ri.size,ri.defers,hx,ri.old,fun j t ht hl=>?_,hoff,hon,hk'⟩
    have hji:j ≠ i:=fun e=>by subst e;have:=(zbs ht).2;rw [ho] at this;simp [gd] at this
    rw [getD_set_ne false (Ne.symm hji)] at hl;exact zl9 rfl (fun k hk _=>by rw [ht] at hk;cases hk;exact hst' j hji) (ri.got j t ht hl)
   ·rw [g3];have hsz:d < a.tmps.size:=(by rw [ri.size];exact g3');refine ih _ _ _ (inv.set hi hin) hcnt ⟨st',by rw [zfu];exact ri.size,by rw [zfh];exact ri.defers,hx,fun t ht=>?_,fun j t ht hl=>?_,hoff,hon,hk'⟩
    ·rw [zc5 _ _ _ _ (fun e=>by subst e;rw [ht] at g3'';cases g3'')];exact ri.old t ht
    ·by_cases hdt:d=t
     ·subst hdt;obtain rfl:j=i:=Option.some.inj (ht.symm.trans g3'');unfold zev;rw [ht];simp only;rw [zer _ _ _ hsz]
      split
      ·rename_i r hr;rw [hr] at hv;exact hv.1
      ·rename_i hr;rw [hr] at hv;exact hv
     ·have hji:j ≠ i:=fun e=>by
       subst e;have:=(zbs ht).2;rw [ho] at this;exact hdt (Option.some.inj (g3.symm.trans this))
      rw [getD_set_ne false (Ne.symm hji)] at hl;exact zl9 (zc5 _ _ _ _ hdt) (fun k hk _=>by rw [ht] at hk;cases hk;exact hst' j hji) (ri.got j t ht hl)
  cases hF:F i with
  | some r=>rw [hF] at cont;have hs:=hstep i o r hin ho hF (fun t=>a.eval (.tmp t)) w st ri.ext ri.k hfacts;rw [<- ha] at hs;refine zdq ho (fun e a w he h=>by cases e <;> first | exact absurd rfl he | exact h) (fun a' w' h=>?_) hs;obtain⟨v,rfl,h2,h3⟩:=h;exact cont v w' st (hK _ _ _ ri.k h3) (fun _ _=>rfl) ⟨h2,ri.off i (getD_both hun)⟩ (ri.ext.trans h3)
  | none=>rw [hF] at cont;have hs:=hsp i o hin ho hF (fun t=>a.eval (.tmp t)) w st ri.ext ri.k (ri.off i (getD_both hun)) hfacts;rw [<- ha] at hs;refine zdq ho (fun e a w he h=>by cases e <;> first | exact absurd rfl he | exact h) (fun a' w' h=>?_) hs;obtain⟨v,rfl,h2,h3⟩:=h;exact cont v w' (zfo st i v) h2 (fun j hj=>zah st v hj) (zb2 st i v) h3
def zkg (ops:Array Oper) (n:Nat) (a0:Act) (F:Nat->Option (Value->Prop)) (st:Nat->Option Value) (x:Nat->Value):List Tmp->Prop
 | []=>True
 | t :: l=>zev ops n a0 F st x t/\zkg ops n a0 F st x l
theorem ziu {st:Nat->Option Value} {x:Nat->Value}:∀ l:List Tmp,(∀ t ∈ l,zev ops n a0 F st x t)->zkg ops n a0 F st x l
 | [],_=>trivial
 | t :: l,h=>⟨h t (by simp),ziu l fun s hs=>h s (by simp [hs])⟩
def nthS (Fs:List (Option (Value->Prop))) (i:Nat):Option (Value->Prop):=Fs.getD i none
def zf6 (P:Program) (ops:Array Oper) (n:Nat) (a0:Act) (w0:World) (F:Nat->Option (Value->Prop)) (K:(Nat->Option Value)->World->Prop) (i:Nat) (o:Oper):Option (Value->Prop)->Prop
 | some r=>∀ (x:Nat->Value) (w:World) (st:Nat->Option Value),Ext w0 w->K st w->zkg ops n a0 F st x (o.looksAt ops)->wpList P ops (zhx (zam a0.tmps.size a0.defers x) o.dst (fun v _=>r v) w) [o] (zam a0.tmps.size a0.defers x) w
 | none=>∀ (x:Nat->Value) (w:World) (st:Nat->Option Value),Ext w0 w->K st w->st i=none->zkg ops n a0 F st x (o.looksAt ops)->wpList P ops (zvf (zam a0.tmps.size a0.defers x) o.dst (fun v w'=>K (zfo st i v) w'/\Ext w0 w')) [o] (zam a0.tmps.size a0.defers x) w
def zew (P:Program) (ops:Array Oper) (n:Nat) (a0:Act) (w0:World) (F:Nat->Option (Value->Prop)) (K:(Nat->Option Value)->World->Prop):Nat->List Oper->List (Option (Value->Prop))->Prop
 | i,o :: l,f :: fs=>zf6 P ops n a0 w0 F K i o f/\zew P ops n a0 w0 F K (i+1) l fs
 | _,[],[]=>True
 | _,_,_=>False
theorem zma:∀ (l:List Oper) (fs:List (Option (Value->Prop))) (k:Nat),zew P ops n a0 w0 F K k l fs->∀ (i:Nat) (o:Oper),l[i]? = some o->zf6 P ops n a0 w0 F K (k+i) o (nthS fs i)
 | [],_,_,_,i,o,ho=>by simp at ho
 | p :: l,[],_,h,_,_,_=>h.elim
 | p :: l,r :: rs,k,h,0,o,ho=>by
  obtain rfl:p=o:=by simpa using ho
  exact h.1
 | p :: l,r :: rs,k,h,i+1,o,ho=>by
  have:=zma l rs (k+1) h.2 i o (by simpa using ho);rw [show k+(i+1)=k+1+i by omega]
  simpa [nthS] using this
theorem zc7 {id:Nat} {l:List Oper} (Fs:List (Option (Value->Prop))) (K:(Nat->Option Value)->World->Prop) (hm:P.follows .mixedOrders=true) (hB:zok l.toArray Fs.length a0.tmps.size=true) (hK:∀ st w w',K st w->Ext w w'->K st w')
  (h0:K (fun _=>none) w0.drew)
  (hstep:zew P l.toArray Fs.length a0 w0 (nthS Fs) K 0 (l.take Fs.length) Fs)
  (hend:∀ (x:Nat->Value) (w:World) (st:Nat->Option Value),Ext w0 w->K st w->(∀ i,i < Fs.length->nthS Fs i=none->st i ≠ none)->zkg l.toArray Fs.length a0 (nthS Fs) st x ((l.take Fs.length).filterMap (·.dst))->wpList P l.toArray Q (l.drop Fs.length) (zav a0 x ((l.take Fs.length).filterMap (·.dst))) w) :
  (Code.region id l.toArray true).wp P Q a0 w0:=by
 refine wp_region_any hm ?_;have h1:=(zk4 hB).1
 have hrep:cntU Fs.length (Array.replicate l.toArray.size false)=Fs.length:=by unfold cntU;rw [List.countP_eq_length.2 (fun i _=>by rw [getD_replicate_false];rfl)];exact List.length_range
 have hat:∀ i o,i < Fs.length->l[i]? = some o->zf6 P l.toArray Fs.length a0 w0 (nthS Fs) K i o (nthS Fs i):=fun i o hi ho=>by
  have:=zma _ _ 0 hstep i o (by rw [List.getElem?_take_of_lt hi];exact ho)
  rwa [Nat.zero_add] at this
 have:=zvg (P:=P) (Q:=Q) (w0:=w0) (F:=nthS Fs) (K:=K) hB hK
  (fun i o r hi ho hr x w st he hk hf=>by have h:=hat i o hi (by simpa using ho);rw [hr] at h;exact h x w st he hk (ziu _ hf))
  (fun i o hi ho hr x w st he hk hn hf=>by have h:=hat i o hi (by simpa using ho);rw [hr] at h;exact h x w st he hk hn (ziu _ hf))
  (fun x w st he hk hn h=>by rw [show l.toArray.toList=l by simp,zfd (fun t ht=>by have:=h t;unfold zev at this;rw [ht] at this;exact this)];exact hend x w st he hk hn (ziu _ fun t _=>h t))
  Fs.length (Array.replicate l.toArray.size false) a0 { w0 with drawn:=w0.drawn+1 }
  ⟨by simp,fun j oj _ hl=>(by rw [getD_replicate_false] at hl;cases hl),fun t _ ht=>getD_in (by simpa using ht) (getD_replicate_false _ _)⟩ hrep
  ⟨fun _=>none,rfl,rfl,(Ext.refl w0).drew,fun _ _=>rfl,fun j d _ hl=>(by rw [getD_replicate_false] at hl;cases hl),fun _ _=>rfl,fun j _ _ hl=>(by rw [getD_replicate_false] at hl;cases hl),h0⟩
 rw [show Fs.length+(l.toArray.size - Fs.length)=l.toArray.size by omega] at this;exact this
end
def BoxK (N0 T:Nat) (zs:List Value) (C:List Value->(Nat->Prop)->World->Prop) (tup ag:List Value->Value) (i1 i2 i3 i4 i5:Nat) (st:Nat->Option Value) (w:World):Prop :=
 ∃ xs lo hi g,(∀ v,st i1=some v->v=tup xs/\N0<=lo/\hi<=w.heap.size/\C xs (fun b=>lo<=b/\b < hi) w) /\
  (∀ v,st i2=some v->st i1 ≠ none/\v=tup xs)/\(∀ v,st i3=some v->st i1 ≠ none/\v=ag xs) /\
  (∀ v,st i4=some v->v=.pointer (some ⟨g,0,none⟩)/\N0<=g/\g < w.heap.size/\(st i1 ≠ none->¬ (lo<=g/\g < hi))/\(st i5=none->RowIs w g T zs [])) /\
  (st i5 ≠ none->st i1 ≠ none/\st i4 ≠ none/\RowIs w g T xs [])
section
variable {N0 T:Nat} {zs:List Value} {C:List Value->(Nat->Prop)->World->Prop} {tup ag:List Value->Value} {i1 i2 i3 i4 i5:Nat} {st:Nat->Option Value} {w w':World}
theorem BoxK.start (w:World):BoxK N0 T zs C tup ag i1 i2 i3 i4 i5 (fun _=>Option.none) w:=⟨[],0,0,0,by simp,by simp,by simp,by simp,by simp⟩
theorem BoxK.ext (hC:∀ xs S w w',C xs S w->(∀ b,S b->b < w.heap.size->w'.heap[b]? = w.heap[b]?)->C xs S w') (h:BoxK N0 T zs C tup ag i1 i2 i3 i4 i5 st w) (he:Ext w w'):BoxK N0 T zs C tup ag i1 i2 i3 i4 i5 st w':=by
 obtain⟨xs,lo,hi,g,h1,h2,h3,h4,h5⟩:=h;refine ⟨xs,lo,hi,g,fun v hv=>?_,h2,h3,fun v hv=>?_,fun hn=>?_⟩
 ·obtain⟨k1,k2,k3,k4⟩:=h1 v hv;exact⟨k1,k2,Nat.le_trans k3 he.size,hC _ _ _ _ k4 fun b _ hb=>he.block b hb⟩
 ·obtain⟨k1,k2,k3,k4,k5⟩:=h4 v hv;exact⟨k1,k2,Nat.lt_of_lt_of_le k3 he.size,k4,fun hn=>(k5 hn).ext he⟩
 ·obtain⟨k1,k2,k3⟩:=h5 hn;exact⟨k1,k2,k3.ext he⟩
theorem BoxK.call {xs:List Value} (hd:i2 ≠ i1/\i3 ≠ i1/\i4 ≠ i1/\i5 ≠ i1) (h:BoxK N0 T zs C tup ag i1 i2 i3 i4 i5 st w) (h0:st i1=Option.none) (hx:Ext w w') (hN:N0<=w.heap.size) (hc:C xs (fun b=>w.heap.size<=b/\b < w'.heap.size) w'):BoxK N0 T zs C tup ag i1 i2 i3 i4 i5 (zfo st i1 (tup xs)) w':=by
 obtain⟨xs0,lo,hi,g,h1,h2,h3,h4,h5⟩:=h;obtain⟨d1,d2,d3,d4⟩:=hd;refine ⟨xs,w.heap.size,w'.heap.size,g,fun v hv=>?_,fun v hv=>?_,fun v hv=>?_,fun v hv=>?_,fun hn=>?_⟩
 ·rw [zb2] at hv;cases hv;exact⟨rfl,hN,Nat.le_refl _,hc⟩
 ·rw [zah st _ d1] at hv;exact absurd h0 (h2 v hv).1
 ·rw [zah st _ d2] at hv;exact absurd h0 (h3 v hv).1
 ·rw [zah st _ d3] at hv;obtain⟨k1,k2,k3,-,k5⟩:=h4 v hv;exact⟨k1,k2,Nat.lt_of_lt_of_le k3 hx.size,fun _ h=>by omega,fun hn=>(k5 (by rwa [zah st _ d4] at hn)).ext hx⟩
 ·rw [zah st _ d4] at hn;exact absurd h0 (h5 hn).1
theorem BoxK.move {v:Value} (hd:i1 ≠ i2/\i3 ≠ i2/\i4 ≠ i2/\i5 ≠ i2) (h:BoxK N0 T zs C tup ag i1 i2 i3 i4 i5 st w) (hv:st i1=some v):BoxK N0 T zs C tup ag i1 i2 i3 i4 i5 (zfo st i2 v) w:=by
 obtain⟨xs,lo,hi,g,h1,h2,h3,h4,h5⟩:=h;obtain⟨d1,d2,d3,d4⟩:=hd;refine ⟨xs,lo,hi,g,fun u hu=>h1 u (by rwa [zah st _ d1] at hu),fun u hu=>?_,fun u hu=>?_,fun u hu=>?_,fun hn=>?_⟩
 ·rw [zb2] at hu;cases hu;rw [zah st _ d1,hv];exact⟨by simp,(h1 v hv).1⟩
 ·rw [zah st _ d2] at hu;rw [zah st _ d1];exact h3 u hu
 ·rw [zah st _ d3] at hu;rw [zah st _ d1,zah st _ d4];exact h4 u hu
 ·rw [zah st _ d4] at hn;rw [zah st _ d1,zah st _ d3];exact h5 hn
theorem BoxK.part {v:Value} (hd:i1 ≠ i3/\i2 ≠ i3/\i4 ≠ i3/\i5 ≠ i3) (h:BoxK N0 T zs C tup ag i1 i2 i3 i4 i5 st w) (hv:st i2=some v):∃ xs S,v=tup xs/\C xs S w/\BoxK N0 T zs C tup ag i1 i2 i3 i4 i5 (zfo st i3 (ag xs)) w:=by
 obtain⟨xs,lo,hi,g,h1,h2,h3,h4,h5⟩:=h;obtain⟨d1,d2,d3,d4⟩:=hd;obtain⟨k1,k2⟩:=h2 v hv;obtain⟨v1,hv1⟩:=Option.ne_none_iff_exists'.1 k1;refine ⟨xs,_,k2,(h1 v1 hv1).2.2.2,xs,lo,hi,g,fun u hu=>h1 u (by rwa [zah st _ d1] at hu),fun u hu=>?_,fun u hu=>?_,fun u hu=>?_,fun hn=>?_⟩
 ·rw [zah st _ d2] at hu;rw [zah st _ d1];exact h2 u hu
 ·rw [zb2] at hu;cases hu;rw [zah st _ d1];exact⟨k1,rfl⟩
 ·rw [zah st _ d3] at hu;rw [zah st _ d1,zah st _ d4];exact h4 u hu
 ·rw [zah st _ d4] at hn;rw [zah st _ d1,zah st _ d3];exact h5 hn
theorem BoxK.alloc (hC:∀ xs S w w',C xs S w->(∀ b,S b->b < w.heap.size->w'.heap[b]? = w.heap[b]?)->C xs S w') (hd:i1 ≠ i4/\i2 ≠ i4/\i3 ≠ i4/\i5 ≠ i4) (h:BoxK N0 T zs C tup ag i1 i2 i3 i4 i5 st w) (h0:st i4=Option.none) (hN:N0<=w.heap.size):BoxK N0 T zs C tup ag i1 i2 i3 i4 i5 (zfo st i4 (.pointer (some ⟨w.heap.size,0,Option.none⟩))) (w.alloc (.cells zs.toArray T)):=by
 have hx:=(Ext.refl w).alloc (.cells zs.toArray T);obtain⟨xs,lo,hi,g,h1,h2,h3,h4,h5⟩:=h;obtain⟨d1,d2,d3,d4⟩:=hd;have h50:st i5=Option.none:=Classical.byContradiction fun hn=>(h5 hn).2.1 h0
 refine ⟨xs,lo,hi,w.heap.size,fun u hu=>?_,fun u hu=>?_,fun u hu=>?_,fun u hu=>?_,fun hn=>?_⟩
 ·rw [zah st _ d1] at hu;obtain⟨k1,k2,k3,k4⟩:=h1 u hu;exact⟨k1,k2,Nat.le_trans k3 hx.size,hC _ _ _ _ k4 fun b _ hb=>hx.block b hb⟩
 ·rw [zah st _ d2] at hu;rw [zah st _ d1];exact h2 u hu
 ·rw [zah st _ d3] at hu;rw [zah st _ d1];exact h3 u hu
 ·rw [zb2] at hu;cases hu;refine ⟨rfl,hN,by simp,fun hn=>?_,fun _=>by unfold RowIs;rw [List.append_nil];exact Go.heap_alloc_new w _⟩;rw [zah st _ d1] at hn;obtain⟨v1,hv1⟩:=Option.ne_none_iff_exists'.1 hn;have:=(h1 v1 hv1).2.2.1;omega
 ·rw [zah st _ d4,h50] at hn;exact absurd rfl hn
theorem BoxK.store {v3 v4:Value} (hC:∀ xs S w w',C xs S w->(∀ b,S b->b < w.heap.size->w'.heap[b]? = w.heap[b]?)->C xs S w') (hd:i1 ≠ i5/\i2 ≠ i5/\i3 ≠ i5/\i4 ≠ i5) (h:BoxK N0 T zs C tup ag i1 i2 i3 i4 i5 st w) (h3:st i3=some v3) (h4:st i4=some v4) (h0:st i5=Option.none) :
  ∃ xs S g,v3=ag xs/\v4=.pointer (some ⟨g,0,Option.none⟩)/\N0<=g/\RowIs w g T zs []/\C xs S w/\∀ w' u,RowIs w' g T xs []->w.heap.size<=w'.heap.size->(∀ b,b ≠ g->w'.heap[b]? = w.heap[b]?)->BoxK N0 T zs C tup ag i1 i2 i3 i4 i5 (zfo st i5 u) w':=by
 obtain⟨xs,lo,hi,g,k1,k2,k3,k4,k5⟩:=h;obtain⟨d1,d2,d3,d4⟩:=hd;obtain⟨n1,e3⟩:=k3 v3 h3;obtain⟨v1,hv1⟩:=Option.ne_none_iff_exists'.1 n1;obtain⟨e4,l1,l2,l3,l4⟩:=k4 v4 h4;have hc:=(k1 v1 hv1).2.2.2;refine ⟨xs,_,g,e3,e4,l1,l4 h0,hc,fun w' u hr hz hs=>?_⟩;refine ⟨xs,lo,hi,g,fun u hu=>?_,fun u hu=>?_,fun u hu=>?_,fun u hu=>?_,fun hn=>?_⟩
 ·rw [zah st _ d1] at hu;obtain⟨m1,m2,m3,m4⟩:=k1 u hu;exact⟨m1,m2,Nat.le_trans m3 hz,hC _ _ _ _ m4 fun b hb _=>hs b fun e=>l3 n1 (e ▸ hb)⟩
 ·rw [zah st _ d2] at hu;rw [zah st _ d1];exact k2 u hu
 ·rw [zah st _ d3] at hu;rw [zah st _ d1];exact k3 u hu
 ·rw [zah st _ d4] at hu;rw [zah st _ d1];obtain⟨m1,m2,m3,m4,m5⟩:=k4 u hu;exact⟨m1,m2,Nat.lt_of_lt_of_le m3 hz,m4,fun hn=>by rw [zb2] at hn;cases hn⟩
 ·rw [zah st _ d1,zah st _ d4];exact⟨n1,by rw [h4];simp,hr⟩
theorem BoxK.done {v4:Value} (h:BoxK N0 T zs C tup ag i1 i2 i3 i4 i5 st w) (h4:st i4=some v4) (h5:st i5 ≠ Option.none) :
  ∃ xs S g,v4=.pointer (some ⟨g,0,Option.none⟩)/\N0<=g/\RowIs w g T xs []/\C xs S w/\¬ S g:=by
 obtain⟨xs,lo,hi,g,k1,k2,k3,k4,k5⟩:=h;obtain⟨n1,n4,hr⟩:=k5 h5;obtain⟨v1,hv1⟩:=Option.ne_none_iff_exists'.1 n1;obtain⟨e4,l1,l2,l3,l4⟩:=k4 v4 h4;exact⟨xs,_,g,e4,l1,hr,(k1 v1 hv1).2.2.2,l3 n1⟩
end
end
end Go.Proofs.YtaabaflgeljbjaaGreat
