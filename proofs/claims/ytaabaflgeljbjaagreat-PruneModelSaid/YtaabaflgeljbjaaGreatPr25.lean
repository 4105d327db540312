/- Laws. -/
import Derived.Test.YtaabaflgeljbjaaGreatPr01
import Derived.StillTail
import Derived.StillTailTactics
set_option linter.unusedVariables false
set_option linter.unusedSimpArgs false
set_option maxRecDepth 100000
set_option maxHeartbeats 40000000
namespace Go.Proofs.YtaabaflgeljbjaaGreat
open Go renaming World→Xa,Value→Xb
open List renaming mem_range→Qa,all_eq_true→Qb,getElem?_take_of_lt→Qe,range→Qf,getElem?_drop→Qi,countP_eq_length→Qk,mem_of_getElem?→Ql,length_cons→Qm,countP_eq_zero→Qn,countP_pos_iff→Qo,length_range→Qs,getD_eq_getElem?_getD→Qv,getElem?_eq_some_iff→Qy,any_eq_true→Qz,countP_append→Yb,mem_filter→Yf
open Nat renaming strongRecOn→Qp,zero_add→Qq,lt_or_ge→Qr,lt_of_lt_of_le→Qu,le_trans→Ya
open Bool renaming and_eq_true→Qd,or_eq_true→Yd
open Option renaming some.inj→Qc,ne_none_iff_exists'→Qj,isNone_iff_eq_none→Qx,getD_some→Yc,map_some→Ye
open _root_.Array renaming replicate→Qg,ext_getElem?→Qh,getElem?_setIfInBounds→Qt,getElem?_eq_some_iff→Qw
section
open Go.RowKit
section
variable {P:Program} {ops:Array Oper} {Q:Exit->Act->Xa->Prop}
def zbe (ops:Array Oper)(n t:Nat):Option Nat:=(Qf n).find? fun j=>((ops[j]?).bind (·.dst))==some t
def zby (n m:Nat):Array Bool:=((Qf m).map fun i=>decide (i<n)).toArray
def zn3 (ops:Array Oper)(n N i:Nat)(o:Oper):Bool :=
 (o.after.toList.all fun e=>!Region.binds .any e||decide (e.on<i))&&(match o.dst with|none=>false|some d=>decide (d<N)&&(zbe ops n d==some i)) &&
  ((o.looksAt ops).all fun t=>match zbe ops n t with|none=>true|some j=>Region.waitsFor .any ops i j)
def zhw (ops:Array Oper)(n N:Nat):Bool :=
 decide (n<ops.size)&&Region.sinkB .any ops n&&Region.chainB .any ops n&&((Qf n).all fun i=>match ops[i]? with|none=>false|some o=>zn3 ops n N i o) &&
  Region.seqB .any ops (ops.size-n) n (zby n ops.size)
def zam (N:Nat)(ds:List Deferred)(x:Nat->Xb):Act:=⟨((Qf N).map x).toArray,ds⟩
theorem zdp (a:Act):a=zam a.tmps.size a.defers (fun t=>a.eval (.tmp t)):=by
 obtain⟨t,d⟩:=a;simp only[zam,Act.mk.injEq,and_true]
 apply Qh
 intro i
 by_cases h:i<t.size<;>simp[h,Act.eval,Array.getElem?_eq_none]
theorem zfu (a:Act)(d:Option Tmp)(v:Xb):(a.put d v).tmps.size=a.tmps.size:=by cases d<;>simp[Act.put]
theorem zfh (a:Act)(d:Option Tmp)(v:Xb):(a.put d v).defers=a.defers:=by cases d<;>simp[Act.put]
theorem zer (a:Act)(d:Nat)(v:Xb)(h:d<a.tmps.size):(a.put (some d) v).eval (.tmp d)=v:=by simp[Act.put,Act.eval,Array.getD,h]
theorem zc5 (a:Act)(d j:Nat)(v:Xb)(h:d≠j):(a.put (some d) v).eval (.tmp j)=a.eval (.tmp j):=by
 simp only[Act.put,Act.eval,Array.getD_eq_getD_getElem?];rw[Array.getElem?_setIfInBounds_ne h]
def zhx (A:Act)(dst:Option Tmp)(R:Xb->Xa->Prop)(w:Xa):Exit->Act->Xa->Prop
 | .normal,a',w'=>∃v,a'=A.put dst v/\R v w'/\Ext w w'
 | _,_,_=>False
def za8 (ops:Array Oper)(n:Nat)(a0:Act)(R:Nat->Xb->Xa->Prop)(x:Nat->Xb)(w:Xa)(t:Nat):Prop :=
 match zbe ops n t with
 | none=>x t=a0.eval (.tmp t)
 | some j=>R j (x t) w
structure RInv (ops:Array Oper) (n:Nat) (a0:Act) (w0:Xa) (R:Nat->Xb->Xa->Prop) (listed:Array Bool) (a:Act) (w:Xa):Prop where
 size:a.tmps.size=a0.tmps.size
 defers:a.defers=a0.defers
 ext:Ext w0 w
 old:∀t,zbe ops n t=none->a.eval (.tmp t)=a0.eval (.tmp t)
 got:∀i d,zbe ops n d=some i->listed.getD i false=true->R i (a.eval (.tmp d)) w
def cntU (n:Nat)(listed:Array Bool):Nat:=(Qf n).countP fun i=>!listed.getD i false
theorem zf3 (f g:Nat->Bool)(i:Nat)(b:f i=true)(c:g i=false)(a:∀j,j≠i->f j=g j):∀n,i<n->(Qf n).countP g+1=(Qf n).countP f
 | 0,h0=>by omega
 | n+1,h0=>by
  rw[List.range_succ,Yb,Yb]
  by_cases hi:i=n
  ·subst hi;have:(Qf i).countP g=(Qf i).countP f:=List.countP_congr fun j d=>by rw[a j (by have:=Qa.1 d;omega)]
   simp[this,b,c]
  have:=zf3 f g i b c a n (by omega);simp[a n (Ne.symm hi)];omega
theorem zbs {n t j:Nat}(h:zbe ops n t=some j):j<n/\(ops[j]?).bind (·.dst)=some t:=by
 unfold zbe at h;exact⟨Qa.1 (List.mem_of_find?_eq_some h),by simpa using List.find?_some h⟩
theorem zzg {o:Oper}{a:Act}{w:Xa}{K h:Act->Xa->Prop}{Q':Exit->Act->Xa->Prop}(f:∀a w,K a w->h a w)(g:∀e a w,e≠.normal->Q' e a w->False)(d:o.wp P a w K Q'):o.wp P a w h Q:=by
 unfold Oper.wp at *;generalize (execOp a.eval o).run P w=r at *
 cases r with
 | ok n w' =>
  cases n<;>simp only[Oper.upon]at d ⊢ <;>
   first
    |exact f _ _ d
    | exact Calls.mono d (fun e i b=>by
      cases e with
      | returned v=>exact f _ _ b
      | panicked c=>exact(g _ _ _ (by simp) b).elim
      | outgrown=>obtain⟨a,w,b⟩:=b;exact(g _ _ _ (by simp) b).elim)
    | exact Rows.mono d (fun _ _ b=>f _ _ b)
 | halt x w'=>cases x<;>simp only[Oper.upon]at d ⊢ <;> first|exact d.elim|exact(g _ _ _ (by simp) d).elim
theorem zdq {i:Nat}{o:Oper}{a:Act}{w:Xa}{K:Act->Xa->Prop}{Q':Exit->Act->Xa->Prop}(hi:ops[i]? = some o)(d:∀e a w,e≠.normal->Q' e a w->False)(c:∀a w,Q' .normal a w->K a w)(b:wpList P ops Q' [o] a w):wpOp P ops Q i K a w:=by
 unfold wpOp;rw[hi]
 by_cases f:Region.wanted o (yielded ops a.tmps)=true
 ·simp only[wpList,f,if_true]at b ⊢;rcases b with b|⟨_,a1,w1,b⟩
  ·exact .inl (zzg c d b)
  exact(d _ _ _ (by simp) b).elim
 simp only[wpList,zN f]at b ⊢;exact c _ _ b
variable {n N:Nat} {a0:Act} {w0:Xa} {R:Nat->Xb->Xa->Prop}
theorem zha (a:zhw ops n N=true):n<ops.size/\Region.sinkB .any ops n=true/\Region.chainB .any ops n=true/\(∀i o,i<n->ops[i]? = some o->zn3 ops n N i o=true)/\Region.seqB .any ops (ops.size-n) n (zby n ops.size)=true:=by
 simp only[zhw,Qd,decide_eq_true_eq,Qb,Qa]at a;obtain⟨⟨⟨⟨h1,b⟩,c⟩,d⟩,e⟩:=a;exact⟨h1,b,c,fun i o hi f=>by have:=d i hi;rw[f]at this;exact this,e⟩
theorem zj2 {i:Nat}{o:Oper}(b:zn3 ops n N i o=true):(∀e∈o.after,Region.binds .any e=true->e.on<i)/\(∃d,o.dst=some d/\d<N/\zbe ops n d=some i) /\
  (∀t∈o.looksAt ops,∀j,zbe ops n t=some j->Region.waitsFor .any ops i j=true):=by
 simp only[zn3,Qd,Qb,Qx]at b;obtain⟨⟨f,a⟩,g⟩:=b;refine⟨fun e h hb=>?_,?_,fun t l j k=>?_⟩
 ·have:=f e (by simpa using h)
  simpa[hb]using this
 ·cases c:o.dst with
  | none=>rw[c]at a;cases a
  | some d=>rw[c]at a;simp at a;exact⟨d,rfl,a⟩
 have:=g t l;rw[k]at this;exact this
theorem zmv (g:zhw ops n N=true){a:Array Bool}(o:HeadInv .any ops n a):∀i,i<n->a.getD i false=false->∃j,j<n/\j∈Region.ready .any ops a:=by
 obtain⟨h1,s,t,f,u⟩:=zha g;intro i
 induction i using Qp with
 | _ i ih =>
  intro hi l;have k:i<ops.size:=by omega
  have c:ops[i]? = some ops[i]:=by simp[k]
  obtain⟨d,p,r⟩:=zj2 (f i _ hi c)
  by_cases b:∀e∈(ops[i]).after,Region.binds .any e=true->a.getD e.on false=true
  ·refine⟨i,hi,mem_ready.2 ⟨?_,_,c,b⟩⟩;exact getD_in (by rw[o.size];omega) l
  simp only[Classical.not_forall]at b;obtain⟨e,h,hb,m⟩:=b;have:=d e h hb;exact ih e.on this (by omega) (by simpa using m)
theorem zxg (D:zhw ops n a0.tmps.size=true)(hR:∀i v w w',R i v w->Ext w w'->R i v w')(hstep:∀i o,i<n->ops[i]? = some o->∀(x:Nat->Xb) (w:Xa),Ext w0 w->(∀t∈o.looksAt ops,za8 ops n a0 R x w t)->wpList P ops (zhx (zam a0.tmps.size a0.defers x) o.dst (R i) w) [o] (zam a0.tmps.size a0.defers x) w)(hend:∀(x:Nat->Xb) (w:Xa),Ext w0 w->(∀t,za8 ops n a0 R x w t)->wpList P ops Q (ops.toList.drop n) (zam a0.tmps.size a0.defers x) w) :
  ∀(k:Nat) (c:Array Bool) (a:Act) (w:Xa),HeadInv .any ops n c->cntU n c=k->RInv ops n a0 w0 R c a w->wpAny P .any ops Q (k+(ops.size-n)) c a w:=by
 obtain⟨h1,V,W,X,Y⟩:=zha D;intro k
 induction k with
 | zero =>
  intro c a w g y b
  have E:∀i,i<n->c.getD i false=true:=fun i hi=>by
   have:=Qn.1 y i (Qa.2 hi)
   simpa using this
  have Z:c=zby n ops.size:=by
   apply Qh
   intro i
   by_cases hi:i<ops.size
   ·have p:i<c.size:=by rw[g.size];exact hi
    by_cases h:i<n
    ·have:=E i h;simp[p]at this;simp[zby,hi,h,p,this]
    have:=g.tail i (by omega) hi;simp[p]at this;simp[zby,hi,h,p,this]
   have p:¬i<c.size:=(by rw[g.size];exact hi);simp[zby,hi,p]
  have J:(ops.toList.drop n).length=ops.size-n:=by simp
  have ha:=zdp a;rw[b.size,b.defers]at ha
  have al:wpList P ops Q (ops.toList.drop n) a w:=by
   rw[ha];refine hend _ w b.ext fun t=>?_
   unfold za8
   split
   ·rename_i f;exact b.old t f
   rename_i j f;exact b.got j t f (E j (zbs f).1)
  have:=wpAny_of_seq (md:=.any) (Q':=Q) (ops.toList.drop n) n c a w (fun j=>by simp[Qi]) (by rw[J,Z];exact Y) al;rw[J]at this;rw[Qq];exact this
 | succ k am =>
  intro c a w g y b
  have ab:∃i,i<n/\c.getD i false=false:=by
   have:0<cntU n c:=by omega
   obtain⟨i,hi,s⟩:=Qo.1 this;exact⟨i,Qa.1 hi,by simpa using s⟩
  obtain⟨O,G,I⟩:=ab;obtain⟨aq,ap,H⟩:=zmv D g O G I;rw[show k+1+(ops.size-n)=(k+(ops.size-n))+1 by omega];refine⟨(fun h0=>(by rw[h0]at H;cases H)),fun i hi=>?_⟩
  have h:i<n:=by
   rcases Qr i n with m|m
   ·exact m
   exact absurd hi (tail_waits V W h1 g _ O rfl G (getD_in (by rw[g.size];omega) I) i m)
  obtain⟨aj,o,r,aa⟩:=mem_ready.1 hi;obtain⟨ao,⟨d,B,S,u⟩,U⟩:=zj2 (X i o h r);have ha:=zdp a;rw[b.size,b.defers]at ha
  have L:=hstep i o h r (fun t=>a.eval (.tmp t)) w b.ext fun t l=>by
   unfold za8
   split
   ·rename_i f;exact b.old t f
   rename_i j f;refine b.got j t f ?_;obtain⟨o',af,e,A,hb,ah⟩:=Region.waitsFor_spec (U t l j f);have:o'=o:=Qc (af.symm.trans r);subst this;rw[<- ah];exact aa e A hb
  rw[<- ha]at L;refine zdq r (fun e a w A m=>by cases e<;>first|exact absurd rfl A|exact m) (fun an w' m=>?_) L;obtain⟨v,rfl,ak,M⟩:=m;rw[B];have ai:d<a.tmps.size:=by rw[b.size];exact S
  refine am _ _ _ (g.set hi h) ?_ ⟨by rw[zfu];exact b.size,by rw[zfh];exact b.defers,b.ext.trans M,fun t l=>?_,fun j t l s=>?_⟩
  ·have:=zf3 (fun j=>!c.getD j false) (fun j=>!(c.setIfInBounds i true).getD j false) i (by simpa using getD_both aj) (by
    have ae:i<c.size:=(by rw[g.size];omega);simp[ae]) (fun j ac=>by simp only[getD_set_ne false (Ne.symm ac)]) n h
   unfold cntU at y ⊢;omega
  ·rw[zc5 _ _ _ _ (fun e=>by subst e;rw[l]at u;cases u)];exact b.old t l
  by_cases z:d=t
  ·subst z;obtain rfl:j=i:=Qc (l.symm.trans u);rw[zer _ _ _ ai];exact ak
  rw[zc5 _ _ _ _ z]
  have ad:i≠j:=fun e=>by subst e;have:=(zbs l).2;rw[r]at this;exact z (Qc (B.symm.trans this))
  rw[getD_set_ne false ad]at s;exact hR _ _ _ _ (b.got j t l s) M
theorem zqm {id:Nat}{l:List Oper}(n:Nat)(R:Nat->Xb->Xa->Prop)(c:P.follows .mixedOrders=true)(b:zhw l.toArray n a0.tmps.size=true)(hR:∀i v w w',R i v w->Ext w w'->R i v w')(hstep:∀i o,i<n->l[i]? = some o->∀(x:Nat->Xb) (w:Xa),Ext w0 w->(∀t∈o.looksAt l.toArray,za8 l.toArray n a0 R x w t)->wpList P l.toArray (zhx (zam a0.tmps.size a0.defers x) o.dst (R i) w) [o] (zam a0.tmps.size a0.defers x) w)(hend:∀(x:Nat->Xb) (w:Xa),Ext w0 w->(∀t,za8 l.toArray n a0 R x w t)->wpList P l.toArray Q (l.drop n) (zam a0.tmps.size a0.defers x) w) :
  (Code.region id l.toArray true).wp P Q a0 w0:=by
 refine wp_region_any c ?_;have h1:=(zha b).1
 have f:cntU n (Qg l.toArray.size false)=n:=by unfold cntU;rw[Qk.2 (fun i _=>by rw[getD_replicate_false];rfl)];exact Qs
 have:=zxg (P:=P) (Q:=Q) (w0:=w0) b hR (fun i o hi e=>hstep i o hi (by simpa using e)) hend n (Qg l.toArray.size false) a0 { w0 with drawn:=w0.drawn+1 }
  ⟨by simp,fun j h _ a=>(by rw[getD_replicate_false]at a;cases a),fun t _ g=>getD_in (by simpa using g) (getD_replicate_false _ _)⟩ f
  ⟨rfl,rfl,(Ext.refl w0).drew,fun _ _=>rfl,fun j d _ a=>(by rw[getD_replicate_false]at a;cases a)⟩
 rw[show n+(l.toArray.size-n)=l.toArray.size by omega]at this;exact this
def za9 (ops:Array Oper)(n:Nat)(a0:Act)(R:Nat->Xb->Xa->Prop)(x:Nat->Xb)(w:Xa):List Tmp->Prop
 | []=>True
 | t::l=>za8 ops n a0 R x w t/\za9 ops n a0 R x w l
theorem zbp {x:Nat->Xb}{w:Xa}:∀l:List Tmp,(∀t∈l,za8 ops n a0 R x w t)->za9 ops n a0 R x w l
 | [],_=>trivial
 | t::l,h=>⟨h t (by simp),zbp l fun s a=>h s (by simp[a])⟩
def nthR (Rs:List (Xb->Xa->Prop))(i:Nat):Xb->Xa->Prop:=Rs.getD i fun _ _=>True
def zbj (P:Program)(ops:Array Oper)(n:Nat)(a0:Act)(w0:Xa)(R:Nat->Xb->Xa->Prop):List Oper->List (Xb->Xa->Prop)->Prop
 | o::l,r::rs=>(∀(x:Nat->Xb) (w:Xa),Ext w0 w->za9 ops n a0 R x w (o.looksAt ops)->wpList P ops (zhx (zam a0.tmps.size a0.defers x) o.dst r w) [o] (zam a0.tmps.size a0.defers x) w)/\zbj P ops n a0 w0 R l rs
 | [],[]=>True
 | _,_=>False
theorem zmw:∀(l:List Oper) (rs:List (Xb->Xa->Prop)),zbj P ops n a0 w0 R l rs->∀i o,l[i]? = some o->∀(x:Nat->Xb) (w:Xa),Ext w0 w->(∀t∈o.looksAt ops,za8 ops n a0 R x w t) ->
  wpList P ops (zhx (zam a0.tmps.size a0.defers x) o.dst (nthR rs i) w) [o] (zam a0.tmps.size a0.defers x) w
 | [],_,_,i,o,ho,_,_,_,_=>by simp at ho
 | p::l,[],h,_,_,_,_,_,_,_=>h.elim
 | p::l,r::rs,h,0,o,ho,x,w,he,hf=>by
  obtain rfl:p=o:=by simpa using ho
  exact h.1 x w he (zbp _ hf)
 | p::l,r::rs,h,i+1,o,ho,x,w,he,hf=>by
  have:=zmw l rs h.2 i o (by simpa using ho) x w he hf
  simpa[nthR]using this
theorem zaa {A:Act}{a:Option Tmp}{r:Xb->Xa->Prop}{w w':Xa}{v:Xb}(b:r v w')(c:Ext w w'):zhx A a r w .normal (A.put a v) w':=⟨v,rfl,b,c⟩
theorem sQ {A:Act}{a:Option Tmp}{w:Xa}{v:Xb}:zhx A a (fun u _=>u=v) w .normal (A.put a v) w:=zaa rfl (Ext.refl _)
@[go_sem] theorem invAct_getD (N:Nat)(ds:List Deferred)(x:Nat->Xb)(t:Nat)(u:Xb)(h:t<N):(zam N ds x).tmps.getD t u=x t:=by simp[zam,h]
@[go_sem] theorem invAct_get? (N:Nat)(ds:List Deferred)(x:Nat->Xb)(t:Nat)(h:t<N):(zam N ds x).tmps[t]? = some (x t):=by simp[zam,h]
@[go_sem] theorem invAct_eval (N:Nat)(ds:List Deferred)(x:Nat->Xb)(t:Nat)(h:t<N):(zam N ds x).eval (.tmp t)=x t:=by simp[zam,h,Act.eval]
def zav (a:Act)(x:Nat->Xb):List Nat->Act
 | []=>a
 | d::ds=>zav (a.put (some d) (x d)) x ds
theorem zmx (x:Nat->Xb):∀(b:List Nat) (a:Act),(zav a x b).tmps.size=a.tmps.size/\(zav a x b).defers=a.defers
 | [],a=>⟨rfl,rfl⟩
 | d::b,a=>by obtain⟨h1,c⟩:=zmx x b (a.put (some d) (x d));exact⟨h1.trans (zfu _ _ _),c.trans (zfh _ _ _)⟩
theorem zmy (x:Nat->Xb):∀(b:List Nat) (a:Act) (t:Nat),t<a.tmps.size->(zav a x b).eval (.tmp t)=if t∈b then x t else a.eval (.tmp t)
 | [],a,t,_=>by simp[zav]
 | d::b,a,t,ht=>by
  have:=zmy x b (a.put (some d) (x d)) t (by rw[zfu];exact ht);unfold zav;rw[this]
  by_cases h1:t∈b
  ·simp[h1]
  by_cases c:d=t
  ·subst c;simp[h1,zer _ _ _ ht]
  rw[zc5 _ _ _ _ c];simp[h1,Ne.symm c]
theorem zfd {l:List Oper}{x:Nat->Xb}(h:∀t,zbe l.toArray n t=none->x t=a0.eval (.tmp t)):zam a0.tmps.size a0.defers x=zav a0 x ((l.take n).filterMap (·.dst)):=by
 obtain⟨h1,b⟩:=zmx x ((l.take n).filterMap (·.dst)) a0;rw[zdp (zav a0 x ((l.take n).filterMap (·.dst))),h1,b];unfold zam
 congr 2
 apply List.map_congr_left
 intro t g;rw[zmy _ _ _ _ (Qa.1 g)]
 split
 ·rfl
 rename_i e;refine h t ?_;unfold zbe;rw[List.find?_eq_none];intro j c a;refine e ?_;have d:=Qa.1 c;simp only[beq_iff_eq,Option.bind_eq_some_iff]at a;obtain⟨o,f,a⟩:=a;rw[List.mem_filterMap];refine⟨o,?_,a⟩;have:(l.take n)[j]? = some o:=by rw[Qe d];simpa using f
 exact Ql this
theorem zat {id:Nat}{l:List Oper}(a:List (Xb->Xa->Prop))(e:P.follows .mixedOrders=true)(d:zhw l.toArray a.length a0.tmps.size=true)(hR:∀r∈a,∀v w w',r v w->Ext w w'->r v w')(hstep:zbj P l.toArray a.length a0 w0 (nthR a) (l.take a.length) a)(hend:∀(x:Nat->Xb) (w:Xa),Ext w0 w->za9 l.toArray a.length a0 (nthR a) x w ((l.take a.length).filterMap (·.dst))->wpList P l.toArray Q (l.drop a.length) (zav a0 x ((l.take a.length).filterMap (·.dst))) w) :
  (Code.region id l.toArray true).wp P Q a0 w0 :=
 zqm a.length (nthR a) e d (fun i v w w' b c=>by
  unfold nthR at b ⊢
  by_cases hi:i<a.length
  ·rw[Qv,List.getElem?_eq_getElem hi]at b ⊢;exact hR _ (List.getElem_mem hi) v w w' b c
  ·rw[Qv,List.getElem?_eq_none (by omega)]at b ⊢
   trivial) (fun i o hi f=>zmw _ _ hstep i o (by rw[Qe hi];exact f)) (fun x w c b=>by
  rw[zfd (fun t g=>by have:=b t;unfold za8 at this;rw[g]at this;exact this)];exact hend x w c (zbp _ fun t _=>b t))
end
section
variable {P:Program} {ops:Array Oper} {Q:Exit->Act->Xa->Prop}
def preB (ops:Array Oper)(q:Nat)(pre:List Nat):Bool:=pre.all fun i=>Region.waitsFor .any ops q i||pre.any fun j=>decide (i<j)&&Region.waitsFor .any ops j i
def zmh (ops:Array Oper)(n N q i:Nat)(o:Oper):Bool :=
 o.guard.isNone&&(o.after.toList.all fun e=>!Region.binds .any e||decide (e.on<i))&&(match o.dst with|none=>decide (i=q)|some d=>decide (d<N)&&(zbe ops n d==some i)) &&
  ((o.looksAt ops).all fun t=>match zbe ops n t with|none=>true|some j=>Region.waitsFor .any ops i j)
def zjg (ops:Array Oper)(n N q:Nat)(pre:List Nat):Bool :=
 decide (n<ops.size)&&Region.sinkB .any ops n&&Region.chainB .any ops n&&((Qf n).all fun i=>match ops[i]? with|none=>false|some o=>zmh ops n N q i o) &&
  Region.seqB .any ops (ops.size-n) n (zby n ops.size)&&decide (q<n)&&preB ops q pre
def zcc (A:Act)(dst:Option Tmp)(R:Xb->Xa->Prop)(M:Xa->Prop):Exit->Act->Xa->Prop
 | .normal,a',w'=>∃v,a'=A.put dst v/\R v w'/\M w'
 | _,_,_=>False
theorem zai {A:Act}{b:Option Tmp}{r:Xb->Xa->Prop}{a:Xa->Prop}{w':Xa}{v:Xb}(c:r v w')(d:a w'):zcc A b r a .normal (A.put b v) w':=⟨v,rfl,c,d⟩
structure RInv2 (ops:Array Oper) (n q:Nat) (a0:Act) (J0 J1:Xa->Prop) (R:Nat->Xb->Xa->Prop) (listed:Array Bool) (a:Act) (w:Xa):Prop where
 size:a.tmps.size=a0.tmps.size
 defers:a.defers=a0.defers
 jn:if listed.getD q false=true then J1 w else J0 w
 old:∀t,zbe ops n t=none->a.eval (.tmp t)=a0.eval (.tmp t)
 got:∀i d,zbe ops n d=some i->listed.getD i false=true->R i (a.eval (.tmp d)) w
variable {n N q:Nat} {a0:Act} {J0 J1:Xa->Prop} {R:Nat->Xb->Xa->Prop} {Mv:Xa->Xa->Prop} {pre:List Nat}
theorem zf7 (a:zjg ops n N q pre=true):n<ops.size/\Region.sinkB .any ops n=true/\Region.chainB .any ops n=true/\(∀i o,i<n->ops[i]? = some o->zmh ops n N q i o=true)/\Region.seqB .any ops (ops.size-n) n (zby n ops.size)=true/\q<n/\preB ops q pre=true:=by
 simp only[zjg,Qd,decide_eq_true_eq,Qb,Qa]at a;obtain⟨⟨⟨⟨⟨⟨h1,b⟩,c⟩,d⟩,e⟩,f⟩,g⟩:=a;exact⟨h1,b,c,fun i o hi h=>by have:=d i hi;rw[h]at this;exact this,e,f,g⟩
theorem zjh {i:Nat}{o:Oper}(b:zmh ops n N q i o=true):o.guard=none/\(∀e∈o.after,Region.binds .any e=true->e.on<i)/\((o.dst=none/\i=q) ∨ ∃d,o.dst=some d/\d<N/\zbe ops n d=some i) /\
  (∀t∈o.looksAt ops,∀j,zbe ops n t=some j->Region.waitsFor .any ops i j=true):=by
 simp only[zmh,Qd,Qb,Qx]at b;obtain⟨⟨⟨h1,f⟩,a⟩,g⟩:=b;refine⟨h1,fun e h hb=>?_,?_,fun t l j k=>?_⟩
 ·have:=f e (by simpa using h)
  simpa[hb]using this
 ·cases c:o.dst with
  | none=>rw[c]at a;exact .inl ⟨rfl,by simpa using a⟩
  | some d=>rw[c]at a;simp at a;exact .inr ⟨d,rfl,a⟩
 have:=g t l;rw[k]at this;exact this
theorem zn6 (h:preB ops q pre=true){d:Array Bool}(s:HeadInv .any ops n d)(r:d.getD q false=true):∀(k i:Nat),pre.foldr max 0-i=k->i∈pre->d.getD i false=true:=by
 intro k
 induction k using Qp with
 | _ k g =>
  intro i hk hi;have b:=Qb.1 h i hi;simp only[Yd]at b
  have step:∀j,d.getD j false=true->Region.waitsFor .any ops j i=true->d.getD i false=true:=fun j c f=>by obtain⟨t,o,e,m,hb,p⟩:=Region.waitsFor_spec f;have:=s.closed j t o c e m hb;rw[p]at this;exact this
  rcases b with b|b
  ·exact step q r b
  obtain⟨j,c,f⟩:=Qz.1 b;simp only[Qd,decide_eq_true_eq]at f
  have u:j<=pre.foldr max 0:=by
   clear h hi b g hk
   induction pre with
   | nil=>cases c
   | cons a l g =>
    simp only[List.foldr_cons];rcases List.mem_cons.1 c with rfl|c
    ·exact Nat.le_max_left _ _
    exact Ya (g c) (Nat.le_max_right _ _)
  exact step j (g _ (by omega) j rfl c) f.2
theorem zls (g:zjg ops n N q pre=true){a:Array Bool}(o:HeadInv .any ops n a):∀i,i<n->a.getD i false=false->∃j,j<n/\j∈Region.ready .any ops a:=by
 obtain⟨h1,t,u,f,v,-,-⟩:=zf7 g;intro i
 induction i using Qp with
 | _ i ih =>
  intro hi l;have k:i<ops.size:=by omega
  have c:ops[i]? = some ops[i]:=by simp[k]
  obtain⟨p,d,r,s⟩:=zjh (f i _ hi c)
  by_cases b:∀e∈(ops[i]).after,Region.binds .any e=true->a.getD e.on false=true
  ·refine⟨i,hi,mem_ready.2 ⟨?_,_,c,b⟩⟩;exact getD_in (by rw[o.size];omega) l
  simp only[Classical.not_forall]at b;obtain⟨e,h,hb,m⟩:=b;have:=d e h hb;exact ih e.on this (by omega) (by simpa using m)
theorem zur (W:zjg ops n a0.tmps.size q pre=true)(hR:∀i v w w',R i v w->Mv w w'->R i v w')(hstep:∀i o,i<n->i≠q->ops[i]? = some o->∀(x:Nat->Xb) (w:Xa) (b:Bool),(b=true->i∉pre)->(if b=true then J1 w else J0 w)->(∀t∈o.looksAt ops,za8 ops n a0 R x w t) ->
   wpList P ops (zcc (zam a0.tmps.size a0.defers x) o.dst (R i) (fun w'=>(if b=true then J1 w' else J0 w')/\Mv w w')) [o] (zam a0.tmps.size a0.defers x) w)(ac:∀o,ops[q]? = some o->∀(x:Nat->Xb) (w:Xa),J0 w->(∀t∈o.looksAt ops,za8 ops n a0 R x w t) ->
   wpList P ops (zcc (zam a0.tmps.size a0.defers x) o.dst (R q) (fun w'=>J1 w'/\Mv w w')) [o] (zam a0.tmps.size a0.defers x) w)(hend:∀(x:Nat->Xb) (w:Xa),J1 w->(∀t,za8 ops n a0 R x w t)->wpList P ops Q (ops.toList.drop n) (zam a0.tmps.size a0.defers x) w) :
  ∀(k:Nat) (f:Array Bool) (a:Act) (w:Xa),HeadInv .any ops n f->cntU n f=k->RInv2 ops n q a0 J0 J1 R f a w->wpAny P .any ops Q (k+(ops.size-n)) f a w:=by
 obtain⟨h1,ak,al,am,an,ax,aw⟩:=zf7 W;intro k
 induction k with
 | zero =>
  intro f a w g I c
  have H:∀i,i<n->f.getD i false=true:=fun i hi=>by
   have:=Qn.1 I i (Qa.2 hi)
   simpa using this
  have ao:f=zby n ops.size:=by
   apply Qh
   intro i
   by_cases hi:i<ops.size
   ·have y:i<f.size:=by rw[g.size];exact hi
    by_cases r:i<n
    ·have:=H i r;simp[y]at this;simp[zby,hi,r,y,this]
    have:=g.tail i (by omega) hi;simp[y]at this;simp[zby,hi,r,y,this]
   have y:¬i<f.size:=(by rw[g.size];exact hi);simp[zby,hi,y]
  have ab:(ops.toList.drop n).length=ops.size-n:=by simp
  have ha:=zdp a;rw[c.size,c.defers]at ha;have m:=c.jn;rw[zP (H q ax)]at m
  have a1:wpList P ops Q (ops.toList.drop n) a w:=by
   rw[ha];refine hend _ w m fun t=>?_
   unfold za8
   split
   ·rename_i p;exact c.old t p
   rename_i j p;exact c.got j t p (H j (zbs p).1)
  have:=wpAny_of_seq (md:=.any) (Q':=Q) (ops.toList.drop n) n f a w (fun j=>by simp[Qi]) (by rw[ab,ao];exact an) a1;rw[ab]at this;rw[Qq];exact this
 | succ k af =>
  intro f a w g I c
  have aq:∃i,i<n/\f.getD i false=false:=by
   have:0<cntU n f:=by omega
   obtain⟨i,hi,u⟩:=Qo.1 this;exact⟨i,Qa.1 hi,by simpa using u⟩
  obtain⟨ae,Y,aa⟩:=aq;obtain⟨a5,a4,Z⟩:=zls W g ae Y aa;rw[show k+1+(ops.size-n)=(k+(ops.size-n))+1 by omega];refine⟨(fun h0=>(by rw[h0]at Z;cases Z)),fun i hi=>?_⟩
  have r:i<n:=by
   rcases Qr i n with h|h
   ·exact h
   exact absurd hi (tail_waits ak al h1 g _ ae rfl Y (getD_in (by rw[g.size];omega) aa) i h)
  obtain⟨D,o,s,ap⟩:=mem_ready.1 hi;obtain⟨a2,a3,B,aj⟩:=zjh (am i o r s);have ha:=zdp a;rw[c.size,c.defers]at ha
  have L:∀t∈o.looksAt ops,za8 ops n a0 R (fun t=>a.eval (.tmp t)) w t:=fun t l=>by
   unfold za8
   split
   ·rename_i p;exact c.old t p
   rename_i j p;refine c.got j t p ?_;obtain⟨o',au,e,z,hb,av⟩:=Region.waitsFor_spec (aj t l j p);have:o'=o:=Qc (au.symm.trans s);subst this;rw[<- av];exact ap e z hb
  have X:cntU n (f.setIfInBounds i true)=k:=by
   have:=zf3 (fun j=>!f.getD j false) (fun j=>!(f.setIfInBounds i true).getD j false) i (by simpa using getD_both D) (by have S:i<f.size:=(by rw[g.size];omega);simp[S]) (fun j m=>by simp only[getD_set_ne false (Ne.symm m)]) n r
   unfold cntU at I ⊢;omega
  have ad:(f.setIfInBounds i true).getD i false=true:=by have S:i<f.size:=(by rw[g.size];omega);simp[S]
  rcases B with⟨V,rfl⟩|⟨d,B,ai,E⟩
  ·have m:=c.jn;rw[getD_both D,zN (by simp)]at m;have A:=ac o s (fun t=>a.eval (.tmp t)) w m L;rw[<- ha]at A;refine zdq s (fun e a w z h=>by cases e<;>first|exact absurd rfl z|exact h) (fun ah w' h=>?_) A;obtain⟨v,rfl,-,M,U⟩:=h;rw[V];refine af _ _ _ (g.set hi r) X ⟨c.size,c.defers,by rw[zP ad];exact M,c.old,fun j t l u=>?_⟩
   have O:i≠j:=fun e=>by subst e;have:=(zbs l).2;rw[s]at this;simp[V]at this
   rw[getD_set_ne false O]at u;exact hR _ _ _ _ (c.got j t l u) U
  have A:wpList P ops (zcc (zam a0.tmps.size a0.defers (fun t=>a.eval (.tmp t))) o.dst (R i) (fun w'=>(if(f.setIfInBounds i true).getD q false=true then J1 w' else J0 w')/\Mv w w')) [o] (zam a0.tmps.size a0.defers (fun t=>a.eval (.tmp t))) w:=by
   by_cases G:i=q
   ·subst G;have m:=c.jn;rw[getD_both D,zN (by simp)]at m;simp only[ad,if_true];exact ac o s (fun t=>a.eval (.tmp t)) w m L
   simp only[getD_set_ne false G]
   exact hstep i o r G s (fun t=>a.eval (.tmp t)) w (f.getD q false) (fun hb ar=>by have:=zn6 aw g hb _ i rfl ar;rw[getD_both D]at this;cases this) c.jn L
  rw[<- ha]at A;refine zdq s (fun e a w z h=>by cases e<;>first|exact absurd rfl z|exact h) (fun ah w' h=>?_) A;obtain⟨v,rfl,az,M,U⟩:=h;rw[B];have ay:d<a.tmps.size:=(by rw[c.size];exact ai);refine af _ _ _ (g.set hi r) X ⟨by rw[zfu];exact c.size,by rw[zfh];exact c.defers,M,fun t l=>?_,fun j t l u=>?_⟩
  ·rw[zc5 _ _ _ _ (fun e=>by subst e;rw[l]at E;cases E)];exact c.old t l
  by_cases J:d=t
  ·subst J;obtain rfl:j=i:=Qc (l.symm.trans E);rw[zer _ _ _ ay];exact az
  rw[zc5 _ _ _ _ J]
  have O:i≠j:=fun e=>by subst e;have:=(zbs l).2;rw[s]at this;exact J (Qc (B.symm.trans this))
  rw[getD_set_ne false O]at u;exact hR _ _ _ _ (c.got j t l u) U
inductive HF where
 |early (r:Xb->Xa->Prop)
 |late (r:Xb->Xa->Prop)
 |store
 |move (r:Xb->Xa->Prop)
def HF.fact:HF->Xb->Xa->Prop
 | .early r=>r
 | .late r=>r
 | .store=>fun _ _=>True
 | .move r=>r
def HF.isEarly:HF->Bool
 | .early _=>true
 | _=>false
def HF.isStore:HF->Bool
 | .store=>true
 | .move _=>true
 | _=>false
def zqu (Fs:List HF):List Nat:=(Qf Fs.length).filter fun i=>(Fs[i]?.map HF.isEarly).getD false
def nthF (Fs:List HF)(i:Nat):Xb->Xa->Prop:=((Fs[i]?).map HF.fact).getD fun _ _=>True
def zxj (Fs:List HF)(q:Nat):Bool:=(Qf Fs.length).all fun i=>(Fs[i]?.map HF.isStore).getD false==decide (i=q)
def zd0 (P:Program)(ops:Array Oper)(n:Nat)(a0:Act)(J0 J1:Xa->Prop)(Mv:Xa->Xa->Prop)(R:Nat->Xb->Xa->Prop):List Oper->List HF->Prop
 | o::l,.early r::rs=>(∀(x:Nat->Xb) (w:Xa),J0 w->za9 ops n a0 R x w (o.looksAt ops)->wpList P ops (zcc (zam a0.tmps.size a0.defers x) o.dst r (fun w'=>J0 w'/\Mv w w')) [o] (zam a0.tmps.size a0.defers x) w)/\zd0 P ops n a0 J0 J1 Mv R l rs
 | o::l,.late r::rs=>(∀(x:Nat->Xb) (w:Xa) (b:Bool),(if b=true then J1 w else J0 w)->za9 ops n a0 R x w (o.looksAt ops)->wpList P ops (zcc (zam a0.tmps.size a0.defers x) o.dst r (fun w'=>(if b=true then J1 w' else J0 w')/\Mv w w')) [o] (zam a0.tmps.size a0.defers x) w)/\zd0 P ops n a0 J0 J1 Mv R l rs
 | o::l,.store::rs=>(∀(x:Nat->Xb) (w:Xa),J0 w->za9 ops n a0 R x w (o.looksAt ops)->wpList P ops (zcc (zam a0.tmps.size a0.defers x) o.dst (fun _ _=>True) (fun w'=>J1 w'/\Mv w w')) [o] (zam a0.tmps.size a0.defers x) w)/\zd0 P ops n a0 J0 J1 Mv R l rs
 | o::l,.move r::rs=>(∀(x:Nat->Xb) (w:Xa),J0 w->za9 ops n a0 R x w (o.looksAt ops)->wpList P ops (zcc (zam a0.tmps.size a0.defers x) o.dst r (fun w'=>J1 w'/\Mv w w')) [o] (zam a0.tmps.size a0.defers x) w)/\zd0 P ops n a0 J0 J1 Mv R l rs
 | [],[]=>True
 | _,_=>False
def ztx (P:Program)(ops:Array Oper)(n:Nat)(a0:Act)(J0 J1:Xa->Prop)(Mv:Xa->Xa->Prop)(R:Nat->Xb->Xa->Prop)(o:Oper):HF->Prop
 | .early r=>∀(x:Nat->Xb) (w:Xa),J0 w->za9 ops n a0 R x w (o.looksAt ops)->wpList P ops (zcc (zam a0.tmps.size a0.defers x) o.dst r (fun w'=>J0 w'/\Mv w w')) [o] (zam a0.tmps.size a0.defers x) w
 | .late r=>∀(x:Nat->Xb) (w:Xa) (b:Bool),(if b=true then J1 w else J0 w)->za9 ops n a0 R x w (o.looksAt ops)->wpList P ops (zcc (zam a0.tmps.size a0.defers x) o.dst r (fun w'=>(if b=true then J1 w' else J0 w')/\Mv w w')) [o] (zam a0.tmps.size a0.defers x) w
 | .store=>∀(x:Nat->Xb) (w:Xa),J0 w->za9 ops n a0 R x w (o.looksAt ops)->wpList P ops (zcc (zam a0.tmps.size a0.defers x) o.dst (fun _ _=>True) (fun w'=>J1 w'/\Mv w w')) [o] (zam a0.tmps.size a0.defers x) w
 | .move r=>∀(x:Nat->Xb) (w:Xa),J0 w->za9 ops n a0 R x w (o.looksAt ops)->wpList P ops (zcc (zam a0.tmps.size a0.defers x) o.dst r (fun w'=>J1 w'/\Mv w w')) [o] (zam a0.tmps.size a0.defers x) w
theorem zlt:∀(l:List Oper) (rs:List HF),zd0 P ops n a0 J0 J1 Mv R l rs->∀(i:Nat) (o:Oper),l[i]? = some o->∃f,rs[i]? = some f/\ztx P ops n a0 J0 J1 Mv R o f
 | [],_,_,i,o,ho=>by simp at ho
 | p::l,[],h,_,_,_=>h.elim
 | p::l,r::rs,h,0,o,ho=>by
  obtain rfl:p=o:=by simpa using ho
  refine⟨r,rfl,?_⟩;cases r<;>exact h.1
 | p::l,r::rs,h,i+1,o,ho=>by
  have a:zd0 P ops n a0 J0 J1 Mv R l rs:=by cases r<;>exact h.2
  obtain⟨f,b,c⟩:=zlt l rs a i o (by simpa using ho);exact⟨f,by simpa using b,c⟩
theorem zgl {id:Nat}{w0:Xa}{l:List Oper}(a:List HF)(q:Nat)(J0 J1:Xa->Prop)(Mv:Xa->Xa->Prop)(G:P.follows .mixedOrders=true)(z:zjg l.toArray a.length a0.tmps.size q (zqu a)=true)(J:zxj a q=true)(hR:∀f∈a,∀v w w',f.fact v w->Mv w w'->f.fact v w')(hJ:J0 w0.drew)(hstep:zd0 P l.toArray a.length a0 J0 J1 Mv (nthF a) (l.take a.length) a)(hend:∀(x:Nat->Xb) (w:Xa),J1 w->za9 l.toArray a.length a0 (nthF a) x w ((l.take a.length).filterMap (·.dst))->wpList P l.toArray Q (l.drop a.length) (zav a0 x ((l.take a.length).filterMap (·.dst))) w) :
  (Code.region id l.toArray true).wp P Q a0 w0:=by
 refine wp_region_any G ?_;obtain⟨h1,-,-,-,-,H,-⟩:=zf7 z
 have I:cntU a.length (Qg l.toArray.size false)=a.length:=by unfold cntU;rw[Qk.2 (fun i _=>by rw[getD_replicate_false];rfl)];exact Qs
 have A:∀i o,i<a.length->l[i]? = some o->∃f,a[i]? = some f/\ztx P l.toArray a.length a0 J0 J1 Mv (nthF a) o f:=fun i o hi m=>zlt _ _ hstep i o (by rw[Qe hi];exact m)
 have u:∀i f,a[i]? = some f->(f.isStore=true↔i=q):=fun i f c=>by have hi:=(Qy.1 c).1;have:=Qb.1 J i (Qa.2 hi);rw[c]at this;simp only[Ye,Yc,beq_iff_eq]at this;rw[this];simp
 have:=zur (P:=P) (Q:=Q) (J0:=J0) (J1:=J1) (Mv:=Mv) (R:=nthF a) z (fun i v w w' g E=>by
   unfold nthF at g ⊢
   cases c:a[i]? with
   | none=>simp
   | some f=>rw[c]at g;exact hR f (Ql c) v w w' g E)
  (fun i o hi B m x w b hb e h=>by
   obtain⟨f,c,p⟩:=A i o hi (by simpa using m);have s:nthF a i=f.fact:=(by unfold nthF;rw[c];rfl);rw[s]
   cases f with
   | early r =>
    have D:b=false:=by
     cases b with
     | false=>rfl
     | true=>refine absurd ?_ (hb rfl);unfold zqu;rw[Yf];exact⟨Qa.2 hi,by rw[c];rfl⟩
    subst D;exact p x w e (zbp _ h)
   | late r=>exact p x w b e (zbp _ h)
   | store=>exact absurd ((u i _ c).1 rfl) B
   | move r=>exact absurd ((u i _ c).1 rfl) B)
  (fun o m x w e h=>by
   obtain⟨f,c,p⟩:=A q o H (by simpa using m);have:=(u q f c).2 rfl;have s:nthF a q=f.fact:=(by unfold nthF;rw[c];rfl);rw[s]
   cases f with
   | early r=>cases this
   | late r=>cases this
   | store=>exact p x w e (zbp _ h)
   | move r=>exact p x w e (zbp _ h))
  (fun x w e g=>by rw[show l.toArray.toList=l by simp,zfd (fun t y=>by have:=g t;unfold za8 at this;rw[y]at this;exact this)];exact hend x w e (zbp _ fun t _=>g t))
  a.length (Qg l.toArray.size false) a0 { w0 with drawn:=w0.drawn+1 }
  ⟨by simp,fun j L _ k=>(by rw[getD_replicate_false]at k;cases k),fun t _ y=>getD_in (by simpa using y) (getD_replicate_false _ _)⟩ I
  ⟨rfl,rfl,by rw[getD_replicate_false];exact hJ,fun _ _=>rfl,fun j d _ k=>(by rw[getD_replicate_false]at k;cases k)⟩
 rw[show a.length+(l.toArray.size-a.length)=l.toArray.size by omega]at this;exact this
end
section
variable {P:Program} {ops:Array Oper} {Q:Exit->Act->Xa->Prop}
variable {n N q:Nat} {a0:Act} {J0 J1:Xa->Prop} {R:Nat->Xb->Xa->Prop} {Mn Mq:Xa->Xa->Prop} {pre:List Nat}
theorem zuz (X:zjg ops n a0.tmps.size q pre=true)(hR:∀i v w w',R i v w->Mn w w'->R i v w')(hRq:∀i v w w',i≠q->R i v w->Mq w w'->R i v w')(hstep:∀i o,i<n->i≠q->ops[i]? = some o->∀(x:Nat->Xb) (w:Xa) (b:Bool),(b=true->i∉pre)->(if b=true then J1 w else J0 w)->(∀t∈o.looksAt ops,za8 ops n a0 R x w t) ->
   wpList P ops (zcc (zam a0.tmps.size a0.defers x) o.dst (R i) (fun w'=>(if b=true then J1 w' else J0 w')/\Mn w w')) [o] (zam a0.tmps.size a0.defers x) w)(ad:∀o,ops[q]? = some o->∀(x:Nat->Xb) (w:Xa),J0 w->(∀t∈o.looksAt ops,za8 ops n a0 R x w t) ->
   wpList P ops (zcc (zam a0.tmps.size a0.defers x) o.dst (R q) (fun w'=>J1 w'/\Mq w w')) [o] (zam a0.tmps.size a0.defers x) w)(hend:∀(x:Nat->Xb) (w:Xa),J1 w->(∀t,za8 ops n a0 R x w t)->wpList P ops Q (ops.toList.drop n) (zam a0.tmps.size a0.defers x) w) :
  ∀(k:Nat) (f:Array Bool) (a:Act) (w:Xa),HeadInv .any ops n f->cntU n f=k->RInv2 ops n q a0 J0 J1 R f a w->wpAny P .any ops Q (k+(ops.size-n)) f a w:=by
 obtain⟨h1,A,al,am,an,az,ay⟩:=zf7 X;intro k
 induction k with
 | zero =>
  intro f a w l M c
  have L:∀i,i<n->f.getD i false=true:=fun i hi=>by
   have:=Qn.1 M i (Qa.2 hi)
   simpa using this
  have ap:f=zby n ops.size:=by
   apply Qh
   intro i
   by_cases hi:i<ops.size
   ·have z:i<f.size:=by rw[l.size];exact hi
    by_cases r:i<n
    ·have:=L i r;simp[z]at this;simp[zby,hi,r,z,this]
    have:=l.tail i (by omega) hi;simp[z]at this;simp[zby,hi,r,z,this]
   have z:¬i<f.size:=(by rw[l.size];exact hi);simp[zby,hi,z]
  have ac:(ops.toList.drop n).length=ops.size-n:=by simp
  have ha:=zdp a;rw[c.size,c.defers]at ha;have m:=c.jn;rw[zP (L q az)]at m
  have a3:wpList P ops Q (ops.toList.drop n) a w:=by
   rw[ha];refine hend _ w m fun t=>?_
   unfold za8
   split
   ·rename_i p;exact c.old t p
   rename_i j p;exact c.got j t p (L j (zbs p).1)
  have:=wpAny_of_seq (md:=.any) (Q':=Q) (ops.toList.drop n) n f a w (fun j=>by simp[Qi]) (by rw[ac,ap];exact an) a3;rw[ac]at this;rw[Qq];exact this
 | succ k ah =>
  intro f a w l M c
  have ar:∃i,i<n/\f.getD i false=false:=by
   have:0<cntU n f:=by omega
   obtain⟨i,hi,y⟩:=Qo.1 this;exact⟨i,Qa.1 hi,by simpa using y⟩
  obtain⟨af,Z,ab⟩:=ar;obtain⟨ba,a9,aa⟩:=zls X l af Z ab;rw[show k+1+(ops.size-n)=(k+(ops.size-n))+1 by omega];refine⟨(fun h0=>(by rw[h0]at aa;cases aa)),fun i hi=>?_⟩
  have r:i<n:=by
   rcases Qr i n with g|g
   ·exact g
   exact absurd hi (tail_waits A al h1 l _ af rfl Z (getD_in (by rw[l.size];omega) ab) i g)
  obtain⟨H,o,s,aq⟩:=mem_ready.1 hi;obtain⟨a7,a8,G,ak⟩:=zjh (am i o r s);have ha:=zdp a;rw[c.size,c.defers]at ha
  have S:∀t∈o.looksAt ops,za8 ops n a0 R (fun t=>a.eval (.tmp t)) w t:=fun t h=>by
   unfold za8
   split
   ·rename_i p;exact c.old t p
   rename_i j p;refine c.got j t p ?_;obtain⟨o',aw,e,B,hb,ax⟩:=Region.waitsFor_spec (ak t h j p);have:o'=o:=Qc (aw.symm.trans s);subst this;rw[<- ax];exact aq e B hb
  have Y:cntU n (f.setIfInBounds i true)=k:=by
   have:=zf3 (fun j=>!f.getD j false) (fun j=>!(f.setIfInBounds i true).getD j false) i (by simpa using getD_both H) (by have V:i<f.size:=(by rw[l.size];omega);simp[V]) (fun j m=>by simp only[getD_set_ne false (Ne.symm m)]) n r
   unfold cntU at M ⊢;omega
  have ae:(f.setIfInBounds i true).getD i false=true:=by have V:i<f.size:=(by rw[l.size];omega);simp[V]
  rcases G with⟨W,rfl⟩|⟨d,G,aj,J⟩
  ·have m:=c.jn;rw[getD_both H,zN (by simp)]at m;have E:=ad o s (fun t=>a.eval (.tmp t)) w m S;rw[<- ha]at E;refine zdq s (fun e a w B g=>by cases e<;>first|exact absurd rfl B|exact g) (fun ai w' g=>?_) E;obtain⟨v,rfl,-,U,a4⟩:=g;rw[W];refine ah _ _ _ (l.set hi r) Y ⟨c.size,c.defers,by rw[zP ae];exact U,c.old,fun j t h y=>?_⟩
   have D:i≠j:=fun e=>by subst e;have:=(zbs h).2;rw[s]at this;simp[W]at this
   rw[getD_set_ne false D]at y;exact hRq _ _ _ _ (Ne.symm D) (c.got j t h y) a4
  obtain⟨I,ao,E⟩:∃I:Xa->Prop,(∀w',I w'->(if(f.setIfInBounds i true).getD q false=true then J1 w' else J0 w')/\(i≠q->Mn w w')/\(i=q->Mq w w')) /\
    wpList P ops (zcc (zam a0.tmps.size a0.defers (fun t=>a.eval (.tmp t))) o.dst (R i) I) [o] (zam a0.tmps.size a0.defers (fun t=>a.eval (.tmp t))) w:=by
   by_cases u:i=q
   ·subst u;have m:=c.jn;rw[getD_both H,zN (by simp)]at m;simp only[ae,if_true];exact⟨_,fun w' g=>⟨g.1,fun A=>absurd rfl A,fun _=>g.2⟩,ad o s (fun t=>a.eval (.tmp t)) w m S⟩
   simp only[getD_set_ne false u]
   exact⟨_,fun w' g=>⟨g.1,fun _=>g.2,fun A=>absurd A u⟩,hstep i o r u s (fun t=>a.eval (.tmp t)) w (f.getD q false) (fun hb au=>by have:=zn6 ay l hb _ i rfl au;rw[getD_both H]at this;cases this) c.jn S⟩
  rw[<- ha]at E;refine zdq s (fun e a w B g=>by cases e<;>first|exact absurd rfl B|exact g) (fun ai w' g=>?_) E;obtain⟨v,rfl,a2,av⟩:=g;obtain⟨U,a5,a6⟩:=ao _ av;rw[G];have a1:d<a.tmps.size:=(by rw[c.size];exact aj);refine ah _ _ _ (l.set hi r) Y ⟨by rw[zfu];exact c.size,by rw[zfh];exact c.defers,U,fun t h=>?_,fun j t h y=>?_⟩
  ·rw[zc5 _ _ _ _ (fun e=>by subst e;rw[h]at J;cases J)];exact c.old t h
  by_cases O:d=t
  ·subst O;obtain rfl:j=i:=Qc (h.symm.trans J);rw[zer _ _ _ a1];exact a2
  rw[zc5 _ _ _ _ O]
  have D:i≠j:=fun e=>by subst e;have:=(zbs h).2;rw[s]at this;exact O (Qc (G.symm.trans this))
  rw[getD_set_ne false D]at y
  by_cases u:i=q
  ·exact hRq _ _ _ _ (fun e=>D (u.trans e.symm)) (c.got j t h y) (a6 u)
  exact hR _ _ _ _ (c.got j t h y) (a5 u)
def zes (P:Program)(ops:Array Oper)(n:Nat)(a0:Act)(J0 J1:Xa->Prop)(Mn Mq:Xa->Xa->Prop)(R:Nat->Xb->Xa->Prop):List Oper->List HF->Prop
 | o::l,.early r::rs=>(∀(x:Nat->Xb) (w:Xa),J0 w->za9 ops n a0 R x w (o.looksAt ops)->wpList P ops (zcc (zam a0.tmps.size a0.defers x) o.dst r (fun w'=>J0 w'/\Mn w w')) [o] (zam a0.tmps.size a0.defers x) w)/\zes P ops n a0 J0 J1 Mn Mq R l rs
 | o::l,.late r::rs=>(∀(x:Nat->Xb) (w:Xa) (b:Bool),(if b=true then J1 w else J0 w)->za9 ops n a0 R x w (o.looksAt ops)->wpList P ops (zcc (zam a0.tmps.size a0.defers x) o.dst r (fun w'=>(if b=true then J1 w' else J0 w')/\Mn w w')) [o] (zam a0.tmps.size a0.defers x) w)/\zes P ops n a0 J0 J1 Mn Mq R l rs
 | o::l,.store::rs=>(∀(x:Nat->Xb) (w:Xa),J0 w->za9 ops n a0 R x w (o.looksAt ops)->wpList P ops (zcc (zam a0.tmps.size a0.defers x) o.dst (fun _ _=>True) (fun w'=>J1 w'/\Mq w w')) [o] (zam a0.tmps.size a0.defers x) w)/\zes P ops n a0 J0 J1 Mn Mq R l rs
 | o::l,.move r::rs=>(∀(x:Nat->Xb) (w:Xa),J0 w->za9 ops n a0 R x w (o.looksAt ops)->wpList P ops (zcc (zam a0.tmps.size a0.defers x) o.dst r (fun w'=>J1 w'/\Mq w w')) [o] (zam a0.tmps.size a0.defers x) w)/\zes P ops n a0 J0 J1 Mn Mq R l rs
 | [],[]=>True
 | _,_=>False
def zty (P:Program)(ops:Array Oper)(n:Nat)(a0:Act)(J0 J1:Xa->Prop)(Mn Mq:Xa->Xa->Prop)(R:Nat->Xb->Xa->Prop)(o:Oper):HF->Prop
 | .early r=>∀(x:Nat->Xb) (w:Xa),J0 w->za9 ops n a0 R x w (o.looksAt ops)->wpList P ops (zcc (zam a0.tmps.size a0.defers x) o.dst r (fun w'=>J0 w'/\Mn w w')) [o] (zam a0.tmps.size a0.defers x) w
 | .late r=>∀(x:Nat->Xb) (w:Xa) (b:Bool),(if b=true then J1 w else J0 w)->za9 ops n a0 R x w (o.looksAt ops)->wpList P ops (zcc (zam a0.tmps.size a0.defers x) o.dst r (fun w'=>(if b=true then J1 w' else J0 w')/\Mn w w')) [o] (zam a0.tmps.size a0.defers x) w
 | .store=>∀(x:Nat->Xb) (w:Xa),J0 w->za9 ops n a0 R x w (o.looksAt ops)->wpList P ops (zcc (zam a0.tmps.size a0.defers x) o.dst (fun _ _=>True) (fun w'=>J1 w'/\Mq w w')) [o] (zam a0.tmps.size a0.defers x) w
 | .move r=>∀(x:Nat->Xb) (w:Xa),J0 w->za9 ops n a0 R x w (o.looksAt ops)->wpList P ops (zcc (zam a0.tmps.size a0.defers x) o.dst r (fun w'=>J1 w'/\Mq w w')) [o] (zam a0.tmps.size a0.defers x) w
theorem zlz:∀(l:List Oper) (rs:List HF),zes P ops n a0 J0 J1 Mn Mq R l rs->∀(i:Nat) (o:Oper),l[i]? = some o->∃f,rs[i]? = some f/\zty P ops n a0 J0 J1 Mn Mq R o f
 | [],_,_,i,o,ho=>by simp at ho
 | p::l,[],h,_,_,_=>h.elim
 | p::l,r::rs,h,0,o,ho=>by
  obtain rfl:p=o:=by simpa using ho
  refine⟨r,rfl,?_⟩;cases r<;>exact h.1
 | p::l,r::rs,h,i+1,o,ho=>by
  have a:zes P ops n a0 J0 J1 Mn Mq R l rs:=by cases r<;>exact h.2
  obtain⟨f,b,c⟩:=zlz l rs a i o (by simpa using ho);exact⟨f,by simpa using b,c⟩
theorem zjj {id:Nat}{w0:Xa}{l:List Oper}(a:List HF)(q:Nat)(J0 J1:Xa->Prop)(Mn Mq:Xa->Xa->Prop)(G:P.follows .mixedOrders=true)(B:zjg l.toArray a.length a0.tmps.size q (zqu a)=true)(J:zxj a q=true)(hR:∀f∈a,∀v w w',f.fact v w->Mn w w'->f.fact v w')(hRq:∀f∈a,f.isStore=false->∀v w w',f.fact v w->Mq w w'->f.fact v w')(hJ:J0 w0.drew)(hstep:zes P l.toArray a.length a0 J0 J1 Mn Mq (nthF a) (l.take a.length) a)(hend:∀(x:Nat->Xb) (w:Xa),J1 w->za9 l.toArray a.length a0 (nthF a) x w ((l.take a.length).filterMap (·.dst))->wpList P l.toArray Q (l.drop a.length) (zav a0 x ((l.take a.length).filterMap (·.dst))) w) :
  (Code.region id l.toArray true).wp P Q a0 w0:=by
 refine wp_region_any G ?_;obtain⟨h1,-,-,-,-,H,-⟩:=zf7 B
 have I:cntU a.length (Qg l.toArray.size false)=a.length:=by unfold cntU;rw[Qk.2 (fun i _=>by rw[getD_replicate_false];rfl)];exact Qs
 have D:∀i o,i<a.length->l[i]? = some o->∃f,a[i]? = some f/\zty P l.toArray a.length a0 J0 J1 Mn Mq (nthF a) o f:=fun i o hi p=>zlz _ _ hstep i o (by rw[Qe hi];exact p)
 have u:∀i f,a[i]? = some f->(f.isStore=true↔i=q):=fun i f c=>by have hi:=(Qy.1 c).1;have:=Qb.1 J i (Qa.2 hi);rw[c]at this;simp only[Ye,Yc,beq_iff_eq]at this;rw[this];simp
 have:=zuz (P:=P) (Q:=Q) (J0:=J0) (J1:=J1) (Mn:=Mn) (Mq:=Mq) (R:=nthF a) B (fun i v w w' e y=>by
   unfold nthF at e ⊢
   cases c:a[i]? with
   | none=>simp
   | some f=>rw[c]at e;exact hR f (Ql c) v w w' e y)
  (fun i v w w' s e y=>by
   unfold nthF at e ⊢
   cases c:a[i]?
   case none=>simp
   rename_i f
   rw[c]at e;refine hRq f (Ql c) ?_ v w w' e y
   cases h:f.isStore with
   | false=>rfl
   | true=>exact absurd ((u i f c).1 h) s)
  (fun i o hi s p x w b hb g k=>by
   obtain⟨f,c,h⟩:=D i o hi (by simpa using p);have z:nthF a i=f.fact:=(by unfold nthF;rw[c];rfl);rw[z]
   cases f with
   | early r =>
    have E:b=false:=by
     cases b with
     | false=>rfl
     | true=>refine absurd ?_ (hb rfl);unfold zqu;rw[Yf];exact⟨Qa.2 hi,by rw[c];rfl⟩
    subst E;exact h x w g (zbp _ k)
   | late r=>exact h x w b g (zbp _ k)
   | store=>exact absurd ((u i _ c).1 rfl) s
   | move r=>exact absurd ((u i _ c).1 rfl) s)
  (fun o p x w g k=>by
   obtain⟨f,c,h⟩:=D q o H (by simpa using p);have:=(u q f c).2 rfl;have z:nthF a q=f.fact:=(by unfold nthF;rw[c];rfl);rw[z]
   cases f with
   | early r=>cases this
   | late r=>cases this
   | store=>exact h x w g (zbp _ k)
   | move r=>exact h x w g (zbp _ k))
  (fun x w g e=>by rw[show l.toArray.toList=l by simp,zfd (fun t A=>by have:=e t;unfold za8 at this;rw[A]at this;exact this)];exact hend x w g (zbp _ fun t _=>e t))
  a.length (Qg l.toArray.size false) a0 { w0 with drawn:=w0.drawn+1 }
  ⟨by simp,fun j L _ m=>(by rw[getD_replicate_false]at m;cases m),fun t _ A=>getD_in (by simpa using A) (getD_replicate_false _ _)⟩ I
  ⟨rfl,rfl,by rw[getD_replicate_false];exact hJ,fun _ _=>rfl,fun j d _ m=>(by rw[getD_replicate_false]at m;cases m)⟩
 rw[show a.length+(l.toArray.size-a.length)=l.toArray.size by omega]at this;exact this
end
section
variable {P:Program} {ops:Array Oper} {Q:Exit->Act->Xa->Prop}
variable {n:Nat} {a0:Act} {w0:Xa} {F:Nat->Option (Xb->Prop)} {K:(Nat->Option Xb)->Xa->Prop}
def zmk (ops:Array Oper)(n N i:Nat)(o:Oper):Bool :=
 (o.after.toList.all fun e=>!Region.binds .any e||decide (e.on<i))&&(match o.dst with|none=>true|some d=>decide (d<N)&&(zbe ops n d==some i)) &&
  ((o.looksAt ops).all fun t=>match zbe ops n t with|none=>true|some j=>Region.waitsFor .any ops i j)
def zok (ops:Array Oper)(n N:Nat):Bool :=
 decide (n<ops.size)&&Region.sinkB .any ops n&&Region.chainB .any ops n&&((Qf n).all fun i=>match ops[i]? with|none=>false|some o=>zmk ops n N i o) &&
  Region.seqB .any ops (ops.size-n) n (zby n ops.size)
def zfo (st:Nat->Option Xb)(i:Nat)(v:Xb):Nat->Option Xb:=fun j=>if j=i then some v else st j
theorem zb2 (st:Nat->Option Xb)(i:Nat)(v:Xb):zfo st i v i=some v:=zP rfl
theorem zah (st:Nat->Option Xb){i j:Nat}(v:Xb)(h:j≠i):zfo st i v j=st j:=zN h
def zvf (A:Act)(dst:Option Tmp)(M:Xb->Xa->Prop):Exit->Act->Xa->Prop
 | .normal,a',w'=>∃v,a'=A.put dst v/\M v w'
 | _,_,_=>False
theorem za2 {A:Act}{b:Option Tmp}{a:Xb->Xa->Prop}{w':Xa}{v:Xb}(c:a v w'):zvf A b a .normal (A.put b v) w':=⟨v,rfl,c⟩
def zev (ops:Array Oper)(n:Nat)(a0:Act)(F:Nat->Option (Xb->Prop))(st:Nat->Option Xb)(x:Nat->Xb)(t:Nat):Prop :=
 match zbe ops n t with
 | none=>x t=a0.eval (.tmp t)
 | some j=>match F j with
  | some r=>r (x t)
  | none=>st j=some (x t)
structure RInvS (ops:Array Oper) (n:Nat) (a0:Act) (w0:Xa) (F:Nat->Option (Xb->Prop)) (K:(Nat->Option Xb)->Xa->Prop) (listed:Array Bool) (a:Act) (w:Xa) (st:Nat->Option Xb):Prop where
 size:a.tmps.size=a0.tmps.size
 defers:a.defers=a0.defers
 ext:Ext w0 w
 old:∀t,zbe ops n t=none->a.eval (.tmp t)=a0.eval (.tmp t)
 got:∀i d,zbe ops n d=some i->listed.getD i false=true->zev ops n a0 F st (fun t=>a.eval (.tmp t)) d
 off:∀i,listed.getD i false=false->st i=none
 on:∀i,i<n->F i=none->listed.getD i false=true->st i≠none
 k:K st w
theorem zk4 {N:Nat}(a:zok ops n N=true):n<ops.size/\Region.sinkB .any ops n=true/\Region.chainB .any ops n=true/\(∀i o,i<n->ops[i]? = some o->zmk ops n N i o=true)/\Region.seqB .any ops (ops.size-n) n (zby n ops.size)=true:=by
 simp only[zok,Qd,decide_eq_true_eq,Qb,Qa]at a;obtain⟨⟨⟨⟨h1,b⟩,c⟩,d⟩,e⟩:=a;exact⟨h1,b,c,fun i o hi f=>by have:=d i hi;rw[f]at this;exact this,e⟩
theorem zl8 {N i:Nat}{o:Oper}(b:zmk ops n N i o=true):(∀e∈o.after,Region.binds .any e=true->e.on<i)/\(o.dst=none ∨ ∃d,o.dst=some d/\d<N/\zbe ops n d=some i) /\
  (∀t∈o.looksAt ops,∀j,zbe ops n t=some j->Region.waitsFor .any ops i j=true):=by
 simp only[zmk,Qd,Qb]at b;obtain⟨⟨c,a⟩,f⟩:=b;refine⟨fun e h hb=>?_,?_,fun t l j k=>?_⟩
 ·have:=c e (by simpa using h)
  simpa[hb]using this
 ·cases g:o.dst with
  | none=>exact .inl rfl
  | some d=>rw[g]at a;simp at a;exact .inr ⟨d,rfl,a⟩
 have:=f t l;rw[k]at this;exact this
theorem zr0 {N:Nat}(g:zok ops n N=true){a:Array Bool}(o:HeadInv .any ops n a):∀i,i<n->a.getD i false=false->∃j,j<n/\j∈Region.ready .any ops a:=by
 obtain⟨h1,s,t,f,u⟩:=zk4 g;intro i
 induction i using Qp with
 | _ i ih =>
  intro hi l;have k:i<ops.size:=by omega
  have c:ops[i]? = some ops[i]:=by simp[k]
  obtain⟨d,p,r⟩:=zl8 (f i _ hi c)
  by_cases b:∀e∈(ops[i]).after,Region.binds .any e=true->a.getD e.on false=true
  ·refine⟨i,hi,mem_ready.2 ⟨?_,_,c,b⟩⟩;exact getD_in (by rw[o.size];omega) l
  simp only[Classical.not_forall]at b;obtain⟨e,h,hb,m⟩:=b;have:=d e h hb;exact ih e.on this (by omega) (by simpa using m)
theorem zl9 {st d:Nat->Option Xb}{x e:Nat->Xb}{t:Nat}(g:e t=x t)(f:∀j,zbe ops n t=some j->F j=none->d j=st j)(a:zev ops n a0 F st x t):zev ops n a0 F d e t:=by
 unfold zev at a ⊢;rw[g]
 split
 ·rename_i b;rw[b]at a;exact a
 rename_i j b;rw[b]at a;simp only at a ⊢
 split
 ·rename_i r c;rw[c]at a;exact a
 rename_i c;rw[c]at a;rw[f j b c];exact a
theorem zvg (Z:zok ops n a0.tmps.size=true)(hK:∀st w w',K st w->Ext w w'->K st w')(hstep:∀i o r,i<n->ops[i]? = some o->F i=some r->∀(x:Nat->Xb) (w:Xa) (st:Nat->Option Xb),Ext w0 w->K st w->(∀t∈o.looksAt ops,zev ops n a0 F st x t) ->
   wpList P ops (zhx (zam a0.tmps.size a0.defers x) o.dst (fun v _=>r v) w) [o] (zam a0.tmps.size a0.defers x) w)(ax:∀i o,i<n->ops[i]? = some o->F i=none->∀(x:Nat->Xb) (w:Xa) (st:Nat->Option Xb),Ext w0 w->K st w->st i=none->(∀t∈o.looksAt ops,zev ops n a0 F st x t) ->
   wpList P ops (zvf (zam a0.tmps.size a0.defers x) o.dst (fun v w'=>K (zfo st i v) w'/\Ext w0 w')) [o] (zam a0.tmps.size a0.defers x) w)(hend:∀(x:Nat->Xb) (w:Xa) (st:Nat->Option Xb),Ext w0 w->K st w->(∀i,i<n->F i=none->st i≠none)->(∀t,zev ops n a0 F st x t)->wpList P ops Q (ops.toList.drop n) (zam a0.tmps.size a0.defers x) w) :
  ∀(k:Nat) (c:Array Bool) (a:Act) (w:Xa),HeadInv .any ops n c->cntU n c=k->(∃st,RInvS ops n a0 w0 F K c a w st)->wpAny P .any ops Q (k+(ops.size-n)) c a w:=by
 obtain⟨h1,D,A,ao,ap⟩:=zk4 Z;intro k
 induction k with
 | zero =>
  intro c a w m U⟨st,b⟩
  have S:∀i,i<n->c.getD i false=true:=fun i hi=>by
   have:=Qn.1 U i (Qa.2 hi)
   simpa using this
  have aq:c=zby n ops.size:=by
   apply Qh
   intro i
   by_cases hi:i<ops.size
   ·have B:i<c.size:=by rw[m.size];exact hi
    by_cases p:i<n
    ·have:=S i p;simp[B]at this;simp[zby,hi,p,B,this]
    have:=m.tail i (by omega) hi;simp[B]at this;simp[zby,hi,p,B,this]
   have B:¬i<c.size:=(by rw[m.size];exact hi);simp[zby,hi,B]
  have ah:(ops.toList.drop n).length=ops.size-n:=by simp
  have ha:=zdp a;rw[b.size,b.defers]at ha
  have az:wpList P ops Q (ops.toList.drop n) a w:=by
   rw[ha];refine hend _ w st b.ext b.k (fun i hi L=>b.on i hi L (S i hi)) fun t=>?_
   cases s:zbe ops n t with
   | none=>unfold zev;rw[s];exact b.old t s
   | some j=>exact b.got j t s (S j (zbs s).1)
  have:=wpAny_of_seq (md:=.any) (Q':=Q) (ops.toList.drop n) n c a w (fun j=>by simp[Qi]) (by rw[ah,aq];exact ap) az;rw[ah]at this;rw[Qq];exact this
 | succ k al =>
  intro c a w m U⟨st,b⟩
  have au:∃i,i<n/\c.getD i false=false:=by
   have:0<cntU n c:=by omega
   obtain⟨i,hi,f⟩:=Qo.1 this;exact⟨i,Qa.1 hi,by simpa using f⟩
  obtain⟨ak,ac,af⟩:=au;obtain⟨a3,a2,ad⟩:=zr0 Z m ak ac af;rw[show k+1+(ops.size-n)=(k+(ops.size-n))+1 by omega];refine⟨(fun h0=>(by rw[h0]at ad;cases ad)),fun i hi=>?_⟩
  have p:i<n:=by
   rcases Qr i n with l|l
   ·exact l
   exact absurd hi (tail_waits D A h1 m _ ak rfl ac (getD_in (by rw[m.size];omega) af) i l)
  obtain⟨Y,o,y,ar⟩:=mem_ready.1 hi;obtain⟨a1,J,an⟩:=zl8 (ao i o p y);have ha:=zdp a;rw[b.size,b.defers]at ha
  have ab:∀t∈o.looksAt ops,zev ops n a0 F st (fun t=>a.eval (.tmp t)) t:=fun t g=>by
   cases s:zbe ops n t with
   | none=>unfold zev;rw[s];exact b.old t s
   | some j=>refine b.got j t s ?_;obtain⟨o',av,e,E,hb,M⟩:=Region.waitsFor_spec (an t g j s);have:o'=o:=Qc (av.symm.trans y);subst this;rw[<- M];exact ar e E hb
  have aa:cntU n (c.setIfInBounds i true)=k:=by
   have:=zf3 (fun j=>!c.getD j false) (fun j=>!(c.setIfInBounds i true).getD j false) i (by simpa using getD_both Y) (by have W:i<c.size:=(by rw[m.size];omega);simp[W]) (fun j G=>by simp only[getD_set_ne false (Ne.symm G)]) n p
   unfold cntU at U ⊢;omega
  have aw:(c.setIfInBounds i true).getD i false=true:=by have W:i<c.size:=(by rw[m.size];omega);simp[W]
  have I:∀(v:Xb) (w':Xa) (u:Nat->Option Xb),K u w'->(∀j,j≠i->u j=st j)->(match F i with|some r=>r v/\u i=none|none=>u i=some v)->Ext w0 w'->wpAny P .any ops Q (k+(ops.size-n)) (c.setIfInBounds i true) (a.put o.dst v) w':=by
   intro v w' u ae O z aj
   have ai:∀j,(c.setIfInBounds i true).getD j false=false->u j=none:=fun j f=>by
    have h:j≠i:=fun e=>by subst e;rw[aw]at f;cases f
    rw[O j h];rw[getD_set_ne false (Ne.symm h)]at f;exact b.off j f
   have M:∀j,j<n->F j=none->(c.setIfInBounds i true).getD j false=true->u j≠none:=fun j G L f=>by
    by_cases h:j=i
    ·subst h;rw[L]at z;simp only at z;rw[z];simp
    rw[O j h];rw[getD_set_ne false (Ne.symm h)]at f;exact b.on j G L f
   rcases J with gd|⟨d,J,g3',g3''⟩
   ·rw[gd];refine al _ _ _ (m.set hi p) aa ⟨u,b.size,b.defers,aj,b.old,fun j t g f=>?_,ai,M,ae⟩
    have h:j≠i:=fun e=>by subst e;have:=(zbs g).2;rw[y]at this;simp[gd]at this
    rw[getD_set_ne false (Ne.symm h)]at f;exact zl9 rfl (fun k hk _=>by rw[g]at hk;cases hk;exact O j h) (b.got j t g f)
   rw[J];have ay:d<a.tmps.size:=(by rw[b.size];exact g3');refine al _ _ _ (m.set hi p) aa ⟨u,by rw[zfu];exact b.size,by rw[zfh];exact b.defers,aj,fun t g=>?_,fun j t g f=>?_,ai,M,ae⟩
   ·rw[zc5 _ _ _ _ (fun e=>by subst e;rw[g]at g3'';cases g3'')];exact b.old t g
   by_cases V:d=t
   ·subst V;obtain rfl:j=i:=Qc (g.symm.trans g3'');unfold zev;rw[g];simp only;rw[zer _ _ _ ay]
    split
    ·rename_i r X;rw[X]at z;exact z.1
    rename_i X;rw[X]at z;exact z
   have h:j≠i:=fun e=>by
    subst e;have:=(zbs g).2;rw[y]at this;exact V (Qc (J.symm.trans this))
   rw[getD_set_ne false (Ne.symm h)]at f;exact zl9 (zc5 _ _ _ _ V) (fun k hk _=>by rw[g]at hk;cases hk;exact O j h) (b.got j t g f)
  cases hF:F i with
  | some r=>rw[hF]at I;have H:=hstep i o r p y hF (fun t=>a.eval (.tmp t)) w st b.ext b.k ab;rw[<- ha]at H;refine zdq y (fun e a w E l=>by cases e<;>first|exact absurd rfl E|exact l) (fun am w' l=>?_) H;obtain⟨v,rfl,D,A⟩:=l;exact I v w' st (hK _ _ _ b.k A) (fun _ _=>rfl) ⟨D,b.off i (getD_both Y)⟩ (b.ext.trans A)
  | none=>rw[hF]at I;have H:=ax i o p y hF (fun t=>a.eval (.tmp t)) w st b.ext b.k (b.off i (getD_both Y)) ab;rw[<- ha]at H;refine zdq y (fun e a w E l=>by cases e<;>first|exact absurd rfl E|exact l) (fun am w' l=>?_) H;obtain⟨v,rfl,D,A⟩:=l;exact I v w' (zfo st i v) D (fun j G=>zah st v G) (zb2 st i v) A
def zkg (ops:Array Oper)(n:Nat)(a0:Act)(F:Nat->Option (Xb->Prop))(st:Nat->Option Xb)(x:Nat->Xb):List Tmp->Prop
 | []=>True
 | t::l=>zev ops n a0 F st x t/\zkg ops n a0 F st x l
theorem ziu {st:Nat->Option Xb}{x:Nat->Xb}:∀l:List Tmp,(∀t∈l,zev ops n a0 F st x t)->zkg ops n a0 F st x l
 | [],_=>trivial
 | t::l,h=>⟨h t (by simp),ziu l fun s a=>h s (by simp[a])⟩
def nthS (Fs:List (Option (Xb->Prop)))(i:Nat):Option (Xb->Prop):=Fs.getD i none
def zf6 (P:Program)(ops:Array Oper)(n:Nat)(a0:Act)(w0:Xa)(F:Nat->Option (Xb->Prop))(K:(Nat->Option Xb)->Xa->Prop)(i:Nat)(o:Oper):Option (Xb->Prop)->Prop
 | some r=>∀(x:Nat->Xb) (w:Xa) (st:Nat->Option Xb),Ext w0 w->K st w->zkg ops n a0 F st x (o.looksAt ops)->wpList P ops (zhx (zam a0.tmps.size a0.defers x) o.dst (fun v _=>r v) w) [o] (zam a0.tmps.size a0.defers x) w
 | none=>∀(x:Nat->Xb) (w:Xa) (st:Nat->Option Xb),Ext w0 w->K st w->st i=none->zkg ops n a0 F st x (o.looksAt ops)->wpList P ops (zvf (zam a0.tmps.size a0.defers x) o.dst (fun v w'=>K (zfo st i v) w'/\Ext w0 w')) [o] (zam a0.tmps.size a0.defers x) w
def zew (P:Program)(ops:Array Oper)(n:Nat)(a0:Act)(w0:Xa)(F:Nat->Option (Xb->Prop))(K:(Nat->Option Xb)->Xa->Prop):Nat->List Oper->List (Option (Xb->Prop))->Prop
 | i,o::l,f::fs=>zf6 P ops n a0 w0 F K i o f/\zew P ops n a0 w0 F K (i+1) l fs
 | _,[],[]=>True
 | _,_,_=>False
theorem zma:∀(l:List Oper) (fs:List (Option (Xb->Prop))) (k:Nat),zew P ops n a0 w0 F K k l fs->∀(i:Nat) (o:Oper),l[i]? = some o->zf6 P ops n a0 w0 F K (k+i) o (nthS fs i)
 | [],_,_,_,i,o,ho=>by simp at ho
 | p::l,[],_,h,_,_,_=>h.elim
 | p::l,r::rs,k,h,0,o,ho=>by
  obtain rfl:p=o:=by simpa using ho
  exact h.1
 | p::l,r::rs,k,h,i+1,o,ho=>by
  have:=zma l rs (k+1) h.2 i o (by simpa using ho);rw[show k+(i+1)=k+1+i by omega]
  simpa[nthS]using this
theorem zc7 {id:Nat}{l:List Oper}(a:List (Option (Xb->Prop)))(K:(Nat->Option Xb)->Xa->Prop)(u:P.follows .mixedOrders=true)(p:zok l.toArray a.length a0.tmps.size=true)(hK:∀st w w',K st w->Ext w w'->K st w')(h0:K (fun _=>none) w0.drew)(hstep:zew P l.toArray a.length a0 w0 (nthS a) K 0 (l.take a.length) a)(hend:∀(x:Nat->Xb) (w:Xa) (st:Nat->Option Xb),Ext w0 w->K st w->(∀i,i<a.length->nthS a i=none->st i≠none)->zkg l.toArray a.length a0 (nthS a) st x ((l.take a.length).filterMap (·.dst))->wpList P l.toArray Q (l.drop a.length) (zav a0 x ((l.take a.length).filterMap (·.dst))) w) :
  (Code.region id l.toArray true).wp P Q a0 w0:=by
 refine wp_region_any u ?_;have h1:=(zk4 p).1
 have v:cntU a.length (Qg l.toArray.size false)=a.length:=by unfold cntU;rw[Qk.2 (fun i _=>by rw[getD_replicate_false];rfl)];exact Qs
 have s:∀i o,i<a.length->l[i]? = some o->zf6 P l.toArray a.length a0 w0 (nthS a) K i o (nthS a i):=fun i o hi f=>by
  have:=zma _ _ 0 hstep i o (by rw[Qe hi];exact f)
  rwa[Qq]at this
 have:=zvg (P:=P) (Q:=Q) (w0:=w0) (F:=nthS a) (K:=K) p hK
  (fun i o r hi f k x w st e hk g=>by have b:=s i o hi (by simpa using f);rw[k]at b;exact b x w st e hk (ziu _ g))
  (fun i o hi f k x w st e hk h g=>by have b:=s i o hi (by simpa using f);rw[k]at b;exact b x w st e hk h (ziu _ g))
  (fun x w st e hk h b=>by rw[show l.toArray.toList=l by simp,zfd (fun t m=>by have:=b t;unfold zev at this;rw[m]at this;exact this)];exact hend x w st e hk h (ziu _ fun t _=>b t))
  a.length (Qg l.toArray.size false) a0 { w0 with drawn:=w0.drawn+1 }
  ⟨by simp,fun j y _ c=>(by rw[getD_replicate_false]at c;cases c),fun t _ m=>getD_in (by simpa using m) (getD_replicate_false _ _)⟩ v
  ⟨fun _=>none,rfl,rfl,(Ext.refl w0).drew,fun _ _=>rfl,fun j d _ c=>(by rw[getD_replicate_false]at c;cases c),fun _ _=>rfl,fun j _ _ c=>(by rw[getD_replicate_false]at c;cases c),h0⟩
 rw[show a.length+(l.toArray.size-a.length)=l.toArray.size by omega]at this;exact this
end
def BoxK (N0 T:Nat)(zs:List Xb)(C:List Xb->(Nat->Prop)->Xa->Prop)(tup ag:List Xb->Xb)(i1 i2 i3 i4 i5:Nat)(st:Nat->Option Xb)(w:Xa):Prop :=
 ∃xs lo hi g,(∀v,st i1=some v->v=tup xs/\N0<=lo/\hi<=w.heap.size/\C xs (fun b=>lo<=b/\b<hi) w) /\
  (∀v,st i2=some v->st i1≠none/\v=tup xs)/\(∀v,st i3=some v->st i1≠none/\v=ag xs) /\
  (∀v,st i4=some v->v=.pointer (some ⟨g,0,none⟩)/\N0<=g/\g<w.heap.size/\(st i1≠none->¬(lo<=g/\g<hi))/\(st i5=none->RowIs w g T zs [])) /\
  (st i5≠none->st i1≠none/\st i4≠none/\RowIs w g T xs [])
section
variable {N0 T:Nat} {zs:List Xb} {C:List Xb->(Nat->Prop)->Xa->Prop} {tup ag:List Xb->Xb} {i1 i2 i3 i4 i5:Nat} {st:Nat->Option Xb} {w w':Xa}
theorem BoxK.start (w:Xa):BoxK N0 T zs C tup ag i1 i2 i3 i4 i5 (fun _=>Option.none) w:=⟨[],0,0,0,by simp,by simp,by simp,by simp,by simp⟩
theorem BoxK.ext (p:∀xs S w w',C xs S w->(∀b,S b->b<w.heap.size->w'.heap[b]? = w.heap[b]?)->C xs S w')(j:BoxK N0 T zs C tup ag i1 i2 i3 i4 i5 st w)(a:Ext w w'):BoxK N0 T zs C tup ag i1 i2 i3 i4 i5 st w':=by
 obtain⟨xs,lo,hi,g,h1,k,l,m,o⟩:=j;refine⟨xs,lo,hi,g,fun v h=>?_,k,l,fun v h=>?_,fun f=>?_⟩
 ·obtain⟨c,d,e,i⟩:=h1 v h;exact⟨c,d,Ya e a.size,p _ _ _ _ i fun b _ hb=>a.block b hb⟩
 ·obtain⟨c,d,e,i,r⟩:=m v h;exact⟨c,d,Qu e a.size,i,fun f=>(r f).ext a⟩
 obtain⟨c,d,e⟩:=o f;exact⟨c,d,e.ext a⟩
theorem BoxK.call {xs:List Xb}(r:i2≠i1/\i3≠i1/\i4≠i1/\i5≠i1)(e:BoxK N0 T zs C tup ag i1 i2 i3 i4 i5 st w)(h0:st i1=Option.none)(f:Ext w w')(o:N0<=w.heap.size)(p:C xs (fun b=>w.heap.size<=b/\b<w'.heap.size) w'):BoxK N0 T zs C tup ag i1 i2 i3 i4 i5 (zfo st i1 (tup xs)) w':=by
 obtain⟨y,lo,hi,g,h1,j,k,l,m⟩:=e;obtain⟨d1,h,i,d⟩:=r;refine⟨xs,w.heap.size,w'.heap.size,g,fun v a=>?_,fun v a=>?_,fun v a=>?_,fun v a=>?_,fun c=>?_⟩
 ·rw[zb2]at a;cases a;exact⟨rfl,o,Nat.le_refl _,p⟩
 ·rw[zah st _ d1]at a;exact absurd h0 (j v a).1
 ·rw[zah st _ h]at a;exact absurd h0 (k v a).1
 ·rw[zah st _ i]at a;obtain⟨s,t,u,-,x⟩:=l v a;exact⟨s,t,Qu u f.size,fun _ e=>by omega,fun c=>(x (by rwa[zah st _ d]at c)).ext f⟩
 rw[zah st _ d]at c;exact absurd h0 (m c).1
theorem BoxK.move {v:Xb}(l:i1≠i2/\i3≠i2/\i4≠i2/\i5≠i2)(h:BoxK N0 T zs C tup ag i1 i2 i3 i4 i5 st w)(e:st i1=some v):BoxK N0 T zs C tup ag i1 i2 i3 i4 i5 (zfo st i2 v) w:=by
 obtain⟨xs,lo,hi,g,h1,m,i,j,k⟩:=h;obtain⟨d1,f,b,c⟩:=l;refine⟨xs,lo,hi,g,fun u a=>h1 u (by rwa[zah st _ d1]at a),fun u a=>?_,fun u a=>?_,fun u a=>?_,fun d=>?_⟩
 ·rw[zb2]at a;cases a;rw[zah st _ d1,e];exact⟨by simp,(h1 v e).1⟩
 ·rw[zah st _ f]at a;rw[zah st _ d1];exact i u a
 ·rw[zah st _ b]at a;rw[zah st _ d1,zah st _ c];exact j u a
 rw[zah st _ c]at d;rw[zah st _ d1,zah st _ b];exact k d
theorem BoxK.part {v:Xb}(l:i1≠i3/\i2≠i3/\i4≠i3/\i5≠i3)(i:BoxK N0 T zs C tup ag i1 i2 i3 i4 i5 st w)(m:st i2=some v):∃xs S,v=tup xs/\C xs S w/\BoxK N0 T zs C tup ag i1 i2 i3 i4 i5 (zfo st i3 (ag xs)) w:=by
 obtain⟨xs,lo,hi,g,h1,d,r,j,k⟩:=i;obtain⟨d1,h,b,c⟩:=l;obtain⟨f,p⟩:=d v m;obtain⟨v1,o⟩:=Qj.1 f;refine⟨xs,_,p,(h1 v1 o).2.2.2,xs,lo,hi,g,fun u a=>h1 u (by rwa[zah st _ d1]at a),fun u a=>?_,fun u a=>?_,fun u a=>?_,fun e=>?_⟩
 ·rw[zah st _ h]at a;rw[zah st _ d1];exact d u a
 ·rw[zb2]at a;cases a;rw[zah st _ d1];exact⟨f,rfl⟩
 ·rw[zah st _ b]at a;rw[zah st _ d1,zah st _ c];exact j u a
 rw[zah st _ c]at e;rw[zah st _ d1,zah st _ b];exact k e
theorem BoxK.alloc (o:∀xs S w w',C xs S w->(∀b,S b->b<w.heap.size->w'.heap[b]? = w.heap[b]?)->C xs S w')(r:i1≠i4/\i2≠i4/\i3≠i4/\i5≠i4)(i:BoxK N0 T zs C tup ag i1 i2 i3 i4 i5 st w)(h0:st i4=Option.none)(p:N0<=w.heap.size):BoxK N0 T zs C tup ag i1 i2 i3 i4 i5 (zfo st i4 (.pointer (some ⟨w.heap.size,0,Option.none⟩))) (w.alloc (.cells zs.toArray T)):=by
 have d:=(Ext.refl w).alloc (.cells zs.toArray T);obtain⟨xs,lo,hi,g,h1,j,k,z,l⟩:=i;obtain⟨d1,e,f,h⟩:=r;have m:st i5=Option.none:=Classical.byContradiction fun c=>(l c).2.1 h0
 refine⟨xs,lo,hi,w.heap.size,fun u a=>?_,fun u a=>?_,fun u a=>?_,fun u a=>?_,fun c=>?_⟩
 ·rw[zah st _ d1]at a;obtain⟨t,v,x,y⟩:=h1 u a;exact⟨t,v,Ya x d.size,o _ _ _ _ y fun b _ hb=>d.block b hb⟩
 ·rw[zah st _ e]at a;rw[zah st _ d1];exact j u a
 ·rw[zah st _ f]at a;rw[zah st _ d1];exact k u a
 ·rw[zb2]at a;cases a;refine⟨rfl,p,by simp,fun c=>?_,fun _=>by unfold RowIs;rw[List.append_nil];exact Go.heap_alloc_new w _⟩;rw[zah st _ d1]at c;obtain⟨v1,s⟩:=Qj.1 c;have:=(h1 v1 s).2.2.1;omega
 rw[zah st _ h,m]at c;exact absurd rfl c
theorem BoxK.store {v3 k:Xb}(B:∀xs S w w',C xs S w->(∀b,S b->b<w.heap.size->w'.heap[b]? = w.heap[b]?)->C xs S w')(E:i1≠i5/\i2≠i5/\i3≠i5/\i4≠i5)(z:BoxK N0 T zs C tup ag i1 i2 i3 i4 i5 st w)(A:st i3=some v3)(m:st i4=some k)(h0:st i5=Option.none) :
  ∃xs S g,v3=ag xs/\k=.pointer (some ⟨g,0,Option.none⟩)/\N0<=g/\RowIs w g T zs []/\C xs S w/\∀w' u,RowIs w' g T xs []->w.heap.size<=w'.heap.size->(∀b,b≠g->w'.heap[b]? = w.heap[b]?)->BoxK N0 T zs C tup ag i1 i2 i3 i4 i5 (zfo st i5 u) w':=by
 obtain⟨xs,lo,hi,g,p,J,r,s,U⟩:=z;obtain⟨d1,t,v,l⟩:=E;obtain⟨j,x⟩:=r v3 A;obtain⟨v1,I⟩:=Qj.1 j;obtain⟨y,L,V,M,O⟩:=s k m;have D:=(p v1 I).2.2.2;refine⟨xs,_,g,x,y,L,O h0,D,fun w' u G o H=>?_⟩;refine⟨xs,lo,hi,g,fun u a=>?_,fun u a=>?_,fun u a=>?_,fun u a=>?_,fun c=>?_⟩
 ·rw[zah st _ d1]at a;obtain⟨d,f,h,i⟩:=p u a;exact⟨d,f,Ya h o,B _ _ _ _ i fun b hb _=>H b fun e=>M j (e▸hb)⟩
 ·rw[zah st _ t]at a;rw[zah st _ d1];exact J u a
 ·rw[zah st _ v]at a;rw[zah st _ d1];exact r u a
 ·rw[zah st _ l]at a;rw[zah st _ d1];obtain⟨d,f,h,i,W⟩:=s u a;exact⟨d,f,Qu h o,i,fun c=>by rw[zb2]at c;cases c⟩
 rw[zah st _ d1,zah st _ l];exact⟨j,by rw[m];simp,G⟩
theorem BoxK.done {a:Xb}(d:BoxK N0 T zs C tup ag i1 i2 i3 i4 i5 st w)(e:st i4=some a)(f:st i5≠Option.none) :
  ∃xs S g,a=.pointer (some ⟨g,0,Option.none⟩)/\N0<=g/\RowIs w g T xs []/\C xs S w/\¬S g:=by
 obtain⟨xs,lo,hi,g,j,p,r,k,l⟩:=d;obtain⟨b,u,h⟩:=l f;obtain⟨v1,i⟩:=Qj.1 b;obtain⟨c,m,s,o,t⟩:=k a e;exact⟨xs,_,g,c,m,h,(j v1 i).2.2.2,o b⟩
end
end
section
open Go Go.RowKit
section
variable {P:Program} {ops:Array Oper} {Q:Exit->Act->Xa->Prop}
def QN (K:Act->Xa->Prop):Exit->Act->Xa->Prop
 | .normal,a,w=>K a w
 | _,_,_=>False
theorem yj0 {K:Act->Xa->Prop}:∀e a w,e≠.normal->QN K e a w->False:=fun e a w h=>by cases e<;>simp[QN]at h ⊢
theorem yhk {k m:Nat}:(zby k m).setIfInBounds k true=zby (k+1) m:=by
 apply Qh
 intro i
 by_cases hi:i<m
 ·by_cases hk:k=i
  ·subst hk;simp[zby,hi]
  simp[zby,hi,Qt,hk];omega
 simp[zby,hi,Qt]
def yhv (ops:Array Oper):Nat->Nat->Bool
 | 0,_=>true
 | c+1,k=>decide (Region.ready .any ops (zby k ops.size) = [k])&&yhv ops c (k+1)
theorem yhq {K:Act->Xa->Prop}{g:Nat}:∀(l:List Oper) (k:Nat) (a:Act) (w:Xa),(∀j,j<l.length->l[j]? = ops[k+j]?)->yhv ops l.length k=true ->
  (∀a w,K a w->wpAny P .any ops Q g (zby (k+l.length) ops.size) a w)->wpList P ops (QN K) l a w->wpAny P .any ops Q (l.length+g) (zby k ops.size) a w
 | [],k,a,w,_,_,hK,h=>by rw[List.length_nil,Qq];exact hK a w h
 | o::l,k,a,w,hl,hB,hK,h=>by
  have h0:ops[k]? = some o:=by simpa using(hl 0 (by simp)).symm
  simp only[Qm,yhv,Qd,decide_eq_true_eq]at hB;rw[Qm,show l.length+1+g=(l.length+g)+1 by omega];refine⟨fun h1=>(by rw[hB.1]at h1;cases h1),fun i hi=>?_⟩;rw[hB.1]at hi;have e:i=k:=by simpa using hi
  subst e
  have b:∀a w,wpList P ops (QN K) l a w->wpAny P .any ops Q (l.length+g) ((zby i ops.size).setIfInBounds i true) a w:=fun a w d=>by
   rw[yhk]
   exact yhq l (i+1) a w (fun j f=>by have:=hl (j+1) (by simp;omega);simpa[Nat.add_assoc,Nat.add_comm 1 j]using this) hB.2
    (fun a w hk=>by rw[show i+1+l.length=i+(o::l).length by simp;omega];exact hK a w hk) d
  unfold wpOp;rw[h0]
  by_cases c:Region.wanted o (yielded ops a.tmps)=true
  ·simp only[wpList,c,if_true]at h ⊢;rcases h with h|⟨_,a1,w1,h⟩
   ·exact .inl (zzg b yj0 h)
   exact(yj0 _ _ _ (by simp) h).elim
  simp only[wpList,zN c]at h ⊢;exact b _ _ h
def yim (ops:Array Oper)(n:Nat):Bool :=
 (Qf ops.size).all fun t=>decide (t<=n)||(Qf t).any fun j=>decide (n<=j)&&Region.waitsFor .any ops t j
theorem yhz {n:Nat}{c:Array Bool}(B:Region.sinkB .any ops n=true)(y:yim ops n=true)(I:n<ops.size)(l:HeadInv .any ops n c) :
  ∀(d i:Nat),n-i=d->i<n->c.getD i true=false->∀t,n<=t->t∉Region.ready .any ops c:=by
 intro d
 induction d using Qp with
 | _ d ih =>
  intro i G hi u t J s;obtain⟨_,x,k,m⟩:=mem_ready.1 s;have D:t<ops.size:=(Qw.1 k).1
  by_cases E:t=n
  ·subst E;have h1:=Qb.1 B i (Qa.2 hi);obtain⟨j,h,b⟩:=Qz.1 h1;simp only[Qd,decide_eq_true_eq]at b;obtain⟨v,r,e,f,hb,g⟩:=Region.waitsFor_spec b.2;have H:j<=t:=by have:=Qa.1 h;omega
   by_cases o:j=t
   ·subst o;have:v=x:=Qc (r.symm.trans k);subst this;have a:=m e f hb;rw[g,getD_both u]at a;cases a
   cases p:c.getD j false with
   | true=>have a:=l.closed j v r p e f hb;rw[g,getD_both u]at a;cases a
   | false=>have z:j<c.size:=(by rw[l.size];omega);exact ih (t-j) (by omega) j rfl (by omega) (getD_in z p) t (Nat.le_refl _) s
  have h1:=Qb.1 y t (Qa.2 D);simp only[Yd,decide_eq_true_eq]at h1;rcases h1 with h1|h1
  ·omega
  obtain⟨j,h,b⟩:=Qz.1 h1;simp only[Qd,decide_eq_true_eq]at b;have o:=Qa.1 h;obtain⟨o',A,e,f,hb,g⟩:=Region.waitsFor_spec b.2;have:o'=x:=Qc (A.symm.trans k);subst this;have a:=m e f hb;rw[g,getD_both (l.tail j b.1 (by omega))]at a;cases a
theorem yih {n i:Nat}{r:Oper}{v:Xb}{w:Xa}{L:Array Bool->Act->Prop}(hi:ops[i]? = some r)(J:∀(j:Nat) (o:Oper) cs b,ops[j]? = some o->o.op≠.select cs b)(I:Region.sinkB .any ops n=true)(A:yim ops n=true)(H:n<ops.size)(D:i<n)(U:∀c a,L c a->∀j∈Region.ready .any ops c,n<=j) :
  ∀(f:Nat) (c:Array Bool) (a:Act),HeadInv .any ops n c ->
   (∀j p,ops[j]? = some p->j≠i->c.getD j true=false->(∀e∈p.after,Region.binds .any e=true->e.on≠i)->r.apart ops p=true) ->
   i∈Region.ready .any ops c->YieldsAt P ops w r v a ->
   wpAnyL P .any ops w n L f (c.setIfInBounds i true) (a.put r.dst v)->wpAnyL P .any ops w n L (f+1) c a:=by
 intro f
 induction f with
 | zero =>
  intro c a x _ h u s;have m:=(mem_ready.1 h).1;refine⟨fun d=>(by rw[d]at h;cases h),fun j l=>?_⟩
  have t:j<n:=by
   rcases Qr j n with d|d
   ·exact d
   exact absurd l (yhz I A H x _ i rfl D m j d)
  refine⟨t,?_⟩
  by_cases g:j=i
  ·subst g;exact u.stOp hi s
  have:=U _ _ s j (ready_mono l g);omega
 | succ f ab =>
  intro c a x B h u s;have m:=(mem_ready.1 h).1;refine⟨fun d=>(by rw[d]at h;cases h),fun j l=>?_⟩
  have t:j<n:=by
   rcases Qr j n with d|d
   ·exact d
   exact absurd l (yhz I A H x _ i rfl D m j d)
  refine⟨t,?_⟩
  by_cases g:j=i
  ·subst g;exact u.stOp hi s
  have h1:=(s.2 j (ready_mono l g)).2;obtain⟨G,p,y,S⟩:=mem_ready.1 l
  have aa:∀e∈p.after,Region.binds .any e=true->e.on≠i:=fun e V hb W=>by have h1:=S e V hb;rw[W,getD_both m]at h1;cases h1
  have O:=stOp_put y (B j p y g G aa) (fun cs b=>J i r cs b hi) (fun cs b=>J j p cs b y) u h1
  have X:∀k ok,ops[k]? = some ok->k≠i->(c.setIfInBounds j true).getD k true=false ->
    (∀e∈ok.after,Region.binds .any e=true->e.on≠i)->r.apart ops ok=true:=fun k ok hk Y m Z=>by
   refine B k ok hk Y ?_ Z
   by_cases E:j=k
   ·subst E;exact G
   rw[getD_set_ne true E]at m;exact m
  refine stOp_mono (fun M z=>ab (c.setIfInBounds j true) M (x.set l t) X (ready_mono h (Ne.symm g)) z.1 ?_) O;rw[Array.setIfInBounds_comm _ _ g];exact z.2
def yh4 (ops:Array Oper):Nat->Nat->Bool
 | 0,_=>true
 | c+1,k=>(Region.ready .any ops (zby k ops.size)).contains k&&Region.free .any ops (zby k ops.size) k&&yh4 ops c (k+1)
def cutB (ops:Array Oper)(k n:Nat):Bool :=
 Region.noSelect ops&&decide (n<ops.size)&&Region.sinkB .any ops n&&yim ops n&&yh4 ops (n-k) k&&((Region.ready .any ops (zby n ops.size)).all fun j=>decide (n<=j)) &&
  (Qf k).all fun j=>match ops[j]? with|none=>true|some o=>o.after.toList.all fun e=>!Region.binds .any e||decide (e.on<k)
theorem yh0 {n:Nat}{w:Xa}{b:Act->Prop}(p:Region.noSelect ops=true)(m:Region.sinkB .any ops n=true)(d:yim ops n=true)(g:n<ops.size)(e:∀j∈Region.ready .any ops (zby n ops.size),n<=j) :
  ∀(l:List Oper) (k:Nat) (a:Act),(∀j,j<l.length->l[j]? = ops[k+j]?)->k+l.length=n->HeadInv .any ops n (zby k ops.size) ->
  yh4 ops l.length k=true->wpStill P ops w b l a ->
  wpAnyL P .any ops w n (fun r c=>r=zby n ops.size/\b c) l.length (zby k ops.size) a
 | [],k,a,_,hk,_,_,h=>by
  have:k=n:=by simpa using hk
  subst this;exact⟨rfl,h⟩
 | o::l,k,a,hl,hk,inv,hB,h=>by
  have h0:ops[k]? = some o:=by simpa using(hl 0 (by simp)).symm
  simp only[Qm,yh4,Qd]at hB;obtain⟨⟨y,u⟩,s⟩:=hB;have f:k<n:=by simp only[Qm]at hk;omega
  have i:k∈Region.ready .any ops (zby k ops.size):=by simpa using y
  have z:stOp P ops w k (wpStill P ops w b l) a:=by unfold stOp;simp only[h0];exact h
  obtain⟨v,A,hK⟩:=yieldsAt_of_stOp h0 z;have x:HeadInv .any ops n (zby (k+1) ops.size):=by rw[<- yhk];exact inv.set i f
  refine yih h0 (Region.noSelect_spec p) m d g f (fun r c t=>by rw[t.1];exact e) l.length _ a inv (Region.free_spec h0 u) i A ?_;rw[yhk];exact yh0 p m d g e l (k+1) _ (fun j B=>by have:=hl (j+1) (by simp;omega);simpa[Nat.add_assoc,Nat.add_comm 1 j]using this) (by simp only[Qm]at hk;omega) x s hK
theorem yhd {k m j:Nat}(a:j<m)(d:Bool):(zby k m).getD j d=decide (j<k):=by
 simp[zby,a]
theorem yhe {k n:Nat}{w:Xa}{a:Act}(h:cutB ops k n=true)(hk:k<=n)(o:wpStill P ops w (fun c=>wpAny P .any ops Q (ops.size-n) (zby n ops.size) c w) ((ops.toList.drop k).take (n-k)) a):wpAny P .any ops Q (ops.size-k) (zby k ops.size) a w:=by
 simp only[cutB,Qd,decide_eq_true_eq]at h;obtain⟨⟨⟨⟨⟨⟨B,z⟩,A⟩,r⟩,D⟩,u⟩,s⟩:=h;have d:((ops.toList.drop k).take (n-k)).length=n-k:=by simp;omega
 have G:HeadInv .any ops n (zby k ops.size):=by
  refine⟨by simp[zby],fun j M b l e v hb=>?_,fun t I E=>by rw[yhd E];simp;omega⟩;have y:=(Qw.1 b).1;rw[yhd y]at l;have x:j<k:=by simpa using l
  have h1:=Qb.1 s j (Qa.2 x);rw[b]at h1;have f:=Qb.1 h1 e (by simpa using v);rw[hb]at f;have p:e.on<k:=by simpa using f
  rw[yhd (by omega)]
  simpa using p
 have m:=yh0 (P:=P) (w:=w) B A r z (fun j b=>by simpa using Qb.1 u j b) ((ops.toList.drop k).take (n-k)) k a
  (fun j b=>by rw[d]at b;rw[Qe b,Qi];simp) (by rw[d];omega) G (by rw[d];exact D) o
 have:=wpAny_of_head (md:=.any) (Q':=Q) (g:=ops.size-n) (L:=fun H c=>H=zby n ops.size/\wpAny P .any ops Q (ops.size-n) (zby n ops.size) c w)
  (fun J c i=>by rw[i.1];exact i.2) _ _ _ m
 rw[d,show n-k+(ops.size-n)=ops.size-k by omega]at this;exact this
theorem yjk {k:Nat}{w:Xa}{a:Act}(d:Region.seqB .any ops (ops.size-k) k (zby k ops.size)=true)(c:wpList P ops Q (ops.toList.drop k) a w):wpAny P .any ops Q (ops.size-k) (zby k ops.size) a w:=by
 have b:(ops.toList.drop k).length=ops.size-k:=by simp
 have:=wpAny_of_seq (md:=.any) (Q':=Q) (ops.toList.drop k) k (zby k ops.size) a w (fun j=>by simp[Qi]) (by rw[b];exact d) c;rw[b]at this;exact this
theorem yii {id:Nat}{l:List Oper}{a:Act}{w:Xa}(d:P.follows .mixedOrders=true)(c:wpAny P .any l.toArray Q (l.toArray.size-0) (zby 0 l.toArray.size) a { w with drawn:=w.drawn+1 }):(Code.region id l.toArray true).wp P Q a w:=by
 refine wp_region_any d ?_;rw[Nat.sub_zero]at c
 have e:Qg l.toArray.size false=zby 0 l.toArray.size:=by
  apply Qh
  intro i
  by_cases hi:i<l.toArray.size
  ·have b:i<l.length:=(by simpa using hi);simp[zby,b]
  have b:¬i<l.length:=(by simpa using hi);simp[zby,b]
 rw[e];exact c
theorem yh5 {k:Nat}(n:Nat){w:Xa}{a:Act}(hk:k<=n)(f:n<=ops.size)(e:yhv ops (n-k) k=true)(d:wpList P ops (QN fun a w=>wpAny P .any ops Q (ops.size-n) (zby n ops.size) a w) ((ops.toList.drop k).take (n-k)) a w):wpAny P .any ops Q (ops.size-k) (zby k ops.size) a w:=by
 have b:((ops.toList.drop k).take (n-k)).length=n-k:=by simp;omega
 have:=yhq (P:=P) (Q:=Q) (g:=ops.size-n) ((ops.toList.drop k).take (n-k)) k a w (fun j c=>by rw[b]at c;rw[Qe c,Qi];simp) (by rw[b];exact e)
  (fun a w hK=>by rw[b,show k+(n-k)=n by omega];exact hK) d
 rw[b,show n-k+(ops.size-n)=ops.size-k by omega]at this;exact this
end
end
end Go.Proofs.YtaabaflgeljbjaaGreat
