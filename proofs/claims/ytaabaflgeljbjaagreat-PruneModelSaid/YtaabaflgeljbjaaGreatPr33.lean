/- Laws. -/
import Derived.Test.YtaabaflgeljbjaaGreatPr25
import Derived.Test.YtaabaflgeljbjaaGreatPr07
set_option linter.unusedVariables false
set_option linter.unusedSimpArgs false
set_option maxRecDepth 100000
set_option maxHeartbeats 40000000
namespace Go.Proofs.YtaabaflgeljbjaaGreat
open Go renaming World→Xa,Value→Xb
open Option renaming some.inj→Qa,isSome_iff_exists→Qb
section
open Go.RowKit
section
variable {P:Program} {ops:Array Oper} {Q:Exit->Act->Xa->Prop}
theorem zrj {b d:Nat}{row:String}{args:Array Xb}{w:Xa}{R:Xb->Xa->Prop}(a:Rows P row args w R):RowsIn (Fence.wide.inRound b) d P row args w R :=
 fun c cs _=>let ⟨v,w',r,s⟩:=a c cs;⟨v,w',r,stepsIn_wide.2 s⟩
theorem zxq {g j:Nat}{o:Oper}{a:Act}{w:Xa}{K:Act->Xa->Prop}(h:∀c,o.op≠.defer c)(b:o.wp P a w K Q):o.wpIn (Fence.wide.inRound g) j P a w K Q:=by
 refine⟨fun _ _=>trivial,?_⟩;rw[Oper.semAt_eq _ _ _ h];unfold Oper.wp at b;generalize (execOp a.eval o).run P w=r at b ⊢
 cases r with
 | ok x w' =>
  cases x with
  | value v=>exact b
  | skip=>exact b
  | defer d=>exact b
  | enter f args=>refine⟨fun b=>by simp[Fence.wide]at b,CallsIn.inRound g (callsIn_wide.2 (Calls.mono b fun e k i=>?_))⟩;cases e<;>exact i
  | row row args=>exact⟨fun b=>by simp[Fence.wide]at b,zrj b⟩
  | _=>exact b.elim
 | halt x w'=>cases x<;>exact b
theorem zxr {j k:Nat}{i:Nat}{K f:Act->Xa->Prop}{a:Act}{w:Xa}(h:LetsOut Q->False)(g:∀(i:Nat) (o:Oper),ops[i]? = some o->∀c,o.op≠.defer c)(hK:∀a w,K a w->f a w)(b:wpOp P ops Q i K a w):wpOpIn (Fence.wide.inRound j) k P ops Q i f a w:=by
 refine wpOpIn_mono hK ?_;unfold wpOp at b;unfold wpOpIn
 cases d:ops[i]?
 case none=>rw[d]at b;exact b
 rename_i o
 rw[d]at b;simp only at b ⊢
 split
 ·rename_i e;rw[zP e]at b;exact zxq (g i o d) (b.resolve_right fun b=>h b.2)
 rename_i e;rw[zN e]at b;exact⟨fun _ _=>trivial,b⟩
theorem zoa {g h:Nat}{md:Region.Mode}(f:LetsOut Q->False)(e:∀(i:Nat) (o:Oper),ops[i]? = some o->∀c,o.op≠.defer c):∀(d:Nat) (listed:Array Bool) (a:Act) (w:Xa),wpAny P md ops Q d listed a w->wpAnyIn (Fence.wide.inRound g) h P md ops Q d listed a w
 | 0,_,_,_,b=>b
 | d+1,listed,a,w,b=>⟨b.1,fun i hi=>zxr f e (fun a w b=>zoa f e d _ a w b) (b.2 i hi)⟩
end
section
variable {P:Program} {Q:Exit->Act->Xa->Prop} {a0:Act}
end
def LowP (v:Xb)(w:Xa):Prop:=∃g,v=.pointer (some ⟨g,0,none⟩)/\g<w.heap.size
def FreshP (v:Xb)(w w':Xa):Prop:=∃g,v=.pointer (some ⟨g,0,none⟩)/\w.heap.size<=g/\g<w'.heap.size
theorem LowP.ext {v:Xb}{w w':Xa}(a:LowP v w)(b:Ext w w'):LowP v w':=by obtain⟨g,e,a⟩:=a;exact⟨g,e,Nat.lt_of_lt_of_le a b.size⟩
theorem FreshP.low {v:Xb}{w w':Xa}(h:FreshP v w w'):LowP v w':=by obtain⟨g,e,_,h⟩:=h;exact⟨g,e,h⟩
theorem FreshP.ne {u v:Xb}{w w':Xa}(a:FreshP v w w')(b:LowP u w):u≠v:=by
 obtain⟨g,rfl,h1,_⟩:=a;obtain⟨c,rfl,d⟩:=b;intro e;simp only[Value.pointer.injEq,Option.some.injEq,Addr.mk.injEq,and_true]at e;omega
def zbg (fr:List Nat)(dst:Option Tmp)(r:Xb->Xa->Prop)(w:Xa)(v:Xb)(w':Xa):Prop:=r v w'/\match dst with
 | none=>True
 | some d=>d∈fr->FreshP v w w'
section
variable {P:Program} {ops:Array Oper} {Q:Exit->Act->Xa->Prop}
variable {n N:Nat} {a0:Act} {w0:Xa} {R:Nat->Xb->Xa->Prop} {fr:List Nat}
structure RInvA (ops:Array Oper) (n:Nat) (fr:List Nat) (listed:Array Bool) (a:Act) (w:Xa):Prop where
 low:∀d i,d∈fr->zbe ops n d=some i->listed.getD i false=true->LowP (a.eval (.tmp d)) w
 apart:∀d i e j,d∈fr->e∈fr->d≠e->zbe ops n d=some i->zbe ops n e=some j->listed.getD i false=true->listed.getD j false=true->a.eval (.tmp d)≠a.eval (.tmp e)
theorem zu2 (S:zhw ops n a0.tmps.size=true)(hR:∀i v w w',R i v w->Ext w w'->R i v w')(hstep:∀i o,i<n->ops[i]? = some o->∀(x:Nat->Xb) (w:Xa),Ext w0 w->(∀t∈o.looksAt ops,za8 ops n a0 R x w t)->wpList P ops (zhx (zam a0.tmps.size a0.defers x) o.dst (zbg fr o.dst (R i) w) w) [o] (zam a0.tmps.size a0.defers x) w)(hend:∀(x:Nat->Xb) (w:Xa),Ext w0 w->(∀t,za8 ops n a0 R x w t)->(∀d e,d∈fr->e∈fr->d≠e->(zbe ops n d).isSome=true->(zbe ops n e).isSome=true->x d≠x e)->wpList P ops Q (ops.toList.drop n) (zam a0.tmps.size a0.defers x) w) :
  ∀(k:Nat) (b:Array Bool) (a:Act) (w:Xa),HeadInv .any ops n b->cntU n b=k->RInv ops n a0 w0 R b a w->RInvA ops n fr b a w->wpAny P .any ops Q (k+(ops.size-n)) b a w:=by
 obtain⟨h1,I,ad,ae,af⟩:=zha S;intro k
 induction k with
 | zero =>
  intro b a w m J f z
  have E:∀i,i<n->b.getD i false=true:=fun i hi=>by
   have:=List.countP_eq_zero.1 J i (List.mem_range.2 hi)
   simpa using this
  have ag:b=zby n ops.size:=by
   apply Array.ext_getElem?
   intro i
   by_cases hi:i<ops.size
   ·have u:i<b.size:=by rw[m.size];exact hi
    by_cases p:i<n
    ·have:=E i p;simp[u]at this;simp[zby,hi,p,u,this]
    have:=m.tail i (by omega) hi;simp[u]at this;simp[zby,hi,p,u,this]
   have u:¬i<b.size:=(by rw[m.size];exact hi);simp[zby,hi,u]
  have Y:(ops.toList.drop n).length=ops.size-n:=by simp
  have ha:=zdp a;rw[f.size,f.defers]at ha
  have an:wpList P ops Q (ops.toList.drop n) a w:=by
   rw[ha];refine hend _ w f.ext (fun t=>?_) (fun d e h l B h1 I=>?_)
   rotate_left
   ·obtain⟨i,hi⟩:=Qb.1 h1;obtain⟨j,F⟩:=Qb.1 I;exact z.apart d i e j h l B hi F (E i (zbs hi).1) (E j (zbs F).1)
   unfold za8
   split
   ·rename_i h;exact f.old t h
   rename_i j h;exact f.got j t h (E j (zbs h).1)
  have:=wpAny_of_seq (md:=.any) (Q':=Q) (ops.toList.drop n) n b a w (fun j=>by simp[List.getElem?_drop]) (by rw[Y,ag];exact af) an;rw[Y]at this;rw[Nat.zero_add];exact this
 | succ k ao =>
  intro b a w m J f z
  have ai:∃i,i<n/\b.getD i false=false:=by
   have:0<cntU n b:=by omega
   obtain⟨i,hi,q⟩:=List.countP_pos_iff.1 this;exact⟨i,List.mem_range.1 hi,by simpa using q⟩
  obtain⟨aa,T,V⟩:=ai;obtain⟨au,ar,U⟩:=zmv S m aa T V;rw[show k+1+(ops.size-n)=(k+(ops.size-n))+1 by omega];refine⟨(fun h0=>(by rw[h0]at U;cases U)),fun i hi=>?_⟩
  have p:i<n:=by
   rcases Nat.lt_or_ge i n with r|r
   ·exact r
   exact absurd hi (tail_waits I ad h1 m _ aa rfl T (getD_in (by rw[m.size];omega) V) i r)
  obtain⟨am,o,y,ah⟩:=mem_ready.1 hi;obtain⟨aq,⟨d,D,ab,H⟩,ac⟩:=zj2 (ae i o p y);have ha:=zdp a;rw[f.size,f.defers]at ha
  have Z:=hstep i o p y (fun t=>a.eval (.tmp t)) w f.ext fun t c=>by
   unfold za8
   split
   ·rename_i h;exact f.old t h
   rename_i j h;refine f.got j t h ?_;obtain⟨o',ak,e,l,hb,al⟩:=Region.waitsFor_spec (ac t c j h);have:o'=o:=Qa (ak.symm.trans y);subst this;rw[<- al];exact ah e l hb
  rw[<- ha]at Z;refine zdq y (fun e a w l r=>by cases e<;>first|exact absurd rfl l|exact r) (fun ap w' r=>?_) Z;obtain⟨v,rfl,M,O⟩:=r;rw[D];have G:d<a.tmps.size:=by rw[f.size];exact ab
  obtain⟨M,A⟩:=M;rw[D]at A;simp only at A;refine ao _ _ _ (m.set hi p) ?_ ⟨by rw[zfu];exact f.size,by rw[zfh];exact f.defers,f.ext.trans O,fun t c=>?_,fun j t c q=>?_⟩ ?_
  rotate_right
  ·have C:∀t j,zbe ops n t=some j->d≠t->(b.setIfInBounds i true).getD j false=true->b.getD j false=true:=fun t j c g q=>by
    have L:i≠j:=fun e=>by subst e;have:=(zbs c).2;rw[y]at this;exact g (Qa (D.symm.trans this))
    rwa[getD_set_ne false L]at q
   refine⟨fun t j s c q=>?_,fun t j e k s l B c hk W X=>?_⟩
   ·by_cases g:d=t
    ·subst g;rw[zer _ _ _ G];exact(A s).low
    rw[zc5 _ _ _ _ g];exact(z.low t j s c (C t j c g q)).ext O
   by_cases g:d=t
   ·subst g;rw[zer _ _ _ G,zc5 _ _ _ _ B];exact((A s).ne (z.low e k l hk (C e k hk B X))).symm
   by_cases K:d=e
   ·subst K;rw[zer _ _ _ G,zc5 _ _ _ _ g];exact(A l).ne (z.low t j s c (C t j c g W))
   rw[zc5 _ _ _ _ g,zc5 _ _ _ _ K];exact z.apart t j e k s l B c hk (C t j c g W) (C e k hk K X)
  ·have:=zf3 (fun j=>!b.getD j false) (fun j=>!(b.setIfInBounds i true).getD j false) i (by simpa using getD_both am) (by
    have aj:i<b.size:=(by rw[m.size];omega);simp[aj]) (fun j F=>by simp only[getD_set_ne false (Ne.symm F)]) n p
   unfold cntU at J ⊢;omega
  ·rw[zc5 _ _ _ _ (fun e=>by subst e;rw[c]at H;cases H)];exact f.old t c
  by_cases g:d=t
  ·subst g;obtain rfl:j=i:=Qa (c.symm.trans H);rw[zer _ _ _ G];exact M
  rw[zc5 _ _ _ _ g]
  have L:i≠j:=fun e=>by subst e;have:=(zbs c).2;rw[y]at this;exact g (Qa (D.symm.trans this))
  rw[getD_set_ne false L]at q;exact hR _ _ _ _ (f.got j t c q) O
def zd1 (P:Program)(ops:Array Oper)(n:Nat)(a0:Act)(w0:Xa)(R:Nat->Xb->Xa->Prop)(fr:List Nat):List Oper->List (Xb->Xa->Prop)->Prop
 | o::l,r::rs=>(∀(x:Nat->Xb) (w:Xa),Ext w0 w->za9 ops n a0 R x w (o.looksAt ops)->wpList P ops (zhx (zam a0.tmps.size a0.defers x) o.dst (zbg fr o.dst r w) w) [o] (zam a0.tmps.size a0.defers x) w)/\zd1 P ops n a0 w0 R fr l rs
 | [],[]=>True
 | _,_=>False
theorem zl1:∀(l:List Oper) (rs:List (Xb->Xa->Prop)),zd1 P ops n a0 w0 R fr l rs->∀i o,l[i]? = some o->∀(x:Nat->Xb) (w:Xa),Ext w0 w->(∀t∈o.looksAt ops,za8 ops n a0 R x w t) ->
  wpList P ops (zhx (zam a0.tmps.size a0.defers x) o.dst (zbg fr o.dst (nthR rs i) w) w) [o] (zam a0.tmps.size a0.defers x) w
 | [],_,_,i,o,ho,_,_,_,_=>by simp at ho
 | p::l,[],h,_,_,_,_,_,_,_=>h.elim
 | p::l,r::rs,h,0,o,ho,x,w,he,hf=>by
  obtain rfl:p=o:=by simpa using ho
  exact h.1 x w he (zbp _ hf)
 | p::l,r::rs,h,i+1,o,ho,x,w,he,hf=>by
  have:=zl1 l rs h.2 i o (by simpa using ho) x w he hf
  simpa[nthR]using this
def zl2 (x:Nat->Xb):List Nat->Prop
 | []=>True
 | d::l=>(∀e∈l,x d≠x e)/\zl2 x l
theorem zpv {x:Nat->Xb}:∀(l:List Nat),l.Nodup->(∀d∈l,∀e∈l,d≠e->x d≠x e)->zl2 x l
 | [],_,_=>trivial
 | d::l,hn,h=>⟨fun e c=>h d (by simp) e (by simp[c]) (fun f=>(List.nodup_cons.1 hn).1 (by rw[f];exact c)),zpv l (List.nodup_cons.1 hn).2 fun a ha b hb=>h a (by simp[ha]) b (by simp[hb])⟩
theorem zob {l:List Oper}(a:List (Xb->Xa->Prop))(fr:List Nat)(h:zhw l.toArray a.length a0.tmps.size=true)(m:(decide fr.Nodup&&fr.all fun d=>(zbe l.toArray a.length d).isSome)=true)(hR:∀r∈a,∀v w w',r v w->Ext w w'->r v w')(hstep:zd1 P l.toArray a.length a0 w0 (nthR a) fr (l.take a.length) a)(hend:∀(x:Nat->Xb) (w:Xa),Ext w0 w->zl2 x fr->za9 l.toArray a.length a0 (nthR a) x w ((l.take a.length).filterMap (·.dst))->wpList P l.toArray Q (l.drop a.length) (zav a0 x ((l.take a.length).filterMap (·.dst))) w) :
  wpAny P .any l.toArray Q l.toArray.size (Array.replicate l.toArray.size false) a0 { w0 with drawn:=w0.drawn+1 }:=by
 simp only[Bool.and_eq_true,decide_eq_true_eq,List.all_eq_true]at m;obtain⟨s,p⟩:=m;have h1:=(zha h).1
 have z:cntU a.length (Array.replicate l.toArray.size false)=a.length:=by unfold cntU;rw[List.countP_eq_length.2 (fun i _=>by rw[getD_replicate_false];rfl)];exact List.length_range
 have:=zu2 (P:=P) (Q:=Q) (w0:=w0) (R:=nthR a) (fr:=fr) h (fun i v w w' c f=>by
   unfold nthR at c ⊢
   by_cases hi:i<a.length
   ·rw[List.getD_eq_getElem?_getD,List.getElem?_eq_getElem hi]at c ⊢;exact hR _ (List.getElem_mem hi) v w w' c f
   rw[List.getD_eq_getElem?_getD,List.getElem?_eq_none (by omega)]at c ⊢
   trivial) (fun i o hi y=>zl1 _ _ hstep i o (by rw[List.getElem?_take_of_lt hi];simpa using y))
  (fun x w f c q=>by rw[show l.toArray.toList=l by simp,zfd (fun t g=>by have:=c t;unfold za8 at this;rw[g]at this;exact this)];exact hend x w f (zpv fr s fun d k e f u=>q d e k f u (p d k) (p e f)) (zbp _ fun t _=>c t))
  a.length (Array.replicate l.toArray.size false) a0 { w0 with drawn:=w0.drawn+1 }
  ⟨by simp,fun j A _ b=>(by rw[getD_replicate_false]at b;cases b),fun t _ g=>getD_in (by simpa using g) (getD_replicate_false _ _)⟩ z
  ⟨rfl,rfl,(Ext.refl w0).drew,fun _ _=>rfl,fun j d _ b=>(by rw[getD_replicate_false]at b;cases b)⟩
  ⟨fun d i _ _ b=>(by rw[getD_replicate_false]at b;cases b),fun d i e j _ _ _ _ _ b=>(by rw[getD_replicate_false]at b;cases b)⟩
 rw[show a.length+(l.toArray.size-a.length)=l.toArray.size by omega]at this;exact this
theorem zni {id:Nat}{l:List Oper}(a:List (Xb->Xa->Prop))(fr:List Nat)(e:P.follows .mixedOrders=true)(b:zhw l.toArray a.length a0.tmps.size=true)(c:(decide fr.Nodup&&fr.all fun d=>(zbe l.toArray a.length d).isSome)=true)(hR:∀r∈a,∀v w w',r v w->Ext w w'->r v w')(hstep:zd1 P l.toArray a.length a0 w0 (nthR a) fr (l.take a.length) a)(hend:∀(x:Nat->Xb) (w:Xa),Ext w0 w->zl2 x fr->za9 l.toArray a.length a0 (nthR a) x w ((l.take a.length).filterMap (·.dst))->wpList P l.toArray Q (l.drop a.length) (zav a0 x ((l.take a.length).filterMap (·.dst))) w) :
  (Code.region id l.toArray true).wp P Q a0 w0:=wp_region_any e (zob a fr b c hR hstep hend)
theorem zet {id k m:Nat}{l:List Oper}(a:List (Xb->Xa->Prop))(fr:List Nat)(g:P.follows .mixedOrders=true)(f:LetsOut Q->False)(h:∀o∈l,∀c,o.op≠.defer c)(b:zhw l.toArray a.length a0.tmps.size=true)(e:(decide fr.Nodup&&fr.all fun d=>(zbe l.toArray a.length d).isSome)=true)(hR:∀r∈a,∀v w w',r v w->Ext w w'->r v w')(hstep:zd1 P l.toArray a.length a0 w0 (nthR a) fr (l.take a.length) a)(hend:∀(x:Nat->Xb) (w:Xa),Ext w0 w->zl2 x fr->za9 l.toArray a.length a0 (nthR a) x w ((l.take a.length).filterMap (·.dst))->wpList P l.toArray Q (l.drop a.length) (zav a0 x ((l.take a.length).filterMap (·.dst))) w) :
  (Code.region id l.toArray true).wpIn (Fence.wide.inRound k) m P Q a0 w0 :=
 wpIn_region_any g (zoa f (fun i o j=>h o (List.mem_of_getElem? (by simpa using j))) _ _ _ _ (zob a fr b e hR hstep hend))
end
end
end Go.Proofs.YtaabaflgeljbjaaGreat
