/- Laws. -/
import Derived.WalkKit
import Derived.Lib.Hide
import Derived.Below
import Derived.Outline
import Derived.WalkLawsBesides
import Derived.WalkSpells
import Derived.IntWalk
import Derived.LoopTactic
import Derived.BigGuardPart
import Derived.Deep.RegionHeld3
import Derived.Deep.QuietTactic
import Derived.BigQuiet
set_option linter.unusedVariables false
set_option linter.unusedSimpArgs false
set_option maxRecDepth 100000
set_option maxHeartbeats 40000000
namespace Go.Proofs.YtaabaflgeljbjaaGreat
open Go.Value renaming slice→Xa
open Go renaming World→Xb,Value→Xc
open List renaming getElem?_eq_getElem→Qa,getElem?_eq_some_iff→Qb,getElem?_append_left→Qc,getElem?_append_right→Qd,take_append_drop→Qh,eq_nil_of_length_eq_zero→Qi,take_append_of_le_length→Qj,length_append→Qk,size_toArray→Ql,take_left→Qm,getElem?_eq_none→Qn,append_assoc→Qs,flatten_cons→Qt,getElem?_map→Qu,length_take→Qw,flatMap_def→Qx
open Nat renaming add_mul→Qe,eq_zero_or_pos→Qg,le_trans→Qp,zero_add→Qq,le_refl→Qv
open _root_.Array renaming getElem?_eq_some_iff→Qf,toList_append→Qo,size_append→Qr
section
open Go.RowKit
universe u
theorem zN {c:Prop}{h:Decidable c}(n:¬c){α:Sort u}{t e:α}:ite c t e=e:=if_neg n
theorem zP {c:Prop}{h:Decidable c}(n:c){α:Sort u}{t e:α}:ite c t e=t:=if_pos n
theorem zS:(∀ {α:Type} {a:α} {l:List α},(a::l).length=l.length+1)/\(∀ {α:Type},([]:List α).length=0)/\(∀p:Prop,(p/\True)=p):=⟨List.length_cons,List.length_nil,and_true⟩
theorem zD:(∀ {α:Type} {a:α} {l:List α} {n:Nat},(a::l).take (n+1)=a::l.take n)/\(∀ {α:Type} {l:List α},l.take 0 = [])/\(∀ {α:Type} {a:α} {l:List α} {n:Nat},(a::l).drop (n+1)=l.drop n)/\(∀ {α:Type} {l:List α},l.drop 0=l):=⟨List.take_succ_cons,List.take_zero,List.drop_succ_cons,List.drop_zero⟩
theorem zU:(∀ {α β:Type} {f:α->Option β},List.filterMap f [] = [])/\(∀ {α:Type} {l:List α} {a:α} {i:Nat},l.toArray.setIfInBounds i a=(l.set i a).toArray)/\(∀ {α:Type} {a b:α} {l:List α} {n:Nat},(a::l).set (n+1) b=a::l.set n b)/\(∀ {α:Type} {a b:α} {l:List α},(a::l).set 0 b=b::l):=⟨List.filterMap_nil,List.setIfInBounds_toArray _ _ _,List.set_cons_succ,List.set_cons_zero⟩
theorem zM:(∀ {α:Type} {a b:α} {l:List α},(a∈b::l)=(a=b\/a∈l))/\(∀ {α:Type} {a:α},(a∈([]:List α))=False)/\(∀p:Prop,(p\/False)=p)/\(∀ {α:Type} {p q:α->Prop} {c:α},(∀a,a=c\/q a->p a)=(p c/\∀a,q a->p a))/\(∀ {α:Type} {p:α->Prop} {c:α},(∀a,a=c->p a)=p c):=⟨propext List.mem_cons,eq_false List.not_mem_nil,or_false,propext forall_eq_or_imp,propext forall_eq⟩
theorem zH {p:Prop}(h:p):Hid p:=_root_.Go.Lib.hid h
theorem kP {P:Xc→Prop}{R:Xb→Xb→Prop}:∀(v:Xc) (w w':Xb),P v→R w w'→P v:=fun _ _ _ h _=>h
theorem wpH {P:Program}{Q:Exit→Act→Xb→Prop}{a:Act}{w:Xb}{x y:Code}(h:∀K:Act→Xb→Prop,Hid (∀a w,Code.wp P y Q a w→K a w)→Code.wp P x (Exit.then K Q) a w):Code.wp P (x.seq y) Q a w:=Go.wp_seq_k fun K hK=>h K (zH hK)
abbrev Str:=List UInt8
abbrev St (s:Str):Xc:=.string ⟨s.toArray⟩
abbrev U (n:Nat):Xc:=.int .u64 (n:Int)
abbrev I (n:Int):Xc:=.int .i64 n
abbrev Ext (w w':Xb):Prop:=Below w.heap.size w w'
theorem Ext.refl (w:Xb):Ext w w:=Below.refl _ _
theorem Ext.trans {w b c:Xb}(a:Ext w b)(k:Ext b c):Ext w c:=Below.trans a (Below.mono k a.size)
theorem Ext.alloc {w b:Xb}(a:Ext w b)(o:Obj):Ext w (b.alloc o):=Below.alloc a a.size o
theorem Ext.drew {w a:Xb}(b:Ext w a):Ext w a.drew:=Below.drew b
theorem Ext.drewN {w b:Xb}(a:Ext w b)(n:Nat):Ext w (b.drewN n):=⟨a.os,a.tape,a.output,a.size,a.block⟩
theorem Ext.set {w a:Xb}(b:Ext w a){p:Addr}(c:w.heap.size<=p.block)(v:Xc):Ext w (a.setCell p v):=Below.setCell b c v
theorem zae {w:Xb}{b o:Nat}{v:Xc}(h:w.cell? ⟨b,o,none⟩=some v):b<w.heap.size:=World.block_lt_of_cell? w ⟨b,o,none⟩ h
theorem Ext.cell {w w':Xb}(c:Ext w w'){b o:Nat}{v:Xc}(a:w.cell? ⟨b,o,none⟩=some v):w'.cell? ⟨b,o,none⟩=some v :=
 (Below.cell c (p:=⟨b,o,none⟩) (zae a)).trans a
theorem Ext.frozen {w w':Xb}(h:Ext w w'){b o:Nat}(hb:b<w.heap.size):w'.frozen? ⟨b,o,none⟩=w.frozen? ⟨b,o,none⟩:=Below.frozen h (p:=⟨b,o,none⟩) hb
structure Shape (α:Type) where
 k:Nat
 rd:Xb->(Nat->Prop)->α->List Xc->Prop
 len:∀ {w S x vs},rd w S x vs->vs.length=k
 one:∀ {w S x vs},rd w S x vs->∀u∈vs,u.oneCell'=true
 keep:∀ {w w' S x vs},rd w S x vs->(∀b,S b->b<w.heap.size->w'.heap[b]? = w.heap[b]?)->rd w' S x vs
 mono:∀ {w S S' x vs},rd w S x vs->(∀b,b<w.heap.size->S b->S' b)->rd w S' x vs
def flat {α:Type}(k:Nat)(enc:α->List Xc)(hk:∀x,(enc x).length=k)(h1:∀x,∀u∈enc x,u.oneCell'=true):Shape α where
 k:=k
 rd _ _ x vs:=vs=enc x
 len h:=by rw[h];exact hk _
 one h:=by rw[h];exact h1 _
 keep h _:=h
 mono h _:=h
def Sl {α:Type}(T:Shape α)(w:Xb)(S:Nat->Prop)(v:Xc)(l:List α):Prop :=
 ∃A c,v=Xa A l.length c/\l.length<=c/\c<=9223372036854775807 /\
  ∀pre x post,l=pre++x::post->∃b o vs,A=some ⟨b,o,none⟩/\S b/\T.rd w S x vs/\∀j u,vs[j]? = some u->w.cell? ⟨b,o+pre.length * T.k+j,none⟩=some u
section
variable {α:Type} {T:Shape α} {w w':Xb} {S S':Nat->Prop} {v:Xc} {l:List α}
theorem Sl.keep (hk:0<T.k)(i:Sl T w S v l)(h:∀b,S b->b<w.heap.size->w'.heap[b]? = w.heap[b]?):Sl T w' S v l:=by
 obtain⟨A,c,t,h1,m,p⟩:=i;refine⟨A,c,t,h1,m,fun pre x post s=>?_⟩;obtain⟨b,o,vs,q,d,f,e⟩:=p pre x post s;have y:=T.len f;have h0:=e 0 (vs[0]'(by omega)) (Qa (by omega));have hb:=zae h0;exact⟨b,o,vs,q,d,T.keep f h,fun j u r=>(World.cell?_of_block (a:=⟨b,_,none⟩) (h b d hb)).trans (e j u r)⟩
theorem Sl.mono (hk:0<T.k)(f:Sl T w S v l)(e:∀b,b<w.heap.size->S b->S' b):Sl T w S' v l:=by
 obtain⟨A,c,q,h1,h,i⟩:=f;refine⟨A,c,q,h1,h,fun pre x post p=>?_⟩;obtain⟨b,o,vs,j,m,d,a⟩:=i pre x post p;have r:=T.len d;have hb:=zae (a 0 (vs[0]'(by omega)) (Qa (by omega)));exact⟨b,o,vs,j,e b hb m,T.mono d e,a⟩
theorem Sl.ext (hk:0<T.k)(a:Sl T w S v l)(c:Ext w w'):Sl T w' S v l:=a.keep hk fun b _ hb=>c.block b hb
theorem Sl.one (h:Sl T w S v l):v.oneCell'=true:=by
 obtain⟨A,c,rfl,-⟩:=h
 rfl
theorem Sl.form (a:Sl T w S v l):∃A c,v=Xa A l.length c/\l.length<=c/\c<=9223372036854775807:=by
 obtain⟨A,c,h0,h1,b,-⟩:=a;exact⟨A,c,h0,h1,b⟩
theorem Sl.nil (A:Option Addr)(c:Nat)(a:c<=9223372036854775807):Sl T w S (Xa A 0 c) [] :=
 ⟨A,c,rfl,Nat.zero_le _,a,fun pre x post b=>by simp at b⟩
theorem Sl.at_ (a:Sl T w S v l){pre post:List α}{x:α}(h:l=pre++x::post) :
  ∃b o vs c,v=Xa (some ⟨b,o,none⟩) l.length c/\S b/\T.rd w S x vs/\∀j u,vs[j]? = some u->w.cell? ⟨b,o+pre.length * T.k+j,none⟩=some u:=by
 obtain⟨A,c,m,h1,p,d⟩:=a;obtain⟨b,o,vs,rfl,e,i,f⟩:=d pre x post h;exact⟨b,o,vs,c,m,e,i,f⟩
end
def slT {α:Type}(T:Shape α)(hk:0<T.k):Shape (List α) where
 k:=1
 rd w S l vs:=∃v,vs = [v]/\Sl T w S v l
 len h:=by obtain⟨v,rfl,-⟩:=h;rfl
 one h:=by obtain⟨v,rfl,h⟩:=h;intro u hu;rw[List.mem_singleton.1 hu];exact h.one
 keep h hs:=by obtain⟨v,rfl,h⟩:=h;exact⟨v,rfl,h.keep hk hs⟩
 mono h hs:=by obtain⟨v,rfl,h⟩:=h;exact⟨v,rfl,h.mono hk hs⟩
def Own (w:Xb)(base:Nat)(T k:Nat)(v:Xc)(n:Nat)(xs:List Xc):Prop :=
 xs.length=n * k/\((∃A,v=Xa A 0 0/\n=0) ∨
  ∃g cap cur,v=Xa (some ⟨g,0,none⟩) n cap/\base<=g/\w.heap[g]? = some (.cells cur T (0,0))/\n<=cap/\cap<=9223372036854775807/\cur.size=cap * k/\cur.toList.take (n * k)=xs)
def zad (v:Xc)(b:Nat):Prop:=∃g n c,v=Xa (some ⟨g,0,none⟩) n c/\0<c/\b=g
section
variable {w w':Xb} {base T k n:Nat} {v:Xc} {xs:List Xc}
theorem Own.of_ownsRow (a:w.ownsRow base T k v n xs):Own w base T k v n xs:=by
 refine⟨a.1,?_⟩;rcases a.2 with⟨rfl,rfl⟩|⟨g,b,c,j,hb,d,f,e,h,i⟩
 ·exact .inl ⟨_,rfl,rfl⟩
 exact .inr ⟨g,b,c,j,hb,d,f,by simpa[maxLen]using e,h,i⟩
theorem Own.nil (w:Xb)(base T k:Nat)(A:Option Addr):Own w base T k (Xa A 0 0) 0 []:=⟨by simp,.inl ⟨A,rfl,rfl⟩⟩
theorem Own.form (b:Own w base T k v n xs):∃A c,v=Xa A n c/\n<=c/\c<=9223372036854775807:=by
 rcases b.2 with⟨A,rfl,rfl⟩|⟨g,a,f,rfl,hb,h,e,d,i,j⟩
 ·exact⟨A,0,rfl,Qv _,by omega⟩
 exact⟨_,a,rfl,e,d⟩
theorem Own.pos (e:Own w base T k v n xs)(d:0<n):∃g a b,v=Xa (some ⟨g,0,none⟩) n a/\base<=g/\g<w.heap.size/\w.heap[g]? = some (.cells b T (0,0))/\n<=a/\a<=9223372036854775807/\b.size=a * k/\b.toList.take (n * k)=xs:=by
 rcases e.2 with⟨A,rfl,rfl⟩|⟨g,a,b,rfl,hb,c,d,f,h,i⟩
 ·omega
 exact⟨g,a,b,rfl,hb,(Qf.1 c).1,c,d,f,h,i⟩
theorem Own.keep (a:Own w base T k v n xs)(d:∀b,zad v b->b<w.heap.size->w'.heap[b]? = w.heap[b]?):Own w' base T k v n xs:=by
 refine⟨a.1,?_⟩;rcases a.2 with h0|⟨g,cap,cur,rfl,hb,hg,hn,hm,hs',ht⟩
 ·exact .inl h0
 by_cases c:cap=0
 ·subst c;exact .inl ⟨_,by rw[Nat.le_zero.1 hn],Nat.le_zero.1 hn⟩
 exact .inr ⟨g,cap,cur,rfl,hb,(d g ⟨g,n,cap,rfl,by omega,rfl⟩ (Qf.1 hg).1).trans hg,hn,hm,hs',ht⟩
theorem Own.ext (a:Own w base T k v n xs)(c:Ext w w'):Own w' base T k v n xs:=a.keep fun b _ hb=>c.block b hb
theorem Own.alloc (h:Own w base T k v n xs)(o:Obj):Own (w.alloc o) base T k v n xs:=h.ext ((Ext.refl w).alloc o)
theorem Own.base_le (d:Own w base T k v n xs){b:Nat}(hb:zad v b):base<=b/\b<w.heap.size:=by
 obtain⟨g,m,c,a,j,rfl⟩:=hb;rcases d.2 with⟨A,rfl,-⟩|⟨i,f,h,rfl,hb,e,-⟩
 ·cases a;omega
 cases a;exact⟨hb,(Qf.1 e).1⟩
theorem Own.lower (h:Own w base T k v n xs){base':Nat}(hb:base'<=base):Own w base' T k v n xs:=by
 refine⟨h.1,?_⟩;rcases h.2 with h0|⟨g,cap,cur,rfl,hb',rest⟩
 ·exact .inl h0
 exact .inr ⟨g,cap,cur,rfl,Qp hb hb',rest⟩
theorem Own.cell (b:Own w base T k v n xs){g c:Nat}(m:v=Xa (some ⟨g,0,none⟩) n c){j:Nat}{u:Xc}(a:xs[j]? = some u):w.cell? ⟨g,j,none⟩=some u:=by
 have d:j<xs.length:=(Qb.1 a).1;rw[b.1]at d
 have h:0<n:=by
  rcases Qg n with h0|h0
  ·subst h0;simp at d
  exact h0
 obtain⟨p,o,e,rfl,-,-,f,-,-,-,i⟩:=b.pos h;cases m;rw[cell_of_row w g j e T (0,0) f];rw[<- i,List.getElem?_take]at a
 split at a
 ·simpa using a
 omega
end
def Src (w:Xb)(k:Nat)(A:Option Addr)(m:Nat)(news:List Xc):Prop :=
 news.length=m * k/\(∀u∈news,u.oneCell'=true)/\(0<m->∃b o,A=some ⟨b,o,none⟩/\∀j u,news[j]? = some u->w.cell? ⟨b,o+j,none⟩=some u)
theorem zdg (b o j:Nat):(⟨b,o,none⟩:Addr).add j=⟨b,o+j,none⟩:=by
 unfold Addr.add
 split
 ·rename_i h;subst h;rfl
 rfl
section
variable {P:Program} (w:Xb)
theorem znq (t h e:TypeId)(i:TypeInfo)(f:P.underlying t=some (.slice e))(hi:P.info? e=some i)(B A:Option Addr)(n a c:Nat)(d:n<=a):(Builtin.append_ #[t,t] h #[Xa B n a,Xa A 0 c]).run P w=.ok (Xa B n a) w:=by
 have b:(Builtin.firstCells i.size 0 (Xa A 0 c)).run P w=.ok #[] w:=by cases A<;>simp[Builtin.firstCells,loadCells,loadCellsFrom]
 cases B<;>simp[Builtin.append_,run_underlying f,sizeOf,typeInfo,hi,Builtin.lenOf,d,b,storeCells]
theorem zhi (base:Nat)(t q e:TypeId)(i:TypeInfo)(z:Xc)(size N:Nat)(y:P.underlying t=some (.slice e))(hi:P.info? e=some i)(L:i.zero=some z)(K:i.size=size)(R:i.bytes=N)(W:z.cells.size=size)(ak:0<size)(v:Xc)(n:Nat)(xs:List Xc)(h:Own w base e size v n xs)(A:Option Addr)(m c:Nat)(d:List Xc)(a:Src w size A m d)(D:(n+m) * N<=140737488355328)(aj:n+m<=9223372036854775807)(Q:base<=w.heap.size) :
  ∃v' w',(Builtin.append_ #[t,t] q #[v,Xa A m c]).run P w=.ok v' w'/\Own w' base e size v' (n+m) (xs++d) /\
   w'.os=w.os/\w'.tape=w.tape/\w'.output=w.output/\w.heap.size<=w'.heap.size/\(∀b,b<w.heap.size->¬zad v b->w'.heap[b]? = w.heap[b]?) /\
   (∀b,zad v' b->zad v b ∨ b=w.heap.size):=by
 rcases Qg m with hm|hm
 ·subst hm;have H:d = []:=Qi (by simpa using a.1);subst H;obtain⟨B,f,rfl,ae,_⟩:=h.form;refine⟨_,w,znq (P:=P) w t q e i y hi B A n f c ae,by simpa using h,rfl,rfl,rfl,Qv _,fun _ _ _=>rfl,fun b hb=>.inl hb⟩
 obtain⟨b,o,rfl,Z⟩:=a.2.2 hm;have p:∀j u,d[j]? = some u->w.cell? ((⟨b,o,none⟩:Addr).add j)=some u:=fun j u ad=>by rw[zdg];exact Z j u ad
 rcases h.2 with⟨B,rfl,rfl⟩|⟨g,f,C,rfl,hb,F,H,E,U,V⟩
 ·have ai:xs = []:=Qi (by simpa using h.1);subst ai;subst K
  subst R
  have ac:∀(M:Xb),M=w.drew.alloc (.cells (d.toArray++Builtin.zeroCells z.cells (grownCap w m 0 e-m)) e) ->
    Own M base e i.size (Xa (some ⟨w.heap.size,0,none⟩) m (grownCap w m 0 e)) m d:=by
   rintro M rfl;have G:=grownCap_ge w m 0 e;have E:=grownCap_le_maxLen w m 0 e (by simp only[maxLen];omega);refine⟨a.1,.inr ⟨w.heap.size,_,_,rfl,Q,heap_alloc_new w.drew _,G,by simpa[maxLen]using E,?_,?_⟩⟩
   ·simp only[Qr,Ql,size_zeroCells,W,a.1,<- Qe]
    congr 1
    omega
   simp only[Qo];rw[<- a.1];exact Qm
  refine⟨Xa (some ⟨w.heap.size,0,none⟩) m (grownCap w m 0 e),w.drew.alloc (.cells (d.toArray++Builtin.zeroCells z.cells (grownCap w m 0 e-m)) e),?_,?_,rfl,rfl,rfl,by simp,?_,?_⟩
  ·cases B
   case none=>exact run_append_nil (P:=P) w t q e i z y hi L ⟨b,o,none⟩ m c d a.1 p hm (by omega) (by have:=D;rw[Qq]at this;omega)
   rename_i B
   have:=run_append_grow (P:=P) w t q e i z y hi L B 0 0 [] (by simp) (by simp) ⟨b,o,none⟩ m c d a.1 p (by omega) (by omega) (growslice_fits (by omega) (by simpa using D))
   simpa using this
  ·simpa using ac _ rfl
  ·intro k hk _;exact Go.heap_alloc_old w.drew _ hk
  rintro k⟨g,X,O,r,_,rfl⟩;cases r;exact .inr rfl
 have ag:w.ownsRow base e size (Xa (some ⟨g,0,none⟩) n f) n xs:=⟨h.1,.inr ⟨g,f,C,rfl,hb,F,H,by simp only[maxLen];omega,U,V⟩⟩
 by_cases J:n+m<=f
 ·subst K;have ab:n * i.size+d.length<=C.size:=(by rw[a.1,U,<- Qe];exact Nat.mul_le_mul_right _ J);have I:=run_append_room (P:=P) w t q e i y hi g n f C F ⟨b,o,none⟩ m c d a.1 p a.2.1 J ab;have s:(xs++d).length=(n+m) * i.size:=(by rw[Qk,h.1,a.1,Qe]);refine⟨_,_,I,⟨s,.inr ⟨g,f,_,rfl,hb,setRow_heap w g C _ e _ F,J,E,?_,?_⟩⟩,rfl,rfl,rfl,by simp[World.setRow],?_,?_⟩
  ·simp only[Ql,Qk,Qw,List.length_drop,Array.length_toList];omega
  ·rw[V,<- s];exact Qm
  ·intro k hk af;exact setRow_other w g k _ (fun e=>af ⟨g,n,f,rfl,by omega,e⟩)
  rintro k⟨Y,X,O,r,p,rfl⟩;cases r;exact .inl ⟨_,_,_,rfl,p,rfl⟩
 subst K
 subst R;have ah:∀j u,xs[j]? = some u->w.cell? ((⟨g,0,none⟩:Addr).add j)=some u:=ag.cells (g:=g) rfl;have I:=run_append_grow (P:=P) w t q e i z y hi L ⟨g,0,none⟩ n f xs h.1 ah ⟨b,o,none⟩ m c d a.1 p (by omega) (by omega) (growslice_fits (by omega) D);have G:=grownCap_ge w (n+m) f e;have aa:=grownCap_le_maxLen w (n+m) f e (by simp only[maxLen];omega);have s:(xs++d).length=(n+m) * i.size:=(by rw[Qk,h.1,a.1,Qe]);refine⟨_,_,I,⟨s,.inr ⟨w.heap.size,_,_,rfl,Q,heap_alloc_new w.drew _,G,by simpa[maxLen]using aa,?_,?_⟩⟩,rfl,rfl,rfl,by simp,?_,?_⟩
 ·simp only[Qr,Ql,size_zeroCells,W,h.1,a.1,<- Qe]
  congr 1
  omega
 ·simp only[Qo,Qs];rw[<- Qs,<- s];exact Qm
 ·intro k hk _;exact Go.heap_alloc_old w.drew _ hk
 rintro k⟨Y,X,O,r,p,rfl⟩;cases r;exact .inr rfl
end
structure Grew (w w':Xb) (v v':Xc):Prop where
 os:w'.os=w.os
 tape:w'.tape=w.tape
 output:w'.output=w.output
 size:w.heap.size<=w'.heap.size
 same:∀b,b<w.heap.size->¬zad v b->w'.heap[b]? = w.heap[b]?
 blk:∀b,zad v' b->zad v b ∨ b=w.heap.size
theorem Ext.grew {w0 w w':Xb}{v v':Xc}(a:Ext w0 w)(c:Grew w w' v v')(hb:∀b,zad v b->w0.heap.size<=b):Ext w0 w' :=
 ⟨c.os.trans a.os,c.tape.trans a.tape,c.output.trans a.output,Qp a.size c.size,fun k hk=>(c.same k (Nat.lt_of_lt_of_le hk a.size) (fun d=>by have:=hb k d;omega)).trans (a.block k hk)⟩
theorem Ext.grewOwn {w0 w w':Xb}{v v':Xc}{base T k n:Nat}{xs:List Xc}(a:Ext w0 w)(c:Grew w w' v v')(d:Own w base T k v n xs)(hb:w0.heap.size<=base):Ext w0 w' :=
 a.grew c fun _ b=>Qp hb (d.base_le b).1
theorem zal {P:Program}{w:Xb}{f:Array Oper}{h:List Oper}{o:Oper}{a:Act}{Q:Exit->Act->Xb->Prop}(I:o.guard=none)(s x:Operand)(t:TypeId)(L:o.op=.call { callee:=.builtin .append,args:=#[s,x],argTypes:=#[t,t] })(base e size b:Nat)(z:Xc)(W:P.underlying t=some (.slice e))(J:(P.info? e).map (fun i=>(i.zero,i.size,i.bytes))=some (some z,size,b))(Z:z.cells.size=size)(V:0<size)(v:Xc)(n:Nat)(xs:List Xc)(O:a.eval s=v)(M:Own w base e size v n xs)(A:Option Addr)(m c:Nat)(d:List Xc)(X:a.eval x=Xa A m c)(U:Src w size A m d)(H:(n+m) * b<=140737488355328)(E:n+m<=9223372036854775807)(F:base<=w.heap.size)(C:∀v' w',Own w' base e size v' (n+m) (xs++d)->Grew w w' v v'->wpList P f Q h (a.put o.dst v') w'):wpList P f Q (o::h) a w:=by
 obtain⟨i,hi,Y,R,G⟩:=info_parts J;obtain⟨v',w',N,D,j,p,q,r,y,B⟩:=zhi (P:=P) w base t o.type e i z size b W hi Y R G Z V v n xs M A m c d U H E F;refine wpList_plain I fun K hK=>?_
 unfold Oper.wp execOp;simp only[L,resolve,invoke,builtin,Sem.run_bind,Sem.run_pure,Result.andThen_ok,List.map_toArray,List.map_cons,List.map_nil,O,X,N];exact hK _ _ (C v' w' D ⟨j,p,q,r,y,B⟩)
theorem Src.one {w:Xb}{k b:Nat}{T:TypeId}{vs:List Xc}(hb:w.heap[b]? = some (.cells vs.toArray T (0,0)))(hk:vs.length=k)(h1:∀u∈vs,u.oneCell'=true):Src w k (some ⟨b,0,none⟩) 1 vs :=
 ⟨by omega,h1,fun _=>⟨b,0,rfl,fun j u a=>by rw[cell_of_row w b (0+j) vs.toArray T (0,0) hb];simpa using a⟩⟩
theorem Src.new {w:Xb}{k:Nat}{T:TypeId}{vs:List Xc}(hk:vs.length=k)(h1:∀u∈vs,u.oneCell'=true):Src (w.alloc (.cells vs.toArray T)) k (some ⟨w.heap.size,0,none⟩) 1 vs :=
 Src.one (Go.heap_alloc_new w _) hk h1
def OwnL {α:Type}(T:Shape α)(tid:Nat)(w:Xb)(base:Nat)(S:Nat->Prop)(v:Xc)(l:List α):Prop :=
 ∃vss:List (List Xc),vss.length=l.length/\(∀(i:Nat) x vs,l[i]? = some x->vss[i]? = some vs->T.rd w S x vs)/\Own w base tid T.k v l.length vss.flatten
theorem zii {α:Type}{k:Nat}:∀(vss:List (List α)) (i j:Nat) (vs:List α) (u:α),(∀x∈vss,x.length=k)->vss[i]? = some vs->vs[j]? = some u->vss.flatten[i * k+j]? = some u
 | [],i,j,vs,u,_,hi,_=>by simp at hi
 | a::r,0,j,vs,u,hk,hi,hj=>by simp at hi;subst hi;have b:=(Qb.1 hj).1;rw[Qt,Nat.zero_mul,Qq,Qc b];exact hj
 | a::r,i+1,j,vs,u,hk,hi,hj=>by have ha:a.length=k:=hk a (by simp);rw[Qt,Qd (by rw[ha,Qe];omega),ha,show(i+1) * k+j-k=i * k+j by rw[Qe];omega];exact zii r i j vs u (fun x c=>hk x (by simp[c])) (by simpa using hi) hj
section
variable {α:Type} {T:Shape α} {tid:Nat} {w w':Xb} {base:Nat} {S S':Nat->Prop} {v:Xc} {l:List α}
theorem OwnL.nil (w:Xb)(A:Option Addr):OwnL T tid w base S (Xa A 0 0) []:=⟨[],rfl,by simp,Own.nil w base tid T.k A⟩
theorem OwnL.own (h:OwnL T tid w base S v l):∃xs,Own w base tid T.k v l.length xs:=by obtain⟨vss,_,_,h⟩:=h;exact⟨_,h⟩
theorem OwnL.form (h:OwnL T tid w base S v l):∃A c,v=Xa A l.length c/\l.length<=c/\c<=9223372036854775807:=by obtain⟨_,h⟩:=h.own;exact h.form
theorem OwnL.keep (a:OwnL T tid w base S v l)(f:∀b,S b->b<w.heap.size->w'.heap[b]? = w.heap[b]?)(e:∀b,zad v b->b<w.heap.size->w'.heap[b]? = w.heap[b]?):OwnL T tid w' base S v l:=by
 obtain⟨vss,h1,c,d⟩:=a;exact⟨vss,h1,fun i x vs hi h=>T.keep (c i x vs hi h) f,d.keep e⟩
theorem OwnL.ext (c:OwnL T tid w base S v l)(a:Ext w w'):OwnL T tid w' base S v l:=c.keep (fun b _ hb=>a.block b hb) (fun b _ hb=>a.block b hb)
theorem OwnL.mono (a:OwnL T tid w base S v l)(e:∀b,b<w.heap.size->S b->S' b):OwnL T tid w base S' v l:=by
 obtain⟨vss,h1,c,d⟩:=a;exact⟨vss,h1,fun i x vs hi f=>T.mono (c i x vs hi f) e,d⟩
theorem OwnL.lower (a:OwnL T tid w base S v l){base':Nat}(hb:base'<=base):OwnL T tid w base' S v l:=by
 obtain⟨vss,h1,b,c⟩:=a;exact⟨vss,h1,b,c.lower hb⟩
theorem OwnL.base_le (h:OwnL T tid w base S v l){b:Nat}(hb:zad v b):base<=b/\b<w.heap.size:=by
 obtain⟨_,h⟩:=h.own;exact h.base_le hb
theorem OwnL.sl (h:OwnL T tid w base S v l)(hk:0<T.k)(z:∀b,b<w.heap.size->S b->S' b)(s:∀b,base<=b->b<w.heap.size->S' b):Sl T w S' v l:=by
 obtain⟨vss,h1,d,a⟩:=h;obtain⟨A,c,rfl,m,o⟩:=a.form;refine⟨A,c,rfl,m,o,fun pre x post e=>?_⟩;have G:pre.length<l.length:=by rw[e];simp
 have C:l[pre.length]? = some x:=by rw[e];simp
 have f:vss[pre.length]? = some (vss[pre.length]'(by omega)):=Qa (by omega);have t:=d _ _ _ C f;obtain⟨g,E,F,B,hb,p,-⟩:=a.pos (by omega);injection B with e1 e2 e3
 subst e1;refine⟨g,0,_,rfl,s g hb p,T.mono t z,fun j u r=>?_⟩;rw[Qq];refine a.cell (g:=g) (c:=c) rfl (zii vss _ j _ u ?_ f r);intro y D;obtain⟨i,hi⟩:=List.getElem?_of_mem D;have q:i<l.length:=by rw[<- h1];exact(Qb.1 hi).1
 exact T.len (d i _ y (Qa q) hi)
theorem OwnL.snoc {vss:List (List Xc)}{v':Xc}{x:α}{vs:List Xc}(h1:vss.length=l.length)(c:∀(i:Nat) x vs,l[i]? = some x->vss[i]? = some vs->T.rd w S x vs)(f:T.rd w S x vs)(d:Own w base tid T.k v' (l.length+1) (vss.flatten++vs)):OwnL T tid w base S v' (l++[x]):=by
 refine⟨vss++[vs],by simp[h1],fun i y h hi a=>?_,by simpa using d⟩
 by_cases e:i<l.length
 ·rw[Qc e]at hi;rw[Qc (by omega)]at a;exact c i y h hi a
 rw[Qd (by omega)]at hi;rw[Qd (by omega)]at a
 have b:i-l.length=0:=by have:=(Qb.1 hi).1;simp at this;exact this
 rw[b]at hi;rw[h1,b]at a;simp at hi a;subst hi;subst a;exact f
end
section
variable {α:Type} {k:Nat} {enc:α->List Xc} {hk:∀ x,(enc x).length=k} {h1:∀ x,∀ u ∈ enc x,u.oneCell'=true} {tid:Nat} {w w':Xb} {base:Nat} {S S':Nat->Prop} {v:Xc} {l:List α}
theorem OwnL.flat_iff:OwnL (flat k enc hk h1) tid w base S v l↔Own w base tid k v l.length (l.flatMap enc):=by
 constructor
 ·rintro⟨vss,e1,e2,e3⟩
  have:vss=l.map enc:=by
   apply List.ext_getElem?
   intro i
   by_cases hi:i<l.length
   ·rw[Qu,Qa hi,Qa (by omega:i<vss.length)];simp only[Option.map_some];exact congrArg some (e2 i _ _ (Qa hi) (Qa (by omega)))
   rw[Qn (by omega),Qn (by simp;omega)]
  subst this;rw[Qx];exact e3
 intro b;refine⟨l.map enc,by simp,fun i x vs hi a=>?_,by rw[<- Qx];exact b⟩;rw[Qu,hi]at a;simp at a;exact a.symm
end
theorem Sl.src {α:Type}{T:Shape α}{w:Xb}{S:Nat->Prop}{A:Option Addr}{n c:Nat}{l:List α}(B:Sl T w S (Xa A n c) l) :
  ∃vss:List (List Xc),vss.length=l.length/\(∀(i:Nat) x vs,l[i]? = some x->vss[i]? = some vs->T.rd w S x vs)/\Src w T.k A l.length vss.flatten:=by
 have key:∀m,m<=l.length->∃vss:List (List Xc),vss.length=m/\(∀(i:Nat) x vs,i<m->l[i]? = some x->vss[i]? = some vs->T.rd w S x vs)/\vss.flatten.length=m * T.k/\(∀u∈vss.flatten,u.oneCell'=true) /\
   (0<m->∃b o,A=some ⟨b,o,none⟩/\∀j u,vss.flatten[j]? = some u->w.cell? ⟨b,o+j,none⟩=some u):=by
  intro m
  induction m with
  | zero=>exact fun _=>⟨[],rfl,by omega,by simp,by simp,by omega⟩
  | succ m J =>
   intro O;obtain⟨vss,h1,q,p,r,s⟩:=J (by omega)
   have H:l=l.take m++l[m]'(by omega)::l.drop (m+1):=by rw[List.getElem_cons_drop,Qh]
   obtain⟨b,o,vs,M,I,N,t,z⟩:=B.at_ H;injection I with e1 e2 e3
   subst e1;have F:(l.take m).length=m:=(by simp;omega);rw[F]at z;refine⟨vss++[vs],by simp[h1],fun i x K hi f a=>?_,by simp[p,T.len t,Qe],fun u d=>?_,fun _=>⟨b,o,rfl,fun j u h=>?_⟩⟩
   ·by_cases D:i<m
    ·rw[Qc (by omega)]at a;exact q i x K D f a
    have:i=m:=by omega
    subst this;rw[Qd (by omega),h1]at a;simp at a;subst a;rw[Qa (by omega)]at f;cases f;exact t
   ·simp at d;rcases d with⟨y,a,d⟩|d
    ·exact r u (by simp;exact⟨y,a,d⟩)
    exact T.one t u d
   rw[List.flatten_append]at h
   by_cases E:j<m * T.k
   ·rw[Qc (by omega)]at h
    have G:0<m:=by
     rcases Qg m with h0|h0
     ·subst h0;simp at E
     exact h0
    obtain⟨L,o',e,C⟩:=s G;cases e;exact C j u h
   rw[Qd (by omega),p]at h;have:=z (j-m * T.k) u (by simpa using h)
   rwa[show o+m * T.k+(j-m * T.k)=o+j by omega]at this
 obtain⟨vss,h1,q,p,r,s⟩:=key l.length (Qv _);exact⟨vss,h1,fun i x vs f=>q i x vs (Qb.1 f).1 f,p,r,s⟩
theorem Src.keep2 {w w':Xb}{k m:Nat}{A:Option Addr}{f:List Xc}(c:Src w k A m f)(hb:∀b,b<w.heap.size->w'.heap[b]? = w.heap[b]?):Src w' k A m f :=
 ⟨c.1,c.2.1,fun h=>by obtain⟨b,o,rfl,d⟩:=c.2.2 h;exact⟨b,o,rfl,fun j u e=>(World.cell?_of_block (a:=⟨b,o+j,none⟩) (hb b (zae (d j u e)))).trans (d j u e)⟩⟩
theorem Src.ext {w w':Xb}{k m:Nat}{A:Option Addr}{a:List Xc}(c:Src w k A m a)(d:Ext w w'):Src w' k A m a:=c.keep2 fun b hb=>d.block b hb
def RowIs (w:Xb)(g T:Nat)(xs tail:List Xc):Prop:=w.heap[g]? = some (.cells (xs++tail).toArray T (0,0))
section
variable {w w':Xb} {g T:Nat} {xs tail:List Xc}
theorem RowIs.lt (h:RowIs w g T xs tail):g<w.heap.size:=(Qf.1 h).1
theorem RowIs.cell (b:RowIs w g T xs tail){j:Nat}{u:Xc}(a:xs[j]? = some u):w.cell? ⟨g,j,none⟩=some u:=by
 rw[cell_of_row w g j _ T (0,0) b];have:=(Qb.1 a).1
 simpa[Qc this]using a
theorem RowIs.frozen (h:RowIs w g T xs tail)(j:Nat):w.frozen? ⟨g,j,none⟩=false:=by
 simp[World.frozen?,show w.heap[g]? = _ from h]
theorem RowIs.keep (a:RowIs w g T xs tail)(b:w'.heap[g]? = w.heap[g]?):RowIs w' g T xs tail:=b.trans a
theorem RowIs.ext (a:RowIs w g T xs tail)(b:Ext w w'):RowIs w' g T xs tail:=a.keep (b.block g a.lt)
theorem RowIs.alloc (h:RowIs w g T xs tail)(o:Obj):RowIs (w.alloc o) g T xs tail:=h.ext ((Ext.refl w).alloc o)
theorem RowIs.other (a:RowIs w g T xs tail){p:Addr}(b:p.block≠g)(u:Xc):RowIs (w.setCell p u) g T xs tail:=a.keep (Below.heap_setCell w p u g b.symm)
theorem RowIs.set (a:RowIs w g T xs tail){j:Nat}(b:j<xs.length)(u:Xc):RowIs (w.setCell ⟨g,j,none⟩ u) g T (xs.set j u) tail:=by
 unfold RowIs at a ⊢;simp only[World.setCell,Array.getElem?_modify,a,if_true,Option.map_some,Option.isSome_none,Bool.false_eq_true,if_false]
 congr 2
 apply Array.ext'
 simp[List.set_append,b]
theorem RowIs.setRow (b:RowIs w g T xs tail)(a:List Xc):RowIs (w.setRow g (a++tail).toArray) g T a tail:=setRow_heap w g _ _ T (0,0) b
theorem Own.row {base k n:Nat}{v:Xc}(d:Own w base T k v n xs)(i:0<n):∃g a tail,v=Xa (some ⟨g,0,none⟩) n a/\base<=g/\RowIs w g T xs tail/\n<=a/\a<=9223372036854775807/\(xs++tail).length=a * k:=by
 obtain⟨g,a,c,m,hb,o,f,e,h,j,b⟩:=d.pos i;refine⟨g,a,c.toList.drop (n * k),m,hb,?_,e,h,?_⟩
 ·unfold RowIs;rw[<- b,Qh];exact f
 rw[<- b,Qh]
 simpa using j
theorem RowIs.own {base k n a:Nat}{b:List Xc}(d:RowIs w g T b tail)(hb:base<=g)(h:n<=a)(f:a<=9223372036854775807)(e:(b++tail).length=a * k)(i:b.take (n * k)=xs)(c:xs.length=n * k):Own w base T k (Xa (some ⟨g,0,none⟩) n a) n xs:=by
 refine⟨c,.inr ⟨g,a,_,rfl,hb,d,h,f,by simpa using e,?_⟩⟩;rw[<- i]at c ⊢;have:n * k<=b.length:=by rw[Qw]at c;omega
 simp[Qj this]
end
theorem zig {P:Program}{w:Xb}{g t T k o n c:Nat}{i:TypeInfo}{z:Xc}{xs tail:List Xc}(A:P.underlying t=some (.slice T))(hi:P.info? T=some i)(B:i.zero=some z)(hk:z.cells.size=k)(h1:∀u∈z.cells.toList,u.oneCell'=true)(s:RowIs w g T xs tail)(E:0<n)(d:xs.length=(o+n) * k)(D:TypeId) :
  ∃p:List Xc,p.length=n * k/\(Builtin.clear_ #[t] D #[Xa (some ⟨g,o * k,none⟩) n c]).run P w=.ok (.tuple #[]) (w.setRow g ((xs.take (o * k)++p)++tail).toArray):=by
 have f:(Builtin.zeroCells z.cells n).toList.length=n * k:=by simp[Builtin.zeroCells,hk]
 refine⟨(Builtin.zeroCells z.cells n).toList,f,?_⟩
 have C:∀u∈(Builtin.zeroCells z.cells n).toList,u.oneCell'=true:=by
  intro u m;simp only[Builtin.zeroCells,Array.toList_map,List.mem_map]at m;obtain⟨j,a,rfl⟩:=m;simp at a
  have y:0<z.cells.size:=by
   rcases Qg z.cells.size with h0|h0
   ·rw[h0]at a;simp at a
   exact h0
  have h:=Nat.mod_lt j y;refine h1 _ ?_;rw[getElem!_pos z.cells (j % z.cells.size) h];exact Array.getElem_mem_toList h
 have b:=run_storeCells_at P g (o * k) T (Builtin.zeroCells z.cells n).toList 0 (xs++tail).toArray w s (by rw[f];simp[d,Qe]) C;simp only[Nat.add_zero]at b
 have e:((xs++tail).toArray.toList.take (o * k)++(Builtin.zeroCells z.cells n).toList++(xs++tail).toArray.toList.drop (o * k+(Builtin.zeroCells z.cells n).toList.length))=(xs.take (o * k)++(Builtin.zeroCells z.cells n).toList)++tail:=by
  rw[f];have q:o * k<=xs.length:=by rw[d,Qe];omega
  have r:o * k+n * k=xs.length:=by rw[d,Qe]
  simp only[Qj q];rw[r,List.drop_left]
 rw[e]at b
 cases n with
 | zero=>omega
 | succ n=>simp[Builtin.clear_,run_underlying A,zeroValue,typeInfo,hi,B,b]
theorem RowIs.p3 {w:Xb}{g T:Nat}{b a1 a2:Xc}{r t:List Xc}(a:RowIs w g T (b::a1::a2::r) t):w.cell? ⟨g,0,none⟩=some b∧w.cell? ⟨g,1,none⟩=some a1∧w.cell? ⟨g,2,none⟩=some a2:=⟨a.cell rfl,a.cell rfl,a.cell rfl⟩
theorem RowIs.p4 {w:Xb}{g T:Nat}{b a1 a2 a3:Xc}{r t:List Xc}(a:RowIs w g T (b::a1::a2::a3::r) t):w.cell? ⟨g,0,none⟩=some b∧w.cell? ⟨g,1,none⟩=some a1∧w.cell? ⟨g,2,none⟩=some a2∧w.cell? ⟨g,3,none⟩=some a3:=⟨a.cell rfl,a.cell rfl,a.cell rfl,a.cell rfl⟩
theorem RowIs.p7 {w:Xb}{g T:Nat}{b a1 a2 a3 c d e:Xc}{r t:List Xc}(a:RowIs w g T (b::a1::a2::a3::c::d::e::r) t):w.cell? ⟨g,0,none⟩=some b∧w.cell? ⟨g,1,none⟩=some a1∧w.cell? ⟨g,2,none⟩=some a2∧w.cell? ⟨g,3,none⟩=some a3∧w.cell? ⟨g,4,none⟩=some c∧w.cell? ⟨g,5,none⟩=some d∧w.cell? ⟨g,6,none⟩=some e:=⟨a.cell rfl,a.cell rfl,a.cell rfl,a.cell rfl,a.cell rfl,a.cell rfl,a.cell rfl⟩
theorem RowIs.q3 {w:Xb}{g T:Nat}{l t:List Xc}(h:RowIs w g T l t):w.frozen? ⟨g,0,none⟩=false∧w.frozen? ⟨g,1,none⟩=false∧w.frozen? ⟨g,2,none⟩=false:=⟨h.frozen 0,h.frozen 1,h.frozen 2⟩
theorem RowIs.q4 {w:Xb}{g T:Nat}{l t:List Xc}(h:RowIs w g T l t):w.frozen? ⟨g,0,none⟩=false∧w.frozen? ⟨g,1,none⟩=false∧w.frozen? ⟨g,2,none⟩=false∧w.frozen? ⟨g,3,none⟩=false:=⟨h.frozen 0,h.frozen 1,h.frozen 2,h.frozen 3⟩
theorem RowIs.q7 {w:Xb}{g T:Nat}{l t:List Xc}(h:RowIs w g T l t):w.frozen? ⟨g,0,none⟩=false∧w.frozen? ⟨g,1,none⟩=false∧w.frozen? ⟨g,2,none⟩=false∧w.frozen? ⟨g,3,none⟩=false∧w.frozen? ⟨g,4,none⟩=false∧w.frozen? ⟨g,5,none⟩=false∧w.frozen? ⟨g,6,none⟩=false:=⟨h.frozen 0,h.frozen 1,h.frozen 2,h.frozen 3,h.frozen 4,h.frozen 5,h.frozen 6⟩
end
section
abbrev ltS (a b:Str):Bool:=Op.bytesLess a b
def leS (a b:Str):Bool:=Op.bytesLess a b||a==b
theorem zap:∀a:Str,ltS a a=false
 | []=>rfl
 | a::r=>by simp[ltS,Op.bytesLess];exact zap r
theorem zay:∀ {a b c:Str},ltS a b=true->ltS b c=true->ltS a c=true
 | _,[],_,h,_=>by simp[ltS,Op.bytesLess]at h
 | _,_::_,[],_,h=>by simp[ltS,Op.bytesLess]at h
 | [],_::_,_::_,_,_=>rfl
 | a::x,b::y,c::z,h1,h2=>by
  simp only[ltS,Op.bytesLess,Bool.or_eq_true,decide_eq_true_eq,Bool.and_eq_true,beq_iff_eq]at h1 h2 ⊢;rcases h1 with h1|⟨rfl,h1⟩<;>rcases h2 with h2|⟨rfl,h2⟩
  ·exact .inl (UInt8.lt_trans h1 h2)
  ·exact .inl h1
  ·exact .inl h2
  exact .inr ⟨rfl,zay h1 h2⟩
theorem zv8 (a b:UInt8):a<b ∨ a=b ∨ b<a:=by
 rcases Nat.lt_trichotomy a.toNat b.toNat with h|h|h
 ·exact .inl (UInt8.lt_iff_toNat_lt.2 h)
 ·exact .inr (.inl (UInt8.toNat_inj.1 h))
 exact .inr (.inr (UInt8.lt_iff_toNat_lt.2 h))
theorem zcj:∀a b:Str,ltS a b=true ∨ a=b ∨ ltS b a=true
 | [],[]=>.inr (.inl rfl)
 | [],_::_=>.inl rfl
 | _::_,[]=>.inr (.inr rfl)
 | a::x,b::y=>by
  simp only[ltS,Op.bytesLess,Bool.or_eq_true,decide_eq_true_eq,Bool.and_eq_true,beq_iff_eq];rcases zv8 a b with h|rfl|h
  ·exact .inl (.inl h)
  ·rcases zcj x y with h|rfl|h
   ·exact .inl (.inr ⟨rfl,h⟩)
   ·exact .inr (.inl rfl)
   exact .inr (.inr (.inr ⟨rfl,h⟩))
  exact .inr (.inr (.inl h))
theorem zc8 {a b:Str}(c:ltS a b=true):ltS b a=false:=by
 cases d:ltS b a with
 | false=>rfl
 | true=>have:=zay c d;rw[zap]at this;cases this
theorem zck {a b:Str}(h:ltS a b=true):a≠b:=by rintro rfl;rw[zap]at h;cases h
theorem yay (a:Str):ltS a []=false:=by cases a<;>rfl
theorem yaz {a:Str}(h:a≠[]):ltS [] a=true:=by cases a with|nil=>exact absurd rfl h|cons x r=>rfl
theorem zfp (a b:Str):(ltS a b=true/\ltS b a=false/\(a==b)=false/\(b==a)=false/\a≠b) ∨ (a=b) ∨ (ltS a b=false/\ltS b a=true/\(a==b)=false/\(b==a)=false/\a≠b):=by
 rcases zcj a b with h|h|h
 ·have c:=zck h;exact .inl ⟨h,zc8 h,by simpa using c,by simpa using c.symm,c⟩
 ·exact .inr (.inl h)
 have c:=(zck h).symm;exact .inr (.inr ⟨zc8 h,h,by simpa using c,by simpa using c.symm,c⟩)
def cmpS (a b:Str):Int:=if ltS a b then -1 else if a==b then 0 else 1
def cmpN (a b:Nat):Int:=if a<b then -1 else if b<a then 1 else 0
abbrev Mark:=Str×Nat
def ofM (l:List Mark)(s:Str):Nat:=l.foldl (fun n m=>if m.1==s && !s.isEmpty then max n m.2 else n) 0
def hasM (l:List Mark)(d:Mark):Bool:=decide (1<=d.2)&&decide (d.2<=ofM l d.1)
def zd5:Str->List Mark->Bool
 | _,[]=>true
 | last,m::r=>!leS m.1 last&&decide (1<=m.2)&&decide (m.2<=281474976710656)&&zd5 m.1 r
def mayM (l:List Mark):Bool:=decide (l.length<=512)&&zd5 [] l
section
variable {P:Program} (w:Xb)
theorem zoj {x t:TypeId}{v:Xc}{u:TypeDesc}(a:P.underlying t=some u)(c:∀b,u≠.interface b) :
  (Instr.typeAssert (.iface t v) x t true).run P w=.ok (.tuple #[v,.bool true]) w:=by
 cases u<;>simp_all [Instr.typeAssert,run_underlying a]
theorem yh8 {x t:TypeId}{z:Xc}{u:TypeDesc}(a:P.underlying t=some u)(c:∀b,u≠.interface b)(d:(zeroValue t).run P w=.ok z w) :
  (Instr.typeAssert .nilIface x t true).run P w=.ok (.tuple #[z,.bool false]) w:=by
 cases u<;>simp_all [Instr.typeAssert,run_underlying a]
end
end
end Go.Proofs.YtaabaflgeljbjaaGreat
