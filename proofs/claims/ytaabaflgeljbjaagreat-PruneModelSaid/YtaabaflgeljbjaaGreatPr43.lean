/- An argument's datum opened: what it reads as, by shapes. -/
import Derived.Test.YtaabaflgeljbjaaGreatPr26
import Derived.Deep.Slices
set_option linter.unusedVariables false
set_option linter.unusedSimpArgs false
set_option maxRecDepth 100000
set_option maxHeartbeats 40000000
namespace Go.Proofs.YtaabaflgeljbjaaGreat
section
open Go.Deep Go.ChangeShapes Go.WideShapes
section
variable {H:Type} {enc:TypeId × Value->H} {w:World}
def zqx {α:Type}(enc:TypeId×Value->H)(w:World)(e:TypeId)(T:Shape α)(G:α->Prop):Prop :=
 ∀n cs D p,DataW.trod enc Tryz.prog w 0 (fun _=>true) true n e cs=some (D,p)->(∀q∈DataW.weights Tryz.prog e D,q<=reachBytes)->∃a:α,T.rd w (fun _=>True) a cs/\G a
theorem zkh {P:Program}{e:TypeId}{d:DataW H}{q:Nat}:∀ {l:List (DataW H)},d∈l->q∈DataW.weights P e d->q∈DataW.weightsAll P e l
 | [],h,_=>by cases h
 | x::r,h,hq=>by
  rw[DataW.weightsAll,List.mem_append];rcases List.mem_cons.1 h with rfl|h
  ·exact .inl hq
  exact .inr (zkh h hq)
theorem zyt {a:Addr}{v:Value}(b:w.cell? a=some v):a.spot=none:=by
 unfold World.cell? at b
 split at b
 ·split at b
  ·cases b
  rename_i c
  cases d:a.spot with
  | none=>rfl
  | some x=>rw[d]at c;exact absurd rfl c
 cases b
theorem ztq {α:Type}[Inhabited α]{T:Shape α}{g:α->Prop}{e t:TypeId}(v:Nat)(hk:0<T.k)(C:Tryz.prog.underlying t=some (.slice e))(K:Tryz.prog.cellsOf e=T.k)(J:Tryz.prog.bytesOf e=v)(G:zqx enc w e T g):zqx enc w t (slT T hk) (fun l=>(∀a∈l,g a)/\l.length * v<=reachBytes):=by
 intro n cs D p S h;rcases open_slice C S with⟨rfl,c⟩|⟨a,len,E,m,ab,W,X,rfl,hb,A,P,Q,c,N⟩
 ·refine⟨[],⟨_,rfl,Sl.nil none 0 (by omega)⟩,fun a ha=>(by cases ha),?_⟩;rw[List.length_nil,Nat.zero_mul];exact Nat.zero_le _
 have aa:len<=m:=by rw[Q];simpa using A
 have y:D=_:=congrArg Prod.fst c;simp only at y;clear c;subst y;simp only[DataW.weights,C]at h
 have each:∀i,i<len->∃q:α×List Value,T.rd w (fun _=>True) q.1 q.2/\g q.1/\w.cells? 0 (a.add (i * T.k)) T.k=some q.2:=by
  intro i hi;obtain⟨F,h1,I⟩:=N i (by omega);rw[K]at h1;obtain⟨x,U,V⟩:=G _ _ _ _ I fun q R=>h q (List.mem_cons_of_mem _ (List.mem_append_left _ (zkh (List.mem_map.2 ⟨i,List.mem_range.2 hi,rfl⟩) R)))
  exact⟨(x,F),U,V,h1⟩
 obtain⟨f,d⟩:=choose_lt each;have r:=h _ (List.mem_cons_self ..);refine⟨(List.range len).map fun i=>(f i).1,⟨_,rfl,some a,E,by simp,by simpa using A,by simpa[maxLen]using P,?_⟩,?_,?_⟩
 ·intro pre x post B;have hi:pre.length<len:=by have:=congrArg List.length B;simp at this;omega
  have c:x=(f pre.length).1:=by have:=congrArg (fun l=>l[pre.length]?) B;simp[hi]at this;exact this.symm
  obtain⟨-,Z,M⟩:=World.cells?_some (d 0 (by omega)).2.2
  have ha:a.spot=none:=by
   have h0:=M 0 hk;rw[List.getElem?_eq_getElem (by omega)]at h0;have:=zyt h0
   simpa[Addr.add]using this
  obtain⟨b,o,s⟩:=a;simp only at ha;subst ha;obtain⟨-,Y,L⟩:=World.cells?_some (d pre.length hi).2.2;refine⟨b,o,(f pre.length).2,rfl,trivial,by rw[c];exact(d pre.length hi).1,fun j u z=>?_⟩;have O:j<T.k:=(by have:=(List.getElem?_eq_some_iff.1 z).1;omega);have:=L j O;rw[zdg,zdg]at this;rw[this,z]
 ·intro x c;obtain⟨i,hi,rfl⟩:=List.mem_map.1 c;exact(d i (List.mem_range.1 hi)).2.1
 simp only[List.length_map,List.length_range]at r ⊢;rw[J]at r;exact Nat.le_trans (Nat.mul_le_mul_right _ (Nat.le_add_right _ _)) r
theorem zv3 {n:Nat}{c:Value}{a:DataW H}{p:List MemPlace}(d:DataW.trod enc Tryz.prog w 0 (fun _=>true) true n 4 [c]=some (a,p)):∃b:Bool,c=.bool b:=by
 obtain⟨b,e,-⟩:=DataW.trod_bool Tryz.underlying4 d;exact⟨b,by simpa using e⟩
theorem ykx {α:Type}{l:List α}(h:l.length=2):∃a b,l = [a,b]:=by
 match l,h with
 | [a,b],_=>exact⟨a,b,rfl⟩
theorem ycb {α:Type}{l:List α}(h:l.length=3):∃a b c,l = [a,b,c]:=by
 match l,h with
 | [a,b,c],_=>exact⟨a,b,c,rfl⟩
theorem yax {α:Type}{l:List α}(h:l.length=4):∃a b c d,l = [a,b,c,d]:=by
 match l,h with
 | [a,b,c,d],_=>exact⟨a,b,c,d,rfl⟩
theorem ycc {α:Type}{l:List α}(h:l.length=5):∃a b c d e,l = [a,b,c,d,e]:=by
 match l,h with
 | [a,b,c,d,e],_=>exact⟨a,b,c,d,e,rfl⟩
theorem yb2:Tryz.prog.cellsOf 4=1:=by kernel_rfl
theorem zmc {P:Program}{q:Nat}:∀ {e:List TypeId} {c:List (DataW H)} (i:Nat) {t:TypeId} {d:DataW H},e[i]? = some t->c[i]? = some d->q∈DataW.weights P t d->q∈DataW.weightsEach P e c
 | [],_,_,_,_,h,_,_=>by simp at h
 | _::_,[],_,_,_,_,h,_=>by simp at h
 | a::e,b::c,0,t,d,h1,h2,hq=>by simp at h1 h2;subst h1;subst h2;rw[DataW.weightsEach,List.mem_append];exact .inl hq
 | a::e,b::c,i+1,t,d,h1,h2,hq=>by rw[DataW.weightsEach,List.mem_append];exact .inr (zmc i (by simpa using h1) (by simpa using h2) hq)
end
end
end Go.Proofs.YtaabaflgeljbjaaGreat
