/- An argument's datum opened: what it reads as, by shapes. -/
import Derived.Test.YtaabaflgeljbjaaGreatPr26
import Derived.Deep.Slices
set_option linter.unusedVariables false
set_option linter.unusedSimpArgs false
set_option maxRecDepth 100000
set_option maxHeartbeats 40000000
namespace Go.Proofs.YtaabaflgeljbjaaGreat
section
open Go.Deep Go.ChangeShapes Go.WideShapes
section
variable {H:Type} {enc:TypeId × Value->H} {w:World}
def zqx {α:Type} (enc:TypeId × Value->H) (w:World) (e:TypeId) (T:Shape α) (G:α->Prop):Prop :=
 ∀ n cs D p,DataW.trod enc Tryz.prog w 0 (fun _=>true) true n e cs=some (D,p)->(∀ q ∈ DataW.weights Tryz.prog e D,q<=reachBytes)->∃ a:α,T.rd w (fun _=>True) a cs/\G a
theorem zkh {P:Program} {e:TypeId} {d:DataW H} {q:Nat}:∀ {l:List (DataW H)},d ∈ l->q ∈ DataW.weights P e d->q ∈ DataW.weightsAll P e l
 | [],h,_=>by cases h
 | x :: r,h,hq=>by
  rw [DataW.weightsAll,List.mem_append];rcases List.mem_cons.1 h with rfl | h
  ·exact .inl hq
  ·exact .inr (zkh h hq)
theorem zyt {a:Addr} {v:Value} (h:w.cell? a=some v):a.spot=none:=by
 unfold World.cell? at h
 split at h
 ·split at h
  ·cases h
  ·rename_i hs
   cases hsp:a.spot with
   | none=>rfl
   | some x=>rw [hsp] at hs;exact absurd rfl hs
 ·cases h
theorem ztq {α:Type} [Inhabited α] {T:Shape α} {G:α->Prop} {e t:TypeId} (bytes:Nat) (hk:0 < T.k) (ht:Tryz.prog.underlying t=some (.slice e)) (hc:Tryz.prog.cellsOf e=T.k) (hby:Tryz.prog.bytesOf e=bytes)
  (h:zqx enc w e T G):zqx enc w t (slT T hk) (fun l=>(∀ a ∈ l,G a)/\l.length * bytes<=reachBytes):=by
 intro n cs D p htr hw;rcases open_slice ht htr with ⟨rfl,hx⟩ | ⟨a,len,cap,m,n',Df,Pl,rfl,hb,hl,hm,hmm,hx,hel⟩
 ·refine ⟨[],⟨_,rfl,Sl.nil none 0 (by omega)⟩,fun a ha=>(by cases ha),?_⟩;rw [List.length_nil,Nat.zero_mul];exact Nat.zero_le _
 ·have hlm:len<=m:=by rw [hmm];simpa using hl
  have hD:D=_:=congrArg Prod.fst hx;simp only at hD;clear hx;subst hD;simp only [DataW.weights,ht] at hw
  have each:∀ i,i < len->∃ q:α × List Value,T.rd w (fun _=>True) q.1 q.2/\G q.1/\w.cells? 0 (a.add (i * T.k)) T.k=some q.2:=by
   intro i hi;obtain⟨cs',h1,h2⟩:=hel i (by omega);rw [hc] at h1;obtain⟨x,hx1,hx2⟩:=h _ _ _ _ h2 fun q hq=>hw q (List.mem_cons_of_mem _ (List.mem_append_left _ (zkh (List.mem_map.2 ⟨i,List.mem_range.2 hi,rfl⟩) hq)))
   exact⟨(x,cs'),hx1,hx2,h1⟩
  obtain⟨f,hf⟩:=choose_lt each;have hw0:=hw _ (List.mem_cons_self ..);refine ⟨(List.range len).map fun i=>(f i).1,⟨_,rfl,some a,cap,by simp,by simpa using hl,by simpa [maxLen] using hm,?_⟩,?_,?_⟩
  ·intro pre x post hl';have hi:pre.length < len:=by have:=congrArg List.length hl';simp at this;omega
   have hx:x=(f pre.length).1:=by have:=congrArg (fun l=>l[pre.length]?) hl';simp [hi] at this;exact this.symm
   obtain⟨-,hlen0,hcell0⟩:=World.cells?_some (hf 0 (by omega)).2.2
   have ha:a.spot=none:=by
    have h0:=hcell0 0 hk;rw [List.getElem?_eq_getElem (by omega)] at h0;have:=zyt h0
    simpa [Addr.add] using this
   obtain⟨b,o,s⟩:=a;simp only at ha;subst ha;obtain⟨-,hlen,hcell⟩:=World.cells?_some (hf pre.length hi).2.2;refine ⟨b,o,(f pre.length).2,rfl,trivial,by rw [hx];exact (hf pre.length hi).1,fun j u hj=>?_⟩;have hjl:j < T.k:=(by have:=(List.getElem?_eq_some_iff.1 hj).1;omega);have:=hcell j hjl;rw [zdg,zdg] at this;rw [this,hj]
  ·intro x hx;obtain⟨i,hi,rfl⟩:=List.mem_map.1 hx;exact (hf i (List.mem_range.1 hi)).2.1
  ·simp only [List.length_map,List.length_range] at hw0 ⊢;rw [hby] at hw0;exact Nat.le_trans (Nat.mul_le_mul_right _ (Nat.le_add_right _ _)) hw0
theorem zv3 {n:Nat} {c:Value} {D:DataW H} {p:List MemPlace} (h:DataW.trod enc Tryz.prog w 0 (fun _=>true) true n 4 [c]=some (D,p)):∃ b:Bool,c=.bool b:=by
 obtain⟨b,hc,-⟩:=DataW.trod_bool Tryz.underlying4 h;exact⟨b,by simpa using hc⟩
theorem ycb {α:Type} {l:List α} (h:l.length=3):∃ a b c,l = [a,b,c]:=by
 match l,h with
 | [a,b,c],_=>exact⟨a,b,c,rfl⟩
theorem yax {α:Type} {l:List α} (h:l.length=4):∃ a b c d,l = [a,b,c,d]:=by
 match l,h with
 | [a,b,c,d],_=>exact⟨a,b,c,d,rfl⟩
theorem ycc {α:Type} {l:List α} (h:l.length=5):∃ a b c d e,l = [a,b,c,d,e]:=by
 match l,h with
 | [a,b,c,d,e],_=>exact⟨a,b,c,d,e,rfl⟩
theorem yb2:Tryz.prog.cellsOf 4=1:=by kernel_rfl
theorem zmc {P:Program} {q:Nat}:∀ {ts:List TypeId} {ds:List (DataW H)} (i:Nat) {t:TypeId} {d:DataW H},ts[i]? = some t->ds[i]? = some d->q ∈ DataW.weights P t d->q ∈ DataW.weightsEach P ts ds
 | [],_,_,_,_,h,_,_=>by simp at h
 | _ :: _,[],_,_,_,_,h,_=>by simp at h
 | a :: ts,b :: ds,0,t,d,h1,h2,hq=>by simp at h1 h2;subst h1;subst h2;rw [DataW.weightsEach,List.mem_append];exact .inl hq
 | a :: ts,b :: ds,i+1,t,d,h1,h2,hq=>by rw [DataW.weightsEach,List.mem_append];exact .inr (zmc i (by simpa using h1) (by simpa using h2) hq)
end
end
end Go.Proofs.YtaabaflgeljbjaaGreat
