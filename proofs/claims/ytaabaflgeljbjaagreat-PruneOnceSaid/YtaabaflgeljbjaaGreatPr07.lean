/- For a range over a function: what its invariants say of a row of the call's own; append inside a round. -/
import Derived.Test.YtaabaflgeljbjaaGreatPr01
import Derived.RangeFuncNested
import Derived.RangeFuncBound
import Derived.RangeFuncCalls
import Derived.RangeFuncLeaves
import Derived.Shelf.Abstract
import Derived.Shelf.RegionOpen
import Derived.OwnWalkIn
import Derived.TacticsInMore
import Derived.LoopNIn
import Derived.LoopIn
set_option linter.unusedVariables false
set_option linter.unusedSimpArgs false
set_option maxRecDepth 100000
set_option maxHeartbeats 40000000
namespace Go.Proofs.YtaabaflgeljbjaaGreat
section
open Go.RowKit Go.Shelf
def KpS (S:Nat->Prop) (n:Nat) (W W':World):Prop:=W.heap.size<=W'.heap.size/\∀ b,S b->b < n->W'.heap[b]? = W.heap[b]?
theorem KpS.refl (S:Nat->Prop) (n:Nat) (W:World):KpS S n W W:=⟨Nat.le_refl _,fun _ _ _=>rfl⟩
theorem KpS.trans {S:Nat->Prop} {n:Nat} {A B C:World} (h:KpS S n A B) (k:KpS S n B C):KpS S n A C:=⟨Nat.le_trans h.1 k.1,fun b hb hn=>(k.2 b hb hn).trans (h.2 b hb hn)⟩
theorem KpS.put {S:Nat->Prop} {n:Nat} {w:World} (hn:n<=w.heap.size) (W:World) (l:Nat) (o o':Obj) (hl:w.heap.size<=l) (_:W.heap[l]? = some o) (_:o.isCells=false) (_:o.isWalk=false):KpS S n W (W.putObj l o') :=
 have h:=grownBy_putObj' W l o'
 ⟨h.size,fun b _ hb=>h.block b (by have:=(Array.getElem?_eq_some_iff.1 ‹W.heap[l]? = some o›).1;omega) (fun e=>by cases e;omega)⟩
theorem Ext.kpS {S:Nat->Prop} {n:Nat} {W W':World} (h:Ext W W') (hn:n<=W.heap.size):KpS S n W W':=⟨h.size,fun b _ hb=>h.block b (by omega)⟩
theorem KpS.grew {S:Nat->Prop} {n:Nat} {W W':World} {v v':Value} (h:Grew W W' v v') (hn:n<=W.heap.size) (hv:∀ b,zad v b->S b->n<=b):KpS S n W W' :=
 ⟨h.size,fun b hb hbn=>h.same b (by omega) (fun ho=>by have:=hv b ho hb;omega)⟩
theorem KpS.set {S:Nat->Prop} {n:Nat} (W:World) {p:Addr} (hp:S p.block->n<=p.block) (v:Value):KpS S n W (W.setCell p v) :=
 ⟨by simp,fun b hb hbn=>Below.heap_setCell W p v b (fun e=>by subst e;have:=hp hb;omega)⟩
theorem zb3 {W W':World} (h:Ext W W'):W.grownBy W' none:=by
 refine ⟨?_,?_,?_,?_,?_⟩
 all_goals first | exact h.os | exact h.tape | exact h.output | exact h.size | exact fun k hk _=>h.block k hk
theorem zix (w:World) (v:Value) (t:TypeId):(w.alloc (.cells #[v] t)).cell? ⟨w.heap.size,0,none⟩=some v/\(w.alloc (.cells #[v] t)).frozen? ⟨w.heap.size,0,none⟩=false :=
 ⟨by simp [go_sem],by unfold World.frozen?;rw [World.alloc_heap_new];rfl⟩
theorem Own.kept {w w':World} {base T k n:Nat} {v:Value} {xs:List Value} {row:Option Nat} (h:Own w base T k v n xs) (hg:w.grownBy w' row) (hr:∀ r,row=some r->∃ o:Obj,w.heap[r]? = some o/\o.isCells=false):Own w' base T k v n xs :=
 h.keep fun b hb hlt=>hg.block b hlt fun e=>by
  obtain⟨o,ho,hc⟩:=hr b e.symm;obtain⟨g,n',c,rfl,hc0,rfl⟩:=hb;rcases h.2 with ⟨A,hv,-⟩ | ⟨g',cap,cur,hv,-,hg',-⟩
  ·injection hv with e1 e2 e3;omega
  ·cases hv;rw [hg'] at ho;cases ho;cases hc
theorem Grew.keeps {W W':World} {v v':Value} {base T k n:Nat} {xs:List Value} (h:Grew W W' v v') (ho:Own W base T k v n xs):KeepsOthers W W' :=
 ⟨h.size,fun b o hb hc=>(h.same b (Array.getElem?_eq_some_iff.1 hb).1 (fun hob=>by
  obtain⟨g,n',c,rfl,hc0,rfl⟩:=hob;rcases ho.2 with ⟨A,hv,-⟩ | ⟨g',cap,cur,hv,-,hg',-⟩
  ·injection hv with e1 e2 e3;omega
  ·cases hv;rw [hg'] at hb;cases hb;cases hc)).trans hb⟩
theorem zfl {F:Fence} {nF:Nat} {P:Program} {w:World} {ops:Array Oper} {rest:List Oper} {o:Oper} {a:Act} {Q:Exit->Act->World->Prop} (hgd:o.guard=none) (s x:Operand) (t:TypeId)
  (ho:o.op=.call { callee:=.builtin .append,args:=#[s,x],argTypes:=#[t,t] })
  (base e size bytes:Nat) (z:Value) (ht:P.underlying t=some (.slice e)) (hinfo:(P.info? e).map (fun i=>(i.zero,i.size,i.bytes))=some (some z,size,bytes)) (hzs:z.cells.size=size) (hsz:0 < size)
  (v:Value) (n:Nat) (xs:List Value) (hs:a.eval s=v) (hown:Own w base e size v n xs)
  (A:Option Addr) (m c:Nat) (news:List Value) (hx:a.eval x=.slice A m c) (hsrc:Src w size A m news)
  (hbytes:(n+m) * bytes<=140737488355328) (h63:n+m<=9223372036854775807) (hbase:base<=w.heap.size)
  (h:∀ v' w',Own w' base e size v' (n+m) (xs++news)->Grew w w' v v'->wpListIn F nF P ops Q rest (a.put o.dst v') w'):wpListIn F nF P ops Q (o :: rest) a w:=by
 obtain⟨i,hi,hz,hsize,hby⟩:=info_parts hinfo;obtain⟨v',w',hrun,h2,g1,g2,g3,g4,g5,g6⟩:=zhi (P:=P) w base t o.type e i z size bytes ht hi hz hsize hby hzs hsz v n xs hown A m c news hsrc hbytes h63 hbase;refine wpListIn_plain hgd fun K hK'=>?_
 unfold Oper.wpIn;refine ⟨?_,?_⟩
 ·simp [Oper.about,ho,resolve,Target.leads,Sem.run_pure]
 ·rw [Oper.semAt_plain F _ _ (by rw [ho];intro c hc';cases hc')];simp [execOp,ho,resolve,invoke,builtin,hs,hx,hrun,Result.andThen];exact hK' _ _ (h v' w' h2 ⟨g1,g2,g3,g4,g5,g6⟩)
theorem zq0 {P:Program} {w:World} (base t e size bytes c:Nat) (z:Value) (ht:P.underlying t=some (.slice e)) (hinfo:(P.info? e).map (fun i=>(i.zero,i.size,i.bytes))=some (some z,size,bytes)) (hzs:z.cells.size=size)
  (hb:bytes * c<=281474976710656) (h63:c<=9223372036854775807) (hbase:base<=w.heap.size) :
  ∃ cur,(Instr.makeSlice t (.int .i64 0) (.int .i64 (c:Int))).run P w=.ok (.slice (some ⟨w.heap.size,0,none⟩) 0 c) (w.alloc (.cells cur e)) /\
   Own (w.alloc (.cells cur e)) base e size (.slice (some ⟨w.heap.size,0,none⟩) 0 c) 0 []:=by
 obtain⟨i,hi,hz,hsize,hby⟩:=info_parts hinfo;have h63':(c:Int)<=9223372036854775807:=by omega
 have hb':(i.bytes:Int) * (c:Int)<=281474976710656:=by
  rw [hby];have h:((bytes * c:Nat):Int)<=281474976710656:=by omega
  rwa [Int.natCast_mul] at h
 have hr:=run_make (P:=P) w t e i z ht hi hz .i64 .i64 0 c (Int.le_refl _) (by omega) hb' h63';simp only [Int.toNat_zero,Int.toNat_natCast] at hr;have ho:=World.ownsRow_made (base:=base) w _ c hbase (by simpa [maxLen] using h63) (size_madeCells z.cells (c * i.size)) (e:=e);exact⟨_,hr,Own.of_ownsRow (by rw [<- hsize];exact ho)⟩
end
end Go.Proofs.YtaabaflgeljbjaaGreat
