/- For a range over a function: what its invariants say of a row of the call's own; append inside a round. -/
import Derived.Test.YtaabaflgeljbjaaGreatPr01
import Derived.RangeFuncNested
import Derived.RangeFuncBound
import Derived.RangeFuncCalls
import Derived.RangeFuncLeaves
import Derived.Shelf.Abstract
import Derived.Shelf.RegionOpen
import Derived.OwnWalkIn
import Derived.TacticsInMore
import Derived.LoopNIn
import Derived.LoopIn
set_option linter.unusedVariables false
set_option linter.unusedSimpArgs false
set_option maxRecDepth 100000
set_option maxHeartbeats 40000000
namespace Go.Proofs.YtaabaflgeljbjaaGreat
open Go renaming World→Xa,Value→Xb
section
open Go.RowKit Go.Shelf
def KpS (S:Nat->Prop)(n:Nat)(W W':Xa):Prop:=W.heap.size<=W'.heap.size/\∀b,S b->b<n->W'.heap[b]? = W.heap[b]?
theorem KpS.refl (S:Nat->Prop)(n:Nat)(W:Xa):KpS S n W W:=⟨Nat.le_refl _,fun _ _ _=>rfl⟩
theorem KpS.trans {S:Nat->Prop}{n:Nat}{A B C:Xa}(a:KpS S n A B)(k:KpS S n B C):KpS S n A C:=⟨Nat.le_trans a.1 k.1,fun b hb c=>(k.2 b hb c).trans (a.2 b hb c)⟩
theorem KpS.put {S:Nat->Prop}{n:Nat}{w:Xa}(d:n<=w.heap.size)(W:Xa)(l:Nat)(o o':Obj)(c:w.heap.size<=l)(_:W.heap[l]? = some o)(_:o.isCells=false)(_:o.isWalk=false):KpS S n W (W.putObj l o') :=
 have a:=grownBy_putObj' W l o'
 ⟨a.size,fun b _ hb=>a.block b (by have:=(Array.getElem?_eq_some_iff.1 ‹W.heap[l]? = some o›).1;omega) (fun e=>by cases e;omega)⟩
theorem Ext.kpS {S:Nat->Prop}{n:Nat}{W a:Xa}(c:Ext W a)(d:n<=W.heap.size):KpS S n W a:=⟨c.size,fun b _ hb=>c.block b (by omega)⟩
theorem KpS.grew {S:Nat->Prop}{n:Nat}{W a:Xa}{v v':Xb}(c:Grew W a v v')(g:n<=W.heap.size)(e:∀b,zad v b->S b->n<=b):KpS S n W a :=
 ⟨c.size,fun b hb f=>c.same b (by omega) (fun d=>by have:=e b d hb;omega)⟩
theorem KpS.set {S:Nat->Prop}{n:Nat}(W:Xa){p:Addr}(a:S p.block->n<=p.block)(v:Xb):KpS S n W (W.setCell p v) :=
 ⟨by simp,fun b hb c=>Below.heap_setCell W p v b (fun e=>by subst e;have:=a hb;omega)⟩
theorem zb3 {W b:Xa}(a:Ext W b):W.grownBy b none:=by
 refine⟨?_,?_,?_,?_,?_⟩
 all_goals first|exact a.os|exact a.tape|exact a.output|exact a.size|exact fun k hk _=>a.block k hk
theorem zix (w:Xa)(v:Xb)(t:TypeId):(w.alloc (.cells #[v] t)).cell? ⟨w.heap.size,0,none⟩=some v/\(w.alloc (.cells #[v] t)).frozen? ⟨w.heap.size,0,none⟩=false :=
 ⟨by simp[go_sem],by unfold World.frozen?;rw[World.alloc_heap_new];rfl⟩
theorem Own.kept {w w':Xa}{base T k n:Nat}{v:Xb}{xs:List Xb}{row:Option Nat}(d:Own w base T k v n xs)(i:w.grownBy w' row)(m:∀r,row=some r->∃o:Obj,w.heap[r]? = some o/\o.isCells=false):Own w' base T k v n xs :=
 d.keep fun b hb l=>i.block b l fun e=>by
  obtain⟨o,f,h⟩:=m b e.symm;obtain⟨g,u,c,rfl,t,rfl⟩:=hb;rcases d.2 with⟨A,a,-⟩|⟨s,p,q,a,-,j,-⟩
  ·injection a with e1 e2 e3;omega
  cases a;rw[j]at f;cases f;cases h
theorem Grew.keeps {W d:Xa}{v v':Xb}{base T k n:Nat}{xs:List Xb}(e:Grew W d v v')(i:Own W base T k v n xs):KeepsOthers W d :=
 ⟨e.size,fun b o hb f=>(e.same b (Array.getElem?_eq_some_iff.1 hb).1 (fun j=>by
  obtain⟨g,r,c,rfl,q,rfl⟩:=j;rcases i.2 with⟨A,a,-⟩|⟨p,l,m,a,-,h,-⟩
  ·injection a with e1 e2 e3;omega
  cases a;rw[h]at hb;cases hb;cases f)).trans hb⟩
theorem zfl {F:Fence}{g:Nat}{P:Program}{w:Xa}{h:Array Oper}{j:List Oper}{o:Oper}{a:Act}{Q:Exit->Act->Xa->Prop}(J:o.guard=none)(s x:Operand)(t:TypeId)(d:o.op=.call { callee:=.builtin .append,args:=#[s,x],argTypes:=#[t,t] })(base e size b:Nat)(z:Xb)(U:P.underlying t=some (.slice e))(L:(P.info? e).map (fun i=>(i.zero,i.size,i.bytes))=some (some z,size,b))(X:z.cells.size=size)(T:0<size)(v:Xb)(n:Nat)(xs:List Xb)(O:a.eval s=v)(M:Own w base e size v n xs)(A:Option Addr)(m c:Nat)(f:List Xb)(V:a.eval x=.slice A m c)(S:Src w size A m f)(H:(n+m) * b<=140737488355328)(C:n+m<=9223372036854775807)(E:base<=w.heap.size)(y:∀v' w',Own w' base e size v' (n+m) (xs++f)->Grew w w' v v'->wpListIn F g P h Q j (a.put o.dst v') w'):wpListIn F g P h Q (o::j) a w:=by
 obtain⟨i,hi,W,R,G⟩:=info_parts L;obtain⟨v',w',N,B,k,l,p,q,r,u⟩:=zhi (P:=P) w base t o.type e i z size b U hi W R G X T v n xs M A m c f S H C E;refine wpListIn_plain J fun K D=>?_
 unfold Oper.wpIn;refine⟨?_,?_⟩
 ·simp[Oper.about,d,resolve,Target.leads,Sem.run_pure]
 rw[Oper.semAt_plain F _ _ (by rw[d];intro c I;cases I)];simp[execOp,d,resolve,invoke,builtin,O,V,N,Result.andThen];exact D _ _ (y v' w' B ⟨k,l,p,q,r,u⟩)
theorem zq0 {P:Program}{w:Xa}(base t e size a c:Nat)(z:Xb)(p:P.underlying t=some (.slice e))(m:(P.info? e).map (fun i=>(i.zero,i.size,i.bytes))=some (some z,size,a))(r:z.cells.size=size)(hb:a * c<=281474976710656)(g:c<=9223372036854775807)(k:base<=w.heap.size) :
  ∃b,(Instr.makeSlice t (.int .i64 0) (.int .i64 (c:Int))).run P w=.ok (.slice (some ⟨w.heap.size,0,none⟩) 0 c) (w.alloc (.cells b e)) /\
   Own (w.alloc (.cells b e)) base e size (.slice (some ⟨w.heap.size,0,none⟩) 0 c) 0 []:=by
 obtain⟨i,hi,q,o,l⟩:=info_parts m;have h:(c:Int)<=9223372036854775807:=by omega
 have j:(i.bytes:Int) * (c:Int)<=281474976710656:=by
  rw[l];have f:((a * c:Nat):Int)<=281474976710656:=by omega
  rwa[Int.natCast_mul]at f
 have d:=run_make (P:=P) w t e i z p hi q .i64 .i64 0 c (Int.le_refl _) (by omega) j h;simp only[Int.toNat_zero,Int.toNat_natCast]at d;have n:=World.ownsRow_made (base:=base) w _ c k (by simpa[maxLen]using g) (size_madeCells z.cells (c * i.size)) (e:=e);exact⟨_,d,Own.of_ownsRow (by rw[<- o];exact n)⟩
end
end Go.Proofs.YtaabaflgeljbjaaGreat
