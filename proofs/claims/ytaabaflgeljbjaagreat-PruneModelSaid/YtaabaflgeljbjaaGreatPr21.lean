/- append to a row of the call's own, as one step of a region that draws. -/
import Derived.Test.YtaabaflgeljbjaaGreatPr01
import Derived.Deep.RegionLaw
set_option linter.unusedVariables false
set_option linter.unusedSimpArgs false
set_option maxRecDepth 100000
set_option maxHeartbeats 40000000
namespace Go.Proofs.YtaabaflgeljbjaaGreat
section
open Go.RowKit
theorem Src.newAt {w:World}{k b:Nat}{T:TypeId}{vs:List Value}(hb:b=w.heap.size)(hk:vs.length=k)(h1:∀u∈vs,u.oneCell'=true):Src (w.alloc (.cells vs.toArray T)) k (some ⟨b,0,none⟩) 1 vs:=by
 subst hb;exact Src.new hk h1
theorem zg7 {P:Program}{f:Array Oper}{o:Oper}{a:Act}{w:World}{K:Act->World->Prop}{Q:Exit->Act->World->Prop}{E:Prop}(D:o.guard=none)(s x:Operand)(t:TypeId)(G:o.op=Op.call { callee:=Callee.builtin Builtin.append,args:=#[s,x],argTypes:=#[t,t] })(base e size b:Nat)(z:Value)(O:P.underlying t=some (.slice e))(F:(P.info? e).map (fun i=>(i.zero,i.size,i.bytes))=some (some z,size,b))(U:z.cells.size=size)(N:0<size)(v:Value)(n:Nat)(xs:List Value)(J:a.eval s=v)(H:Own w base e size v n xs)(A:Option Addr)(m c:Nat)(d:List Value)(S:a.eval x=.slice A m c)(M:Src w size A m d)(C:(n+m) * b<=140737488355328)(u:n+m<=9223372036854775807)(y:base<=w.heap.size)(q:∀v' w',Own w' base e size v' (n+m) (xs++d)->Grew w w' v v'->K (a.put o.dst v') w') :
  if Region.wanted o (yielded f a.tmps)=true then Oper.wp P o a w K Q else E:=by
 have R:Region.wanted o (yielded f a.tmps)=true:=by simp[Region.wanted,D]
 rw[zP R];obtain⟨i,hi,T,L,B⟩:=info_parts F;obtain⟨v',w',I,r,g,h,j,k,l,p⟩:=zhi (P:=P) w base t o.type e i z size b O hi T L B U N v n xs H A m c d M C u y;unfold Oper.wp execOp;simp only[G,resolve,invoke,builtin,Sem.run_bind,Sem.run_pure,Result.andThen_ok,List.map_toArray,List.map_cons,List.map_nil,J,S,I];exact q v' w' r ⟨g,h,j,k,l,p⟩
end
end Go.Proofs.YtaabaflgeljbjaaGreat
