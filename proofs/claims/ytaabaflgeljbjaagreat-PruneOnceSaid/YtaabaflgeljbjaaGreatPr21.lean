/- append to a row of the call's own, as one step of a region that draws. -/
import Derived.Test.YtaabaflgeljbjaaGreatPr01
import Derived.Deep.RegionLaw
set_option linter.unusedVariables false
set_option linter.unusedSimpArgs false
set_option maxRecDepth 100000
set_option maxHeartbeats 40000000
namespace Go.Proofs.YtaabaflgeljbjaaGreat
section
open Go.RowKit
theorem Src.newAt {w:World} {k b:Nat} {T:TypeId} {vs:List Value} (hb:b=w.heap.size) (hk:vs.length=k) (h1:∀ u ∈ vs,u.oneCell'=true):Src (w.alloc (.cells vs.toArray T)) k (some ⟨b,0,none⟩) 1 vs:=by
 subst hb;exact Src.new hk h1
theorem zg7 {P:Program} {ops:Array Oper} {o:Oper} {a:Act} {w:World} {K:Act->World->Prop} {Q:Exit->Act->World->Prop} {E:Prop}
  (hg:o.guard=none) (s x:Operand) (t:TypeId) (hop:o.op=Op.call { callee:=Callee.builtin Builtin.append,args:=#[s,x],argTypes:=#[t,t] })
  (base e size bytes:Nat) (z:Value) (ht:P.underlying t=some (.slice e)) (hinfo:(P.info? e).map (fun i=>(i.zero,i.size,i.bytes))=some (some z,size,bytes)) (hzs:z.cells.size=size) (hsz:0 < size)
  (v:Value) (n:Nat) (xs:List Value) (hs:a.eval s=v) (hown:Own w base e size v n xs)
  (A:Option Addr) (m c:Nat) (news:List Value) (hx:a.eval x=.slice A m c) (hsrc:Src w size A m news)
  (hbytes:(n+m) * bytes<=140737488355328) (h63:n+m<=9223372036854775807) (hbase:base<=w.heap.size)
  (h:∀ v' w',Own w' base e size v' (n+m) (xs++news)->Grew w w' v v'->K (a.put o.dst v') w') :
  if Region.wanted o (yielded ops a.tmps)=true then Oper.wp P o a w K Q else E:=by
 have hw:Region.wanted o (yielded ops a.tmps)=true:=by simp [Region.wanted,hg]
 rw [if_pos hw];obtain⟨i,hi,hz,hsize,hby⟩:=info_parts hinfo;obtain⟨v',w',hr,h2,g1,g2,g3,g4,g5,g6⟩:=zhi (P:=P) w base t o.type e i z size bytes ht hi hz hsize hby hzs hsz v n xs hown A m c news hsrc hbytes h63 hbase;unfold Oper.wp execOp;simp only [hop,resolve,invoke,builtin,Sem.run_bind,Sem.run_pure,Result.andThen_ok,List.map_toArray,List.map_cons,List.map_nil,hs,hx,hr];exact h v' w' h2 ⟨g1,g2,g3,g4,g5,g6⟩
end
end Go.Proofs.YtaabaflgeljbjaaGreat
