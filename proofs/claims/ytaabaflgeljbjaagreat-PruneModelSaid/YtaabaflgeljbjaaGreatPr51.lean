/- A law's row: the call has returned, and all blocks that were there stand as they stood. No program in sight. -/
import Derived.Below
import Derived.ChangeSame
import Derived.RowKit3
import Derived.Carry
set_option linter.unusedVariables false
set_option linter.unusedSimpArgs false
set_option maxRecDepth 100000
set_option maxHeartbeats 40000000
namespace Go.Proofs.YtaabaflgeljbjaaGreat
section
open Go.RowKit Go.WideShapes Go.ChangeShapes
theorem zyv {g:Type}{enc:TypeId×Value->g}{P:Program}{f:Func}{s:ChangeSpec}{apart q u again:Bool}{W d:World}{args:Array Value}{v:Value}{h i:List (DataW g)}{a:List MemPlace}(k:DataW.Whole enc P f.params.toList s.vars apart W args.toList h i a)(hb:Below W.heap.size W d)(n:∀(b:Nat) (e:Nat->Bool) (x:Bool),DataW.TrodAll enc P d b e x f.resultTypes.toList (v.resultList f.resultTypes.size) (s.fn g (h++i)).results [])(ha:∀e:Nat->Bool,(∀p∈a,e p.block=true)->DataW.TrodAll enc P d 0 e true f.params.toList args.toList (s.fn g (h++i)).args a)(o:∀e:Nat->Bool,DataW.TrodVars enc P d e s.vars (s.fn g (h++i)).vars [])(z:∀(j:Nat) (t:TypeId) (r:Value),f.resultTypes[j]? = some t->(v.resultList f.resultTypes.size)[j]? = some r->Value.okWide P d .any 0 t r) :
  s.post enc P f apart q u again W args v d:=by
 have l:∀p∈a,p.block<W.heap.size:=k.lt;have A:∀p∈a,decide (p.block<W.heap.size)=true:=fun p c=>decide_eq_true (l p c)
 refine⟨h,i,a,[],a,[],k,n _ _ _,ha _ A,o _,World.keptBut_mono (fun p c=>⟨c,.inr (.inl c)⟩) (hb.frame (·∈a)),fun _=>⟨z,_,_,a++[],⟨[]++a,[],trodAll_append (ha _ fun _ _=>rfl) (n _ _ _),o _,rfl,?_,?_⟩,?_⟩⟩
 ·intro b off c;have m:MemPlace.cell b off∈a:=by simpa using c
  obtain⟨_,_,_,_,_,B,_⟩:=k;rw[hb.frozen (l _ m)];exact B b off m
 ·intro w;obtain⟨_,_,_,_,_,_,y⟩:=k
  simpa using y w
 intro p c _
 simpa using c
theorem zsi {b:Type}{enc:TypeId×Value->b}{P:Program}(i:laidOutB P=true){W f:World}(hb:Below W.heap.size W f)(d:Nat->Bool):∀ {c:List TypeId} {vs:List Value} {g:List (DataW b)} {ps:List MemPlace},
  (∀t∈c,P.readableRec t=true/\t<P.types.size)->(∀x∈ps,x.block<W.heap.size)->(∀x∈ps,d x.block=true)->DataW.TrodAll enc P W 0 (fun _=>true) true c vs g ps->DataW.TrodAll enc P f 0 d true c vs g ps
 | [],[],[],_,_,_,_,h=>h
 | t::c,_::_,_::_,_,hts,hlt,hsp,⟨p,q,h1,h2,e⟩ =>
  ⟨p,q,WideElems.Trod_stays i (hts t (by simp)).1 (hts t (by simp)).2 h1 (fun x a=>hb.same (hlt x (by rw[e];simp[a]))) (fun x a=>hsp x (by rw[e];simp[a])),
   zsi i hb d (fun u j=>hts u (by simp[j])) (fun x a=>hlt x (by rw[e];simp[a])) (fun x a=>hsp x (by rw[e];simp[a])) h2,e⟩
 | [],[],_::_,_,_,_,_,h=>h.elim
 | [],_::_,_,_,_,_,_,h=>(by cases ‹List (DataW b)› <;> exact h.elim)
 | _::_,[],_,_,_,_,_,h=>(by cases ‹List (DataW b)› <;> exact h.elim)
 | _::_,_::_,[],_,_,_,_,h=>h.elim
end
end Go.Proofs.YtaabaflgeljbjaaGreat
