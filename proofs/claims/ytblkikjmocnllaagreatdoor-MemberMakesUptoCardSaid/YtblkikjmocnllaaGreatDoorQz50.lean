/- A law's row: the call has returned, and all blocks that were there stand as they stood. No program in sight. -/
import Derived.Below
import Derived.ChangeSame
import Derived.RowKit3
import Derived.Carry
set_option linter.unusedVariables false
set_option linter.unusedSimpArgs false
set_option maxRecDepth 100000
set_option maxHeartbeats 40000000
namespace Go.Proofs.YtblkikjmocnllaaGreatDoor
section
open Go.RowKit Go.WideShapes Go.ChangeShapes
theorem law_below {H:Type} {enc:TypeId × Value->H} {P:Program} {f:Func} {s:ChangeSpec} {apart fresh handsOn again:Bool} {W W':World} {args:Array Value} {v:Value} {ds gs:List (DataW H)} {before:List MemPlace}
  (hW:DataW.Whole enc P f.params.toList s.vars apart W args.toList ds gs before) (hb:Below W.heap.size W W')
  (hr:∀ (b:Nat) (sp:Nat->Bool) (hd:Bool),DataW.TrodAll enc P W' b sp hd f.resultTypes.toList (v.resultList f.resultTypes.size) (s.fn H (ds++gs)).results [])
  (ha:∀ sp:Nat->Bool,(∀ p ∈ before,sp p.block=true)->DataW.TrodAll enc P W' 0 sp true f.params.toList args.toList (s.fn H (ds++gs)).args before)
  (hv:∀ sp:Nat->Bool,DataW.TrodVars enc P W' sp s.vars (s.fn H (ds++gs)).vars [])
  (ho:∀ (j:Nat) (t:TypeId) (r:Value),f.resultTypes[j]? = some t->(v.resultList f.resultTypes.size)[j]? = some r->Value.okWide P W' .any 0 t r) :
  s.post enc P f apart fresh handsOn again W args v W':=by
 have hlt:∀ p ∈ before,p.block < W.heap.size:=hW.lt
 have hsp:∀ p ∈ before,decide (p.block < W.heap.size)=true:=fun p hp=>decide_eq_true (hlt p hp)
 refine ⟨ds,gs,before,[],before,[],hW,hr _ _ _,ha _ hsp,hv _,World.keptBut_mono (fun p hp=>⟨hp,.inr (.inl hp)⟩) (hb.frame (· ∈ before)),fun _=>⟨ho,_,_,before++[],⟨[]++before,[],trodAll_append (ha _ fun _ _=>rfl) (hr _ _ _),hv _,rfl,?_,?_⟩,?_⟩⟩
 ·intro b off hp
  have hp':MemPlace.cell b off ∈ before:=by simpa using hp
  obtain⟨_,_,_,_,_,hz,_⟩:=hW
  rw [hb.frozen (hlt _ hp')]
  exact hz b off hp'
 ·intro hap
  obtain⟨_,_,_,_,_,_,hn⟩:=hW
  simpa using hn hap
 ·intro p hp _
  simpa using hp
theorem law_args {H:Type} {enc:TypeId × Value->H} {P:Program} (hl:laidOutB P=true) {W W':World} (hb:Below W.heap.size W W') (sp:Nat->Bool):∀ {ts:List TypeId} {vs:List Value} {ds:List (DataW H)} {ps:List MemPlace},
  (∀ t ∈ ts,P.readableRec t=true/\t < P.types.size)->(∀ x ∈ ps,x.block < W.heap.size)->(∀ x ∈ ps,sp x.block=true)->DataW.TrodAll enc P W 0 (fun _=>true) true ts vs ds ps->DataW.TrodAll enc P W' 0 sp true ts vs ds ps
 | [],[],[],_,_,_,_,h=>h
 | t :: ts,_ :: _,_ :: _,_,hts,hlt,hsp,⟨p,q,h1,h2,e⟩ =>
  ⟨p,q,WideElems.Trod_stays hl (hts t (by simp)).1 (hts t (by simp)).2 h1 (fun x hx=>hb.same (hlt x (by rw [e];simp [hx]))) (fun x hx=>hsp x (by rw [e];simp [hx])),
   law_args hl hb sp (fun u hu=>hts u (by simp [hu])) (fun x hx=>hlt x (by rw [e];simp [hx])) (fun x hx=>hsp x (by rw [e];simp [hx])) h2,e⟩
 | [],[],_ :: _,_,_,_,_,h=>h.elim
 | [],_ :: _,_,_,_,_,_,h=>(by cases ‹List (DataW H)› <;> exact h.elim)
 | _ :: _,[],_,_,_,_,_,h=>(by cases ‹List (DataW H)› <;> exact h.elim)
 | _ :: _,_ :: _,[],_,_,_,_,h=>h.elim
end
end Go.Proofs.YtblkikjmocnllaaGreatDoor
