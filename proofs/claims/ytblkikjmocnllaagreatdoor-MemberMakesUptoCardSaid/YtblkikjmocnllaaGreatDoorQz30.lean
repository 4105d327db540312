/- 'for k, v := range m' over a map whose entries are known: begun, one step, the entry. No program in sight. -/
import Derived.Test.YtblkikjmocnllaaGreatDoorQz17
import Derived.Maps.Range
import Derived.Maps.RangeRun
set_option linter.unusedVariables false
set_option linter.unusedSimpArgs false
set_option maxRecDepth 100000
set_option maxHeartbeats 40000000
set_option linter.unusedSectionVars false
namespace Go.Proofs.YtblkikjmocnllaaGreatDoor
open Go.RowKit Go.ChangeMaps
section
variable {κ ν:Type} [DecidableEq κ] {K:κ->Value} {V:ν->Value} {w w':World} {b r:Nat} {L rest:List (κ × ν)} {P:Program}
def RangeIs (K:κ->Value) (V:ν->Value) (w:World) (b r:Nat) (L rest:List (κ × ν)):Prop :=
 ∃ es clock seen,w.heap[b]? = some (.map es clock)/\es.toList.map (fun e=>(e.key,e.val))=L.map (fun p=>(K p.1,V p.2))/\(L.map Prod.fst).Nodup/\(∀ e ∈ es.toList,e.born < clock)/\(es.toList.map (·.born)).Nodup /\
  w.heap[r]? = some (.mapIter (some b) clock seen clock)/\(leftOf es seen).toList.map (fun e=>(e.key,e.val))=rest.map (fun p=>(K p.1,V p.2))
theorem RangeIs.map (h:RangeIs K V w b r L rest):MapIs K V w b L:=by
 obtain⟨es,c,s,h1,h2,h3,h4,h5,h6,h7⟩:=h
 exact⟨es,c,h1,h2,h3,h4,h5⟩
theorem RangeIs.lt (h:RangeIs K V w b r L rest):r < w.heap.size:=by
 obtain⟨es,c,s,h1,h2,h3,h4,h5,h6,h7⟩:=h
 exact (Array.getElem?_eq_some_iff.1 h6).1
theorem RangeIs.keep (h:RangeIs K V w b r L rest) (hb:w'.heap[b]? = w.heap[b]?) (hr:w'.heap[r]? = w.heap[r]?):RangeIs K V w' b r L rest:=by
 obtain⟨es,c,s,h1,h2,h3,h4,h5,h6,h7⟩:=h
 exact⟨es,c,s,hb.trans h1,h2,h3,h4,h5,hr.trans h6,h7⟩
theorem RangeIs.ext (h:RangeIs K V w b r L rest) (he:Ext w w'):RangeIs K V w' b r L rest:=h.keep (he.block b h.map.lt) (he.block r h.lt)
theorem RangeIs.left_eq (h:RangeIs K V w b r L rest):w.rangeLeft b r=rest.length:=by
 obtain⟨es,c,s,h1,h2,h3,h4,h5,h6,h7⟩:=h
 simp only [World.rangeLeft,h1,h6]
 have:=congrArg List.length h7
 simpa using this
theorem run_range_MapIs {t kt et:TypeId} (ht:P.underlying t=some (.map kt et)) (h:MapIs K V w b L) :
  ∃ w',(Instr.range t (.map (some b))).run P w=.ok (.pointer (some ⟨w.heap.size,0,none⟩)) w'/\RangeIs K V w' b w.heap.size L L/\Ext w w'/\w'.heap.size=w.heap.size+1:=by
 obtain⟨es,c,h1,h2,h3,h4,h5⟩:=h
 have hlt:=(Array.getElem?_eq_some_iff.1 h1).1
 refine ⟨_,run_range_map w t kt et b es c ht h1,⟨es,c,#[],(Go.heap_alloc_old w _ hlt).trans h1,h2,h3,h4,h5,Go.heap_alloc_new w _,?_⟩,(Ext.refl w).alloc _,by simp⟩
 have:(leftOf es #[])=es:=by unfold leftOf;exact Array.filter_eq_self.2 (by simp)
 rw [this]
 exact h2
theorem left_push (es:Array MapEntry) (seen:Array Nat) (e:MapEntry) (hn:(es.toList.map (·.born)).Nodup) (he:e ∈ (leftOf es seen).toList) :
  ∃ l1 l2,(leftOf es seen).toList=l1++e :: l2/\(leftOf es (seen.push e.born)).toList=l1++l2:=by
 have hL:(leftOf es (seen.push e.born)).toList=(leftOf es seen).toList.filter fun x=>decide (x.born ≠ e.born):=by
  unfold leftOf
  rw [Array.toList_filter,Array.toList_filter,List.filter_filter]
  apply List.filter_congr
  intro x _
  rw [Array.contains_push]
  by_cases hx:x.born=e.born
  ·simp [hx]
  ·have:(x.born == e.born)=false:=by simpa using hx
   simp [this,hx]
 have hnl:((leftOf es seen).toList.map (·.born)).Nodup:=by
  unfold leftOf
  rw [Array.toList_filter]
  exact hn.sublist ((List.filter_sublist (l:=es.toList)).map _)
 obtain⟨l1,l2,hs⟩:=List.append_of_mem he
 refine ⟨l1,l2,hs,?_⟩
 rw [hL,hs,List.filter_append,List.filter_cons_of_neg (by simp),<- List.filter_append]
 rw [hs,List.map_append,List.map_cons,List.nodup_append] at hnl
 obtain⟨-,hn2,hn3⟩:=hnl
 rw [List.nodup_cons] at hn2
 refine List.filter_eq_self.2 fun x hx=>?_
 simp only [decide_eq_true_eq]
 intro hxe
 rcases List.mem_append.1 hx with hx | hx
 ·exact hn3 x.born (List.mem_map.2 ⟨x,hx,rfl⟩) e.born (by simp) hxe
 ·exact hn2.1 (by rw [<- hxe];exact List.mem_map.2 ⟨x,hx,rfl⟩)
theorem run_next_MapIs (ty:TypeId) (h:RangeIs K V w b r L rest) :
  (rest = []/\(Instr.next (.pointer (some ⟨r,0,none⟩)) false ty).run P w=.ok (.tuple #[.bool false]) w) ∨
  ∃ r1 p r2 w',rest=r1++p :: r2/\(Instr.next (.pointer (some ⟨r,0,none⟩)) false ty).run P w=.ok (.tuple #[.bool true,K p.1,V p.2]) w'/\RangeIs K V w' b r L (r1++r2)/\Turned w w' r /\
   (Instr.entry (.pointer (some ⟨r,0,none⟩))).run P w'=.ok (.tuple #[K p.1,V p.2]) w':=by
 obtain⟨es,c,seen,h1,h2,h3,h4,h5,h6,h7⟩:=h
 have hne:b ≠ r:=fun e=>by rw [e,h6] at h1;cases h1
 rcases run_next_at (P:=P) w ty r b c c seen es c h6 h1 h4 (Nat.le_refl _) with ⟨h0,hrun⟩ | ⟨e,he,w1,hal,hrun⟩
 ·refine .inl ⟨?_,hrun⟩
  have:=congrArg List.length h7
  simp [h0] at this
  exact List.eq_nil_of_length_eq_zero this.symm
 ·obtain⟨l1,l2,hl,hl'⟩:=left_push es seen e h5 he
  rw [hl,List.map_append,List.map_cons] at h7
  obtain⟨r1,q2,rfl,e1,e2⟩:=List.map_eq_append_iff.1 h7.symm
  obtain⟨p,r2,rfl,e3,e4⟩:=List.map_eq_cons_iff.1 e2
  have ek:e.key=K p.1:=(congrArg Prod.fst e3).symm
  have ev:e.val=V p.2:=(congrArg Prod.snd e3).symm
  have hr1:w1.heap[r]? = some (.mapIter (some b) c seen c):=by rcases hal with rfl | rfl <;> exact h6
  have hb1:w1.heap[b]? = some (.map es c):=by rcases hal with rfl | rfl <;> exact h1
  have hset:=Go.MapKept.heap_set (o':=.mapIter (some b) c (seen.push e.born) c) hr1
  have hb':=(hset.2 b hne).trans hb1
  have hem:e ∈ es.toList:=by
   have:e ∈ (leftOf es seen).toList:=he
   unfold leftOf at this
   rw [Array.toList_filter] at this
   exact (List.mem_filter.1 this).1
  rw [ek,ev] at hrun
  refine .inr ⟨r1,p,r2,_,rfl,hrun,⟨es,c,seen.push e.born,hb',h2,h3,h4,h5,hset.1,?_⟩,?_,?_⟩
  ·rw [hl',List.map_append,List.map_append,e1,e4]
  ·rcases hal with rfl | rfl <;> exact⟨rfl,rfl,rfl,by simp [setBlock],fun i hi=>hset.2 i hi⟩
  ·have:=run_entry_at (P:=P) (setBlock w1 r (.mapIter (some b) c (seen.push e.born) c)) r b c seen es c e hset.1 hb' hem h5
   rw [ek,ev] at this
   exact this
end
end Go.Proofs.YtblkikjmocnllaaGreatDoor
