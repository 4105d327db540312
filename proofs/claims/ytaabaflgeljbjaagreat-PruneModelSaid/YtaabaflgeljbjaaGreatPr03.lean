/- 'for k, v := range m' over a map whose entries are known: begun, one step, the entry. No program in sight. -/
import Derived.Test.YtaabaflgeljbjaaGreatPr02
import Derived.Maps.Range
import Derived.Maps.RangeRun
set_option linter.unusedVariables false
set_option linter.unusedSimpArgs false
set_option maxRecDepth 100000
set_option maxHeartbeats 40000000
set_option linter.unusedSectionVars false
namespace Go.Proofs.YtaabaflgeljbjaaGreat
open List renaming map_append→Qb,filter_append→Qd
open _root_.Array renaming toList_filter→Qa,getElem?_eq_some_iff→Qc
open Go.RowKit Go.ChangeMaps
section
variable {κ ν:Type} [DecidableEq κ] {K:κ->Value} {V:ν->Value} {w w':World} {b r:Nat} {L rest:List (κ × ν)} {P:Program}
def RangeIs (K:κ->Value)(V:ν->Value)(w:World)(b r:Nat)(L rest:List (κ×ν)):Prop :=
 ∃es clock seen,w.heap[b]? = some (.map es clock)/\es.toList.map (fun e=>(e.key,e.val))=L.map (fun p=>(K p.1,V p.2))/\(L.map Prod.fst).Nodup/\(∀e∈es.toList,e.born<clock)/\(es.toList.map (·.born)).Nodup /\
  w.heap[r]? = some (.mapIter (some b) clock seen clock)/\(leftOf es seen).toList.map (fun e=>(e.key,e.val))=rest.map (fun p=>(K p.1,V p.2))
theorem RangeIs.map (a:RangeIs K V w b r L rest):MapIs K V w b L:=by
 obtain⟨es,c,s,h1,d,e,f,g,h,i⟩:=a;exact⟨es,c,h1,d,e,f,g⟩
theorem RangeIs.lt (a:RangeIs K V w b r L rest):r<w.heap.size:=by
 obtain⟨es,c,s,h1,e,f,g,h,d,i⟩:=a;exact(Qc.1 d).1
theorem RangeIs.keep (a:RangeIs K V w b r L rest)(hb:w'.heap[b]? = w.heap[b]?)(j:w'.heap[r]? = w.heap[r]?):RangeIs K V w' b r L rest:=by
 obtain⟨es,c,s,h1,d,e,f,g,h,i⟩:=a;exact⟨es,c,s,hb.trans h1,d,e,f,g,j.trans h,i⟩
theorem RangeIs.ext (a:RangeIs K V w b r L rest)(c:Ext w w'):RangeIs K V w' b r L rest:=a.keep (c.block b a.map.lt) (c.block r a.lt)
theorem RangeIs.left_eq (a:RangeIs K V w b r L rest):w.rangeLeft b r=rest.length:=by
 obtain⟨es,c,s,h1,f,g,h,i,d,e⟩:=a;simp only[World.rangeLeft,h1,d];have:=congrArg List.length e
 simpa using this
theorem zcz {t e a:TypeId}(k:P.underlying t=some (.map e a))(f:MapIs K V w b L) :
  ∃w',(Instr.range t (.map (some b))).run P w=.ok (.pointer (some ⟨w.heap.size,0,none⟩)) w'/\RangeIs K V w' b w.heap.size L L/\Ext w w'/\w'.heap.size=w.heap.size+1:=by
 obtain⟨es,c,h1,d,g,h,i⟩:=f;have j:=(Qc.1 h1).1;refine⟨_,run_range_map w t e a b es c k h1,⟨es,c,#[],(Go.heap_alloc_old w _ j).trans h1,d,g,h,i,Go.heap_alloc_new w _,?_⟩,(Ext.refl w).alloc _,by simp⟩;have:(leftOf es #[])=es:=by unfold leftOf;exact Array.filter_eq_self.2 (by simp)
 rw[this];exact d
theorem zv7 (es:Array MapEntry)(seen:Array Nat)(e:MapEntry)(m:(es.toList.map (·.born)).Nodup)(k:e∈(leftOf es seen).toList) :
  ∃c d,(leftOf es seen).toList=c++e::d/\(leftOf es (seen.push e.born)).toList=c++d:=by
 have j:(leftOf es (seen.push e.born)).toList=(leftOf es seen).toList.filter fun x=>decide (x.born≠e.born):=by
  unfold leftOf;rw[Qa,Qa,List.filter_filter]
  apply List.filter_congr
  intro x _;rw[Array.contains_push]
  by_cases a:x.born=e.born
  ·simp[a]
  have:(x.born==e.born)=false:=by simpa using a
  simp[this,a]
 have h:((leftOf es seen).toList.map (·.born)).Nodup:=by unfold leftOf;rw[Qa];exact m.sublist ((List.filter_sublist (l:=es.toList)).map _)
 obtain⟨c,d,f⟩:=List.append_of_mem k;refine⟨c,d,f,?_⟩;rw[j,f,Qd,List.filter_cons_of_neg (by simp),<- Qd];rw[f,Qb,List.map_cons,List.nodup_append]at h;obtain⟨-,g,n⟩:=h;rw[List.nodup_cons]at g;refine List.filter_eq_self.2 fun x a=>?_
 simp only[decide_eq_true_eq];intro i;rcases List.mem_append.1 a with a|a
 ·exact n x.born (List.mem_map.2 ⟨x,a,rfl⟩) e.born (by simp) i
 exact g.1 (by rw[<- i];exact List.mem_map.2 ⟨x,a,rfl⟩)
theorem zdh (l:TypeId)(y:RangeIs K V w b r L rest) :
  (rest = []/\(Instr.next (.pointer (some ⟨r,0,none⟩)) false l).run P w=.ok (.tuple #[.bool false]) w) ∨
  ∃r1 p f w',rest=r1++p::f/\(Instr.next (.pointer (some ⟨r,0,none⟩)) false l).run P w=.ok (.tuple #[.bool true,K p.1,V p.2]) w'/\RangeIs K V w' b r L (r1++f)/\Turned w w' r /\
   (Instr.entry (.pointer (some ⟨r,0,none⟩))).run P w'=.ok (.tuple #[K p.1,V p.2]) w':=by
 obtain⟨es,c,seen,h1,z,A,q,g,h,j⟩:=y;have F:b≠r:=fun e=>by rw[e,h]at h1;cases h1
 rcases run_next_at (P:=P) w l r b c c seen es c h h1 q (Nat.le_refl _)with⟨h0,a⟩|⟨e,t,m,k,a⟩
 ·refine .inl ⟨?_,a⟩;have:=congrArg List.length j;simp[h0]at this;exact List.eq_nil_of_length_eq_zero this.symm
 obtain⟨H,I,D,E⟩:=zv7 es seen e g t;rw[D,Qb,List.map_cons]at j;obtain⟨r1,J,rfl,u,v⟩:=List.map_eq_append_iff.1 j.symm;obtain⟨p,f,rfl,n,x⟩:=List.map_eq_cons_iff.1 v;have o:e.key=K p.1:=(congrArg Prod.fst n).symm;have ev:e.val=V p.2:=(congrArg Prod.snd n).symm;have G:m.heap[r]? = some (.mapIter (some b) c seen c):=by rcases k with rfl|rfl<;>exact h
 have B:m.heap[b]? = some (.map es c):=by rcases k with rfl|rfl<;>exact h1
 have d:=Go.MapKept.heap_set (o':=.mapIter (some b) c (seen.push e.born) c) G;have s:=(d.2 b F).trans B
 have C:e∈es.toList:=by have:e∈(leftOf es seen).toList:=t;unfold leftOf at this;rw[Qa]at this;exact(List.mem_filter.1 this).1
 rw[o,ev]at a;refine .inr ⟨r1,p,f,_,rfl,a,⟨es,c,seen.push e.born,s,z,A,q,g,d.1,?_⟩,?_,?_⟩
 ·rw[E,Qb,Qb,u,x]
 ·rcases k with rfl|rfl<;>exact⟨rfl,rfl,rfl,by simp[setBlock],fun i hi=>d.2 i hi⟩
 have:=run_entry_at (P:=P) (setBlock m r (.mapIter (some b) c (seen.push e.born) c)) r b c seen es c e d.1 s C g;rw[o,ev]at this;exact this
end
end Go.Proofs.YtaabaflgeljbjaaGreat
