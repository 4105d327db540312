/- Laws. -/
import Derived.Test.YtblkikjmocnllaaGreatDoorQz01
import Derived.Shelf.SlSortCmp.WholeK
set_option linter.unusedVariables false
set_option linter.unusedSimpArgs false
set_option maxRecDepth 100000
set_option maxHeartbeats 40000000
namespace Go.Proofs.YtblkikjmocnllaaGreatDoor
section
open Go.Sort
def insBy {α:Type} (lt:α->α->Bool) (x:α):List α->List α
 | []=>[x]
 | a :: r=>if lt a x then a :: insBy lt x r else x :: a :: r
def isort {α:Type} (lt:α->α->Bool):List α->List α
 | []=>[]
 | a :: r=>insBy lt a (isort lt r)
section
variable {α:Type} {lt:α->α->Bool}
theorem insBy_perm (x:α):∀ l,(insBy lt x l).Perm (x :: l)
 | []=>.refl _
 | a :: r=>by
  unfold insBy
  split
  ·exact ((insBy_perm x r).cons a).trans (.swap x a r)
  ·exact .refl _
theorem isort_perm:∀ l:List α,(isort lt l).Perm l
 | []=>.refl _
 | a :: r=>(insBy_perm a _).trans ((isort_perm r).cons a)
theorem insBy_sorted (hO:SWO lt) (x:α):∀ l:List α,l.Pairwise (fun a b=>lt b a=false)->(insBy lt x l).Pairwise (fun a b=>lt b a=false)
 | [],_=>by simp [insBy]
 | a :: r,h=>by
  obtain⟨h1,h2⟩:=List.pairwise_cons.1 h
  unfold insBy
  split
  ·rename_i hax
   refine List.pairwise_cons.2 ⟨fun y hy=>?_,insBy_sorted hO x r h2⟩
   rcases List.mem_cons.1 ((insBy_perm x r).mem_iff.1 hy) with rfl | hy
   ·cases hya:lt y a with
    | false=>rfl
    | true=>have:=hO.trans _ _ _ hya hax;rw [hO.irrefl] at this;cases this
   ·exact h1 y hy
  ·rename_i hax
   have hax':lt a x=false:=by simpa using hax
   refine List.pairwise_cons.2 ⟨fun y hy=>?_,h⟩
   rcases List.mem_cons.1 hy with rfl | hy
   ·exact hax'
   ·exact hO.ntrans _ _ _ (h1 y hy) hax'
theorem isort_sorted (hO:SWO lt):∀ l:List α,(isort lt l).Pairwise (fun a b=>lt b a=false)
 | []=>.nil
 | a :: r=>insBy_sorted hO a _ (isort_sorted hO r)
theorem sorted_unique (anti:∀ a b,lt a b=false->lt b a=false->a=b):∀ {l1 l2:List α},l1.Perm l2->l1.Pairwise (fun a b=>lt b a=false)->l2.Pairwise (fun a b=>lt b a=false)->l1=l2
 | [],l2,hp,_,_=>by rw [List.nil_perm.1 hp]
 | a :: r1,[],hp,_,_=>by simp at hp
 | a :: r1,b :: r2,hp,h1,h2=>by
  obtain⟨ha,hr1⟩:=List.pairwise_cons.1 h1
  obtain⟨hb,hr2⟩:=List.pairwise_cons.1 h2
  have hab:a=b:=by
   rcases List.mem_cons.1 (hp.mem_iff.1 (List.mem_cons_self (a:=a) (l:=r1))) with h | h
   ·exact h
   ·rcases List.mem_cons.1 (hp.mem_iff.2 (List.mem_cons_self (a:=b) (l:=r2))) with h' | h'
    ·exact h'.symm
    ·exact anti a b (hb a h) (ha b h')
  subst hab
  rw [sorted_unique anti (List.Perm.cons_inv hp) hr1 hr2]
theorem sort_is (hO:SWO lt) (anti:∀ a b,lt a b=false->lt b a=false->a=b) [Inhabited α] {l:List α} {d':Array α} (hp:PermIn 0 l.toArray.size l.toArray d') (hs:SortedIn lt 0 l.toArray.size d'):d'.toList=isort lt l:=by
 obtain⟨h1,-,h3⟩:=hp
 have hsz:d'.size=l.length:=by simpa using h1
 have h3':d'.toList.Perm l:=by
  have e:d'.extract 0 l.toArray.size=d':=by rw [<- h1];simp
  rw [e] at h3
  simpa using h3
 refine sorted_unique anti (h3'.trans (isort_perm l).symm) ?_ (isort_sorted hO l)
 rw [List.pairwise_iff_getElem]
 intro i j hi hj hij
 have:=hs i j (Nat.zero_le _) hij (by simp at hj ⊢;omega)
 rw [getElem!_pos d' i (by simpa using hi),getElem!_pos d' j (by simpa using hj)] at this
 simpa using this
end
theorem cmpS_lt {a b:Str}:cmpS a b < 0↔ltS a b=true:=by
 unfold cmpS
 rcases str_cases a b with ⟨h1,h2,h3,h4,h5⟩ | rfl | ⟨h1,h2,h3,h4,h5⟩
 ·simp [h1]
 ·simp [ltS_irrefl]
 ·simp [h1,h3]
theorem cmpS_eq {a b:Str}:cmpS a b=0↔a=b:=by
 unfold cmpS
 rcases str_cases a b with ⟨h1,h2,h3,h4,h5⟩ | rfl | ⟨h1,h2,h3,h4,h5⟩
 ·simp [h1,h5]
 ·simp [ltS_irrefl]
 ·simp [h1,h3,h5]
end
section
open Go.RowKit Go.Sort
theorem flatK_toList {α:Type} [Inhabited α] {enc:α->List Value} {k:Nat} (hk:∀ x,(enc x).length=k) (h0:0 < k) (d:Array α):(flatK enc k d).toList=d.toList.flatMap enc:=by
 apply List.ext_getElem?
 intro t
 have hlen:(d.toList.flatMap enc).length=d.size * k:=by
  have:∀ l:List α,(l.flatMap enc).length=l.length * k:=by
   intro l
   induction l with
   | nil=>simp
   | cons a r ih=>simp [ih,hk];rw [Nat.add_mul];omega
  rw [this];simp
 by_cases ht:t < d.size * k
 ·have hq:t / k < d.size:=Nat.div_lt_of_lt_mul (by rw [Nat.mul_comm];exact ht)
  have hr:t % k < k:=Nat.mod_lt _ h0
  have h1:(flatK enc k d).toList[t]? = some ((enc d[t / k]!)[t % k]!):=by
   rw [<- get_flatK enc k d t ht,Array.getElem?_toList,Array.getElem?_eq_getElem (by simpa using ht),getElem!_pos (flatK enc k d) t (by simpa using ht)]
  rw [h1,List.flatMap_def]
  have hd:d[t / k]! = d.toList[t / k]'(by simpa using hq):=by rw [getElem!_pos d (t / k) hq];simp
  have h2:=flatten_at (k:=k) (d.toList.map enc) (t / k) (t % k) (enc d[t / k]!) ((enc d[t / k]!)[t % k]!) (by
   intro x hx
   obtain⟨y,-,rfl⟩:=List.mem_map.1 hx
   exact hk y) (by rw [List.getElem?_map,List.getElem?_eq_getElem (by simpa using hq),hd];rfl) (by
   have hr':t % k < (enc d[t / k]!).length:=by rw [hk];exact hr
   rw [List.getElem?_eq_getElem hr',getElem!_pos (enc d[t / k]!) (t % k) hr'])
  rw [Nat.div_add_mod' t k] at h2
  exact h2.symm
 ·rw [List.getElem?_eq_none (by simp;omega),List.getElem?_eq_none (by omega)]
theorem holds_row {w:World} {g T:Nat} {F:Array Value} {tail:List Value} (h:RowIs w g T F.toList tail):Holds id w g 0 F:=by
 intro j hj
 rw [Nat.zero_add]
 refine ⟨h.cell ?_,h.frozen j⟩
 rw [Array.getElem?_toList,Array.getElem?_eq_getElem hj,getElem!_pos F j hj]
 rfl
theorem putRow_row {w:World} {g T:Nat} {xs tail:List Value} (h:RowIs w g T xs tail) (F:Array Value) (hF:F.size=xs.length):RowIs (putRow id w g 0 F) g T F.toList tail:=by
 have h':w.heap[g]? = some (.cells (xs++tail).toArray T (0,0)):=h
 unfold RowIs putRow mapBlock
 simp only [Array.getElem?_modify,if_true,h',Option.map_some,onCells]
 congr 2
 apply Array.ext_getElem?
 intro i
 unfold putCells
 rw [Array.getElem?_mapIdx]
 by_cases hi:i < F.size
 ·have e1:(xs++tail).toArray[i]? = some (xs[i]'(by omega)):=by
   simp [List.getElem?_append_left (by omega:i < xs.length),List.getElem?_eq_getElem (by omega:i < xs.length)]
  have e2:(F.toList++tail).toArray[i]? = some (F[i]'hi):=by
   simp [List.getElem?_append_left (by simpa using hi:i < F.toList.length)]
  rw [e1,e2]
  simp [hi,getElem!_pos F i hi]
 ·have e:(xs++tail).toArray[i]? = (F.toList++tail).toArray[i]?:=by
   simp only [List.getElem?_toArray]
   rw [List.getElem?_append_right (by omega),List.getElem?_append_right (by simpa using hi)]
   simp [hF]
  rw [e]
  cases hx:(F.toList++tail).toArray[i]? with
  | none=>rfl
  | some u=>simp [hi]
theorem below_putRow {base:Nat} {w:World} {g:Nat} (hg:base<=g) (F:Array Value):RowKit.Below base w (putRow id w g 0 F):=by
 refine ⟨rfl,rfl,rfl,by simp,fun k hk=>?_⟩
 unfold putRow mapBlock
 rw [Array.getElem?_modify,if_neg (by omega)]
theorem sorted_row {α:Type} [Inhabited α] {enc:α->List Value} {k:Nat} (hk:∀ x,(enc x).length=k) (h0:0 < k) {base:Nat} {w:World} {g T n:Nat} {l:List α} {d':Array α} {tail:List Value} {os:Array Obj}
  (h:RowIs w g T (l.flatMap enc) tail) (hg:base<=g) (hd:d'.size=l.length):RowIs (sortWorldK enc k w g 0 n d' os) g T (d'.toList.flatMap enc) tail/\RowKit.Below base w (sortWorldK enc k w g 0 n d' os):=by
 have hlen:∀ l:List α,(l.flatMap enc).length=l.length * k:=by
  intro l
  induction l with
  | nil=>simp
  | cons a r ih=>simp [ih,hk];rw [Nat.add_mul];omega
 have h1:RowIs (putRow id (Sort.ahead w n) g 0 (flatK enc k d')) g T (flatK enc k d').toList tail:=putRow_row (w:=Sort.ahead w n) h _ (by rw [hlen];simp [hd])
 have hsz:g < w.heap.size:=h.lt
 unfold sortWorldK putRowK
 constructor
 ·rw [flatK_toList hk h0] at h1
  unfold RowIs at h1 ⊢
  unfold grow
  rw [Array.getElem?_append_left (by simp [Sort.ahead];exact hsz)]
  exact h1
 ·have h2':=below_putRow (w:=Sort.ahead w n) hg (flatK enc k d')
  have h2:RowKit.Below base w (putRow id (Sort.ahead w n) g 0 (flatK enc k d')):=⟨h2'.os,h2'.tape,h2'.output,h2'.size,h2'.block⟩
  exact⟨h2.os,h2.tape,h2.output,Nat.le_trans h2.size (by simp),fun j hj=>by
   unfold grow
   have hjs:j < (putRow id (Sort.ahead w n) g 0 (flatK enc k d')).heap.size:=by simp [Sort.ahead];omega
   rw [Array.getElem?_append_left hjs]
   exact h2.block j hj⟩
end
end Go.Proofs.YtblkikjmocnllaaGreatDoor
