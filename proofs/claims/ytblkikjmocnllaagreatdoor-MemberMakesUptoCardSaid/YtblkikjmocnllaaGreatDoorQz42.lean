/- Laws. -/
import Derived.Test.YtblkikjmocnllaaGreatDoorQz36
import Derived.Test.YtblkikjmocnllaaGreatDoorQz21
import Derived.Test.YtblkikjmocnllaaGreatDoorQz20
import Derived.Test.YtblkikjmocnllaaGreatDoorQz40
import Derived.Test.YtblkikjmocnllaaGreatDoorQz26
import Derived.Test.YtblkikjmocnllaaGreatDoorQz41
import Derived.Test.YtblkikjmocnllaaGreatDoorQz15
import Derived.Test.YtblkikjmocnllaaGreatDoorQz25
import Derived.Test.YtblkikjmocnllaaGreatDoorQz24
set_option linter.unusedVariables false
set_option linter.unusedSimpArgs false
set_option maxRecDepth 100000
set_option maxHeartbeats 40000000
namespace Go.Proofs.YtblkikjmocnllaaGreatDoor
section
abbrev SrtM (l:List Mbr):Prop:=l.Pairwise fun x y=>cmpPath x.path y.path < 0
theorem cmp_self (a:Str):cmpPath a a=0:=cmpPath_eq.2 rfl
theorem srt_uniq:∀ {l:List Mbr},SrtM l->∀ {x y:Mbr},x ∈ l->y ∈ l->x.path=y.path->x=y
 | [],_,_,_,h,_,_=>by cases h
 | z :: l,hs,x,y,hx,hy,e=>by
  obtain⟨h1,h2⟩:=List.pairwise_cons.1 hs
  rcases List.mem_cons.1 hx with rfl | kx <;> rcases List.mem_cons.1 hy with rfl | ky
  ·rfl
  ·have:=h1 y ky;rw [e,cmp_self] at this;omega
  ·have:=h1 x kx;rw [e,cmp_self] at this;omega
  ·exact srt_uniq h2 kx ky e
theorem find_of {l:List Mbr} (hs:SrtM l) {x:Mbr} (hx:x ∈ l):findP l x.path=some x:=by
 cases h:findP l x.path with
 | none =>
  have:=List.find?_eq_none.1 h x hx
  simp at this
 | some y=>rw [srt_uniq hs (findP_mem h) hx (findP_path h)]
theorem idx_of {l:List Mbr} {p:Str} {i:Nat} (h:idxP l p=some i):∃ x,l[i]? = some x/\x ∈ l/\x.path=p:=by
 obtain⟨h1,h2,-⟩:=List.findIdx?_eq_some_iff_getElem.1 h
 exact⟨l[i],List.getElem?_eq_getElem h1,List.getElem_mem h1,by simpa using h2⟩
theorem idx_ex {l:List Mbr} {x:Mbr} (hx:x ∈ l):∃ i,idxP l x.path=some i:=by
 cases h:idxP l x.path with
 | none =>
  have:=List.findIdx?_eq_none_iff.1 h x hx
  simp at this
 | some i=>exact⟨i,rfl⟩
theorem set_srt {l:List Mbr} {i:Nat} {x y:Mbr} (hs:SrtM l) (hi:l[i]? = some x) (e:y.path=x.path):SrtM (l.set i y):=by
 have h1:(l.set i y).map Mbr.path=l.map Mbr.path:=by
  apply List.ext_getElem?
  intro j
  rw [List.getElem?_map,List.getElem?_map,List.getElem?_set]
  by_cases hj:i=j
  ·subst hj
   have hl:i < l.length:=(List.getElem?_eq_some_iff.1 hi).1
   rw [if_pos rfl,if_pos hl,hi]
   simp [e]
  ·rw [if_neg hj]
 have h2:(l.map Mbr.path).Pairwise fun a b=>cmpPath a b < 0:=List.pairwise_map.2 hs
 rw [<- h1] at h2
 exact List.pairwise_map.1 h2
theorem set_in {l:List Mbr} {i:Nat} {x y z:Mbr} (hs:SrtM l) (hi:l[i]? = some x) (e:y.path=x.path) (hz:z ∈ l.set i y):z=y ∨ (z ∈ l/\z.path ≠ x.path):=by
 by_cases h:z=y
 ·exact .inl h
 ·right
  have hl:i < l.length:=(List.getElem?_eq_some_iff.1 hi).1
  refine ⟨(List.mem_or_eq_of_mem_set hz).resolve_right h,fun e2=>h ?_⟩
  exact srt_uniq (set_srt hs hi e) hz (List.mem_set hl y) (e2.trans e.symm)
theorem set_keep {l:List Mbr} {i:Nat} {x y z:Mbr} (hi:l[i]? = some x) (hz:z ∈ l) (hne:z.path ≠ x.path):z ∈ l.set i y:=by
 obtain⟨j,hj,e⟩:=List.mem_iff_getElem.1 hz
 have hij:i ≠ j:=by
  rintro rfl
  rw [List.getElem?_eq_getElem hj,e] at hi
  injection hi with hi
  exact hne (by rw [hi])
 refine List.mem_iff_getElem.2 ⟨j,by simpa using hj,?_⟩
 rw [List.getElem_set_ne hij,e]
theorem drop_none {l:List Mbr} {p:Str} (h:∀ x ∈ l,x.path ≠ p):dropP l p=l:=by
 unfold dropP
 rw [List.filter_eq_self]
 intro x hx
 simp [h x hx]
theorem put_srt {l:List Mbr} {m:Mbr} (hs:SrtM l) (h:∀ x ∈ l,x.path ≠ m.path):SrtM (putM l m):=by
 unfold putM
 rw [drop_none h]
 have h1:∀ x ∈ l.take (posM l m.path),cmpPath x.path m.path < 0:=by
  intro x hx
  obtain⟨j,hj,e⟩:=List.mem_iff_getElem.1 hx
  rw [List.getElem_take] at e
  have hj1:j < posM l m.path:=by rw [List.length_take] at hj;omega
  have hj2:j < l.length:=by rw [List.length_take] at hj;omega
  have h2:¬ 0 < cmpPath x.path m.path:=by
   unfold posM at hj1
   cases hf:l.findIdx? fun x=>decide (0 < cmpPath x.path m.path) with
   | none =>
    have:=List.findIdx?_eq_none_iff.1 hf x (e ▸ List.getElem_mem hj2)
    simpa using this
   | some i =>
    rw [hf] at hj1
    obtain⟨_,_,h3⟩:=List.findIdx?_eq_some_iff_getElem.1 hf
    have:=h3 j hj1
    rw [e] at this
    simpa using this
  have h3:cmpPath x.path m.path ≠ 0:=fun e2=>h x (List.mem_of_mem_take hx) (cmpPath_eq.1 e2)
  omega
 have h2:∀ x ∈ l.drop (posM l m.path),cmpPath m.path x.path < 0:=by
  intro x hx
  cases hf:l.findIdx? fun x=>decide (0 < cmpPath x.path m.path) with
  | none =>
   unfold posM at hx
   rw [hf] at hx
   simp at hx
  | some i =>
   have e:posM l m.path=i:=by unfold posM;rw [hf];rfl
   rw [e] at hx
   obtain⟨h3,h4,-⟩:=List.findIdx?_eq_some_iff_getElem.1 hf
   have h4:0 < cmpPath l[i].path m.path:=by simpa using h4
   have h5:cmpPath m.path l[i].path < 0:=by rw [cmpPath_anti];omega
   rw [List.drop_eq_getElem_cons h3] at hx
   rcases List.mem_cons.1 hx with rfl | hx
   ·exact h5
   ·have h6:(l.drop i).Pairwise fun x y=>cmpPath x.path y.path < 0:=hs.sublist (List.drop_sublist ..)
    rw [List.drop_eq_getElem_cons h3] at h6
    exact cmpPath_trans h5 ((List.pairwise_cons.1 h6).1 x hx)
 rw [SrtM,List.pairwise_append]
 refine ⟨hs.sublist (List.take_sublist ..),List.pairwise_cons.2 ⟨h2,hs.sublist (List.drop_sublist ..)⟩,fun a ha b hb=>?_⟩
 rcases List.mem_cons.1 hb with rfl | hb
 ·exact h1 a ha
 ·exact cmpPath_trans (h1 a ha) (h2 b hb)
theorem merge_srt (a b:List Mbr):SrtM (mergeL Mbr.path joinedM a b):=by
 unfold mergeL
 have h1:=isort_sorted ltP_swo (onceL (a.map Mbr.path++b.map Mbr.path))
 have h2:(isort ltP (onceL (a.map Mbr.path++b.map Mbr.path))).Nodup:=(isort_perm (lt:=ltP) _).nodup_iff.2 (onceL_nodup _)
 have h3:(isort ltP (onceL (a.map Mbr.path++b.map Mbr.path))).Pairwise fun x y=>cmpPath x y < 0:=by
  refine (h1.and h2).imp ?_
  intro x y ⟨e1,e2⟩
  simp only [ltP,decide_eq_false_iff_not] at e1
  have e3:cmpPath y x = -cmpPath x y:=cmpPath_anti x y
  have e4:cmpPath x y ≠ 0:=fun e=>e2 (cmpPath_eq.1 e)
  omega
 have key:∀ k e,mrgO joinedM (a.find? fun x=>decide (x.path=k)) (b.find? fun x=>decide (x.path=k))=some e->e.path=k:=by
  intro k e h
  cases ha:a.find? fun x=>decide (x.path=k) with
  | none =>
   rw [ha] at h
   cases hb:b.find? fun x=>decide (x.path=k) with
   | none=>rw [hb] at h;cases h
   | some y=>rw [hb] at h;injection h with h;subst h;simpa using List.find?_some hb
  | some x =>
   have hp:x.path=k:=by simpa using List.find?_some ha
   rw [ha] at h
   cases hb:b.find? fun x=>decide (x.path=k) with
   | none=>rw [hb] at h;injection h with h;subst h;exact hp
   | some y=>rw [hb] at h;injection h with h;subst h;exact hp
 rw [SrtM,List.pairwise_filterMap]
 exact h3.imp fun {x y} h e1 h1 e2 h2=>by rw [key x e1 h1,key y e2 h2];exact h
section
variable {a b:List Mbr} (ha:may20 a=true) (hb:may20 b=true)
include ha hb
variable {path:Str} (hf:forgottenM a path=true)
include hf
end
section
variable {α β:Type} {c d:α->α->Int}
end
theorem firstL_zero:∀ {l:List Int},firstL l=0->∀ c ∈ l,c=0
 | [],_,_,h=>by cases h
 | x :: r,h,c,hc=>by
  unfold firstL at h
  split at h
  ·rename_i e
   rcases List.mem_cons.1 hc with rfl | hc
   ·exact e
   ·exact firstL_zero h c hc
  ·rename_i e
   exact absurd h e
theorem cmpI_eq {a b:Int} (h:cmpI a b=0):a=b:=by unfold cmpI at h;split at h <;> (try split at h) <;> omega
theorem cmpN_eq' {a b:Nat} (h:cmpN a b=0):a=b:=by unfold cmpN at h;split at h <;> (try split at h) <;> omega
theorem later_eq (x y:Plan) (h:firstL (laterL x y)=0):x=y:=by
 have h:=firstL_zero h
 unfold laterL at h
 simp only [List.mem_cons,List.not_mem_nil,or_false,forall_eq_or_imp,forall_eq] at h
 obtain⟨h0,-,h1,h2,h3,h4,h5,h6,h7⟩:=h
 cases x;cases y
 replace h0:=cmpI_eq h0
 replace h1:=cmpN_eq' h1
 replace h2:=cmpPath_eq.1 h2
 replace h3:=cmpS_eq.1 h3
 replace h4:=cmpS_eq.1 h4
 replace h5:=cmpN_eq' h5
 replace h6:=cmpS_eq.1 h6
 replace h7:=cmpN_eq' h7
 simp only at h0 h1 h2 h3 h4 h5 h6 h7
 subst h1 h2 h3 h4 h5 h6 h7
 rename_i d1 d2
 unfold settledM at h0
 cases d1 <;> cases d2 <;> simp at h0 ⊢
theorem lesser_nn (a b:Int):0<=lesserM a b:=by unfold lesserM;split <;> omega
section
variable {ν:Type} (name:ν->Str)
def SrtN (l:List ν):Prop:=l.Pairwise fun x y=>cmpPath (name x) (name y) < 0
abbrev findN (l:List ν) (k:Str):Option ν:=l.find? fun x=>decide (name x=k)
variable {name}
theorem findN_name {l:List ν} {k:Str} {x:ν} (h:findN name l k=some x):name x=k:=by simpa using List.find?_some h
theorem findN_of:∀ {l:List ν},SrtN name l->∀ {x:ν},x ∈ l->findN name l (name x)=some x
 | [],_,_,hx=>by cases hx
 | y :: l,hs,x,hx=>by
  obtain⟨h1,h2⟩:=List.pairwise_cons.1 hs
  unfold findN
  rw [List.find?_cons]
  rcases List.mem_cons.1 hx with rfl | hx
  ·simp
  ·have h3:=h1 x hx
   have:¬ name y=name x:=fun e=>by rw [e,cmp_self] at h3;omega
   simp only [this,decide_false]
   exact findN_of h2 hx
theorem srt_ext:∀ {l l':List ν},SrtN name l->SrtN name l'->(∀ x,x ∈ l↔x ∈ l')->l=l'
 | [],[],_,_,_=>rfl
 | [],y :: l',_,_,h=>absurd ((h y).2 (by simp)) (by simp)
 | x :: l,[],_,_,h=>absurd ((h x).1 (by simp)) (by simp)
 | x :: l,y :: l',hs,hs',h=>by
  obtain⟨h1,h2⟩:=List.pairwise_cons.1 hs
  obtain⟨h1',h2'⟩:=List.pairwise_cons.1 hs'
  have no:∀ {z u:ν},cmpPath (name z) (name u) < 0->cmpPath (name u) (name z) < 0->False:=fun a b=>by rw [cmpPath_anti] at b;omega
  have e:x=y:=by
   rcases List.mem_cons.1 ((h x).1 (by simp)) with e | e
   ·exact e
   ·rcases List.mem_cons.1 ((h y).2 (by simp)) with e2 | e2
    ·exact e2.symm
    ·exact (no (h1 y e2) (h1' x e)).elim
  subst e
  congr 1
  refine srt_ext h2 h2' fun z=>⟨fun hz=>?_,fun hz=>?_⟩
  ·rcases List.mem_cons.1 ((h z).1 (List.mem_cons_of_mem _ hz)) with e | e
   ·subst e;exact (no (h1 z hz) (h1 z hz)).elim
   ·exact e
  ·rcases List.mem_cons.1 ((h z).2 (List.mem_cons_of_mem _ hz)) with e | e
   ·subst e;exact (no (h1' z hz) (h1' z hz)).elim
   ·exact e
theorem srt_find {l l':List ν} (h:SrtN name l) (h':SrtN name l') (e:∀ k,findN name l k=findN name l' k):l=l' :=
 srt_ext h h' fun x=>⟨fun hx=>List.mem_of_find?_eq_some ((e _).symm.trans (findN_of h hx)),fun hx=>List.mem_of_find?_eq_some ((e _).trans (findN_of h' hx))⟩
theorem fm_find {g:Str->Option ν} (hg:∀ k e,g k=some e->name e=k) (k:Str):∀ ks:List Str,findN name (ks.filterMap g) k=if k ∈ ks then g k else none
 | []=>by simp [findN]
 | j :: ks=>by
  have ih:=fm_find hg k ks
  rw [List.filterMap_cons]
  cases hj:g j with
  | none =>
   simp only
   rw [ih]
   by_cases hk:k=j
   ·subst hk;simp [hj]
   ·simp [hk]
  | some e =>
   simp only
   have he:=hg j e hj
   unfold findN at ih ⊢
   rw [List.find?_cons]
   by_cases hk:j=k
   ·subst hk;simp [he,hj]
   ·have h1:¬ name e=k:=by rw [he];exact hk
    have h2:¬ k=j:=fun e=>hk e.symm
    simp only [h1,decide_false,ih,List.mem_cons,h2,false_or]
variable {both:ν->ν->ν}
theorem mrg_name (hn:∀ x y,name (both x y)=name x) {a b:List ν} {k:Str} {e:ν} (h:mrgO both (findN name a k) (findN name b k)=some e):name e=k:=by
 cases ha:findN name a k with
 | none =>
  rw [ha] at h
  cases hb:findN name b k with
  | none=>rw [hb] at h;cases h
  | some y=>rw [hb] at h;injection h with h;subst h;exact findN_name hb
 | some x =>
  rw [ha] at h
  cases hb:findN name b k with
  | none=>rw [hb] at h;injection h with h;subst h;exact findN_name ha
  | some y=>rw [hb] at h;injection h with h;subst h;rw [hn];exact findN_name ha
theorem merge_find (hn:∀ x y,name (both x y)=name x) (a b:List ν) (k:Str):findN name (mergeL name both a b) k=mrgO both (findN name a k) (findN name b k):=by
 unfold mergeL
 rw [fm_find (fun k e h=>mrg_name hn h)]
 split
 ·rfl
 ·rename_i h
  rw [(isort_perm (lt:=ltP) _).mem_iff,onceL_in,List.mem_append,<- find_mem,<- find_mem,not_or] at h
  obtain⟨h1,h2⟩:=h
  have e1:findN name a k=none:=by cases h:findN name a k with | none=>rfl | some x=>exact absurd (show (findN name a k).isSome=true by rw [h];rfl) h1
  have e2:findN name b k=none:=by cases h:findN name b k with | none=>rfl | some x=>exact absurd (show (findN name b k).isSome=true by rw [h];rfl) h2
  rw [e1,e2]
  rfl
theorem merge_srtN (hn:∀ x y,name (both x y)=name x) (a b:List ν):SrtN name (mergeL name both a b):=by
 unfold mergeL
 have h1:=isort_sorted ltP_swo (onceL (a.map name++b.map name))
 have h2:(isort ltP (onceL (a.map name++b.map name))).Nodup:=(isort_perm (lt:=ltP) _).nodup_iff.2 (onceL_nodup _)
 have h3:(isort ltP (onceL (a.map name++b.map name))).Pairwise fun x y=>cmpPath x y < 0:=by
  refine (h1.and h2).imp ?_
  intro x y ⟨e1,e2⟩
  simp only [ltP,decide_eq_false_iff_not] at e1
  have e3:cmpPath y x = -cmpPath x y:=cmpPath_anti x y
  have e4:cmpPath x y ≠ 0:=fun e=>e2 (cmpPath_eq.1 e)
  omega
 rw [SrtN,List.pairwise_filterMap]
 exact h3.imp fun {x y} h e1 h1 e2 h2=>by rw [mrg_name hn h1,mrg_name hn h2];exact h
end
theorem said_name (x y:Word):(saidM x y).of=x.of:=rfl
theorem joined_name (x y:Mbr):(joinedM x y).path=x.path:=rfl
structure NiceM (x:Mbr):Prop where
 gone:Sep x.gone
 words:SrtN Word.of x.words
 cut:0<=x.cut
theorem find_merge (a b:List Mbr) (p:Str):findP (mergeL Mbr.path joinedM a b) p=mrgO joinedM (findP a p) (findP b p):=merge_find joined_name a b p
def rputF (m:Mbr):Bool->List Mbr->List Mbr
 | d,[]=>if d then [] else [m]
 | d,x :: l=>if x.path=m.path then rputF m d l else if !d && decide (cmpPath m.path x.path < 0) then m :: x :: rputF m true l else x :: rputF m d l
def rput (l:List Mbr) (m:Mbr):List Mbr:=rputF m false l
theorem rput_done {m:Mbr}:∀ {l:List Mbr},(∀ x ∈ l,x.path ≠ m.path)->rputF m true l=l
 | [],_=>rfl
 | x :: l,h=>by
  rw [rputF,if_neg (h x (by simp))]
  simp only [Bool.not_true,Bool.false_and,Bool.false_eq_true,if_false]
  rw [rput_done fun y hy=>h y (List.mem_cons_of_mem _ hy)]
theorem rput_mem {m:Mbr}:∀ {l:List Mbr},SrtM l->∀ z,z ∈ rputF m false l↔z=m ∨ (z ∈ l/\z.path ≠ m.path)
 | [],_,z=>by simp [rputF]
 | x :: l,hs,z=>by
  obtain⟨h1,h2⟩:=List.pairwise_cons.1 hs
  have ih:=rput_mem (m:=m) h2 z
  rw [rputF]
  by_cases hx:x.path=m.path
  ·rw [if_pos hx,ih]
   constructor
   ·rintro (h | ⟨h,h'⟩)
    ·exact .inl h
    ·exact .inr ⟨List.mem_cons_of_mem _ h,h'⟩
   ·rintro (h | ⟨h,h'⟩)
    ·exact .inl h
    ·rcases List.mem_cons.1 h with rfl | h
     ·exact absurd hx h'
     ·exact .inr ⟨h,h'⟩
  ·rw [if_neg hx]
   by_cases hc:cmpPath m.path x.path < 0
   ·simp only [Bool.not_false,Bool.true_and,hc,decide_true,if_true]
    have hne:∀ y ∈ l,y.path ≠ m.path:=fun y hy e=>by
     have h3:=h1 y hy
     rw [e] at h3
     have:=cmpPath_trans hc h3
     rw [cmp_self] at this
     omega
    rw [rput_done hne,List.mem_cons]
    constructor
    ·rintro (h | h)
     ·exact .inl h
     ·rcases List.mem_cons.1 h with rfl | h
      ·exact .inr ⟨by simp,hx⟩
      ·exact .inr ⟨List.mem_cons_of_mem _ h,hne z h⟩
    ·rintro (h | ⟨h,-⟩)
     ·exact .inl h
     ·exact .inr h
   ·simp only [Bool.not_false,Bool.true_and,hc,decide_false,Bool.false_eq_true,if_false]
    rw [List.mem_cons,ih]
    constructor
    ·rintro (rfl | h | ⟨h,h'⟩)
     ·exact .inr ⟨by simp,hx⟩
     ·exact .inl h
     ·exact .inr ⟨List.mem_cons_of_mem _ h,h'⟩
    ·rintro (h | ⟨h,h'⟩)
     ·exact .inr (.inl h)
     ·rcases List.mem_cons.1 h with rfl | h
      ·exact .inl rfl
      ·exact .inr (.inr ⟨h,h'⟩)
theorem rput_srt {m:Mbr}:∀ {l:List Mbr},SrtM l->SrtM (rputF m false l)
 | [],_=>by simp [rputF]
 | x :: l,hs=>by
  obtain⟨h1,h2⟩:=List.pairwise_cons.1 hs
  have ih:=rput_srt (m:=m) h2
  rw [rputF]
  by_cases hx:x.path=m.path
  ·rw [if_pos hx];exact ih
  ·rw [if_neg hx]
   by_cases hc:cmpPath m.path x.path < 0
   ·simp only [Bool.not_false,Bool.true_and,hc,decide_true,if_true]
    have hne:∀ y ∈ l,cmpPath m.path y.path < 0:=fun y hy=>cmpPath_trans hc (h1 y hy)
    rw [rput_done fun y hy e=>by have:=hne y hy;rw [e,cmp_self] at this;omega]
    refine List.pairwise_cons.2 ⟨fun y hy=>?_,hs⟩
    rcases List.mem_cons.1 hy with rfl | hy
    ·exact hc
    ·exact hne y hy
   ·simp only [Bool.not_false,Bool.true_and,hc,decide_false,Bool.false_eq_true,if_false]
    refine List.pairwise_cons.2 ⟨fun y hy=>?_,ih⟩
    rcases (rput_mem h2 y).1 hy with rfl | ⟨hy,-⟩
    ·have h3:cmpPath x.path y.path ≠ 0:=fun e=>hx (cmpPath_eq.1 e)
     have h4:=cmpPath_anti x.path y.path
     omega
    ·exact h1 y hy
theorem rput_find {l:List Mbr} (hs:SrtM l) (m:Mbr) (p:Str):findP (rput l m) p=if p=m.path then some m else findP l p:=by
 have hs':=rput_srt (m:=m) hs
 by_cases hp:p=m.path
 ·rw [if_pos hp,hp]
  exact find_of hs' ((rput_mem hs m).2 (.inl rfl))
 ·rw [if_neg hp]
  cases hf:findP l p with
  | some x =>
   have hxp:=findP_path hf
   have:=find_of hs' ((rput_mem (m:=m) hs x).2 (.inr ⟨findP_mem hf,by rw [hxp];exact hp⟩))
   rw [hxp] at this
   exact this
  | none =>
   cases hg:findP (rput l m) p with
   | none=>rfl
   | some y =>
    have hyp:=findP_path hg
    rcases (rput_mem hs y).1 (findP_mem hg) with rfl | ⟨hy,-⟩
    ·exact absurd hyp.symm hp
    ·have:=find_of hs hy
     rw [hyp,hf] at this
     cases this
theorem rput_is {l:List Mbr} (hs:SrtM l) (m:Mbr) (hs2:SrtM (putM l m)):rput l m=putM l m :=
 srt_find (name:=Mbr.path) (rput_srt hs) hs2 fun p=>by
  show findP _ p=findP _ p
  rw [rput_find hs,findP_put]
def rjoinF (both:Mbr->Mbr->Mbr) (a:List Mbr) (out:List Mbr) (b:List Mbr):List Mbr :=
 b.foldl (fun out y=>rput out (match findP a y.path with | some x=>both x y | none=>y)) out
theorem rfold_srt {f:Mbr->Mbr}:∀ {b out:List Mbr},SrtM out->SrtM (b.foldl (fun out y=>rput out (f y)) out)
 | [],_,h=>h
 | y :: b,out,h=>by rw [List.foldl_cons];exact rfold_srt (rput_srt h)
theorem rfold_find {f:Mbr->Mbr} (hf:∀ y,(f y).path=y.path):∀ {b out:List Mbr},SrtM out->SrtM b->∀ p,findP (b.foldl (fun out y=>rput out (f y)) out) p=((findP b p).map f).or (findP out p)
 | [],out,_,_,p=>by simp [findP]
 | y :: b,out,ho,hb,p=>by
  obtain⟨h1,h2⟩:=List.pairwise_cons.1 hb
  rw [List.foldl_cons,rfold_find hf (show SrtM (rput out (f y)) from rput_srt ho) h2,rput_find ho,hf,findP_cons]
  by_cases hp:y.path=p
  ·rw [if_pos hp,if_pos hp.symm]
   have hn:findP b p=none:=by
    cases e:findP b p with
    | none=>rfl
    | some z=>have:=h1 z (findP_mem e);rw [findP_path e,hp,cmp_self] at this;omega
   rw [hn]
   rfl
  ·rw [if_neg hp,if_neg (fun e=>hp e.symm)]
theorem rfold_self {a:List Mbr} (ha:SrtM a):a.foldl (fun out y=>rput out y) []=a :=
 srt_find (name:=Mbr.path) (rfold_srt (f:=id) (by simp)) ha fun p=>by
  show findP _ p=findP _ p
  have:=rfold_find (f:=id) (fun _=>rfl) (b:=a) (out:=[]) (by simp) ha p
  rw [show (a.foldl (fun out y=>rput out y) [])=a.foldl (fun out y=>rput out (id y)) [] from rfl,this]
  cases findP a p <;> rfl
theorem rjoin_is {a b:List Mbr} (ha:SrtM a) (hb:SrtM b):rjoinF joinedM a a b=mergeL Mbr.path joinedM a b:=by
 have hf:∀ y:Mbr,(match findP a y.path with | some x=>joinedM x y | none=>y).path=y.path:=fun y=>by
  cases e:findP a y.path with
  | none=>rfl
  | some x=>exact (joined_name x y).trans (findP_path e)
 refine srt_find (name:=Mbr.path) (rfold_srt ha) (merge_srtN joined_name a b) fun p=>?_
 show findP _ p=findP _ p
 unfold rjoinF
 rw [rfold_find hf ha hb,find_merge]
 cases hb':findP b p with
 | none=>cases findP a p <;> rfl
 | some y =>
  have hy:=findP_path hb'
  simp only [Option.map_some,Option.some_or]
  rw [hy]
  cases findP a p <;> rfl
theorem findN_cons {ν:Type} {name:ν->Str} (x:ν) (l:List ν) (k:Str):findN name (x :: l) k=if name x=k then some x else findN name l k:=by
 unfold findN
 rw [List.find?_cons]
 by_cases h:name x=k <;> simp [h]
theorem findN_no {ν:Type} {name:ν->Str} {l:List ν} {k:Str} (h:∀ x ∈ l,name x ≠ k):findN name l k=none:=by
 unfold findN
 rw [List.find?_eq_none]
 intro x hx
 simpa using h x hx
def rpwF (w:Word):Bool->List Word->List Word
 | d,[]=>if d then [] else [w]
 | d,x :: l=>if w.of=x.of then saidM x w :: rpwF w true l else if !d && decide (cmpPath w.of x.of < 0) then w :: x :: rpwF w true l else x :: rpwF w d l
def rpw (l:List Word) (w:Word):List Word:=rpwF w false l
theorem rpw_done {w:Word}:∀ {l:List Word},(∀ x ∈ l,w.of ≠ x.of)->rpwF w true l=l
 | [],_=>rfl
 | x :: l,h=>by
  rw [rpwF,if_neg (h x (by simp))]
  simp only [Bool.not_true,Bool.false_and,Bool.false_eq_true,if_false]
  rw [rpw_done fun y hy=>h y (List.mem_cons_of_mem _ hy)]
theorem rpw_after {w x:Word} {l:List Word} (hs:SrtN Word.of (x :: l)) (h:cmpPath w.of x.of<=0):∀ y ∈ l,w.of ≠ y.of:=fun y hy e=>by
 have h1:=(List.pairwise_cons.1 hs).1 y hy
 rw [<- e,cmpPath_anti] at h1
 omega
theorem rpw_find {w:Word}:∀ {l:List Word},SrtN Word.of l->∀ k,findN Word.of (rpwF w false l) k=if k=w.of then some (match findN Word.of l k with | some x=>saidM x w | none=>w) else findN Word.of l k
 | [],_,k=>by
  rw [rpwF]
  simp only [Bool.false_eq_true,if_false]
  rw [findN_cons]
  by_cases hk:k=w.of
  ·rw [if_pos hk,if_pos hk.symm];rfl
  ·rw [if_neg hk,if_neg (fun e=>hk e.symm)]
 | x :: l,hs,k=>by
  have h2:=(List.pairwise_cons.1 hs).2
  have ih:=rpw_find (w:=w) h2 k
  rw [rpwF]
  by_cases hx:w.of=x.of
  ·rw [if_pos hx,rpw_done (rpw_after hs (by rw [hx,cmp_self];exact Int.le_refl _)),findN_cons,findN_cons,said_name]
   by_cases hk:k=w.of
   ·rw [if_pos hk,if_pos (by rw [hk,hx]),if_pos (by rw [hk,hx])]
   ·rw [if_neg hk,if_neg (fun e=>hk (by rw [hx,e])),if_neg (fun e=>hk (by rw [hx,e]))]
  ·rw [if_neg hx]
   by_cases hc:cmpPath w.of x.of < 0
   ·simp only [Bool.not_false,Bool.true_and,hc,decide_true,if_true]
    rw [rpw_done (rpw_after hs (by omega)),findN_cons]
    by_cases hk:k=w.of
    ·have hn:findN Word.of (x :: l) k=none:=findN_no fun y hy e=>by
      rcases List.mem_cons.1 hy with rfl | hy
      ·exact hx (by rw [e,hk])
      ·exact rpw_after (w:=w) hs (by omega) y hy (by rw [<- hk,<- e])
     rw [if_pos hk,if_pos hk.symm,hn]
    ·rw [if_neg hk,if_neg (fun e=>hk e.symm)]
   ·simp only [Bool.not_false,Bool.true_and,hc,decide_false,Bool.false_eq_true,if_false]
    rw [findN_cons,findN_cons,ih]
    by_cases hxk:x.of=k
    ·have hk:¬ k=w.of:=fun e=>hx (by rw [hxk,e])
     rw [if_pos hxk,if_pos hxk,if_neg hk]
    ·rw [if_neg hxk,if_neg hxk]
theorem rpw_of {w:Word}:∀ {l:List Word} {d:Bool} {y:Word},y ∈ rpwF w d l->y.of=w.of ∨ ∃ x ∈ l,y.of=x.of
 | [],d,y,h=>by
  rw [rpwF] at h
  split at h
  ·cases h
  ·rw [List.mem_singleton.1 h];exact .inl rfl
 | x :: l,d,y,h=>by
  have up:(y.of=w.of ∨ ∃ x ∈ l,y.of=x.of)->y.of=w.of ∨ ∃ z ∈ x :: l,y.of=z.of:=fun h=>by
   rcases h with h | ⟨z,hz,e⟩
   ·exact .inl h
   ·exact .inr ⟨z,List.mem_cons_of_mem _ hz,e⟩
  rw [rpwF] at h
  split at h
  ·rcases List.mem_cons.1 h with rfl | h
   ·exact .inr ⟨x,by simp,rfl⟩
   ·exact up (rpw_of h)
  ·split at h
   ·rcases List.mem_cons.1 h with rfl | h
    ·exact .inl rfl
    ·rcases List.mem_cons.1 h with rfl | h
     ·exact .inr ⟨y,by simp,rfl⟩
     ·exact up (rpw_of h)
   ·rcases List.mem_cons.1 h with rfl | h
    ·exact .inr ⟨y,by simp,rfl⟩
    ·exact up (rpw_of h)
theorem rpw_srt {w:Word}:∀ {l:List Word},SrtN Word.of l->SrtN Word.of (rpwF w false l)
 | [],_=>by simp [rpwF,SrtN]
 | x :: l,hs=>by
  obtain⟨h1,h2⟩:=List.pairwise_cons.1 hs
  have ih:=rpw_srt (w:=w) h2
  rw [rpwF]
  by_cases hx:w.of=x.of
  ·rw [if_pos hx,rpw_done (rpw_after hs (by rw [hx,cmp_self];exact Int.le_refl _))]
   exact List.pairwise_cons.2 ⟨fun y hy=>h1 y hy,h2⟩
  ·rw [if_neg hx]
   by_cases hc:cmpPath w.of x.of < 0
   ·simp only [Bool.not_false,Bool.true_and,hc,decide_true,if_true]
    rw [rpw_done (rpw_after hs (by omega))]
    refine List.pairwise_cons.2 ⟨fun y hy=>?_,hs⟩
    rcases List.mem_cons.1 hy with rfl | hy
    ·exact hc
    ·exact cmpPath_trans hc (h1 y hy)
   ·simp only [Bool.not_false,Bool.true_and,hc,decide_false,Bool.false_eq_true,if_false]
    refine List.pairwise_cons.2 ⟨fun y hy=>?_,ih⟩
    rcases rpw_of hy with e | ⟨z,hz,e⟩
    ·have h3:cmpPath w.of x.of ≠ 0:=fun e=>hx (cmpPath_eq.1 e)
     have h4:=cmpPath_anti w.of x.of
     rw [e]
     omega
    ·rw [e];exact h1 z hz
theorem wfold_srt:∀ {b out:List Word},SrtN Word.of out->SrtN Word.of (b.foldl rpw out)
 | [],_,h=>h
 | y :: b,out,h=>by rw [List.foldl_cons];exact wfold_srt (show SrtN Word.of (rpw out y) from rpw_srt h)
theorem wfold_find:∀ {b out:List Word},SrtN Word.of out->SrtN Word.of b->∀ k,findN Word.of (b.foldl rpw out) k=mrgO saidM (findN Word.of out k) (findN Word.of b k)
 | [],out,_,_,k=>by
  show findN Word.of out k=mrgO saidM (findN Word.of out k) none
  cases findN Word.of out k <;> rfl
 | y :: b,out,ho,hb,k=>by
  obtain⟨h1,h2⟩:=List.pairwise_cons.1 hb
  rw [List.foldl_cons,wfold_find (show SrtN Word.of (rpw out y) from rpw_srt ho) h2,show rpw out y=rpwF y false out from rfl,rpw_find ho,findN_cons]
  by_cases hk:k=y.of
  ·have hn:findN Word.of b k=none:=findN_no fun z hz e=>by
    have:=h1 z hz
    rw [e,hk,cmp_self] at this
    omega
   rw [if_pos hk,if_pos hk.symm,hn]
   cases findN Word.of out k <;> rfl
  ·rw [if_neg hk,if_neg (fun e=>hk e.symm)]
theorem wjoin_is {a b:List Word} (ha:SrtN Word.of a) (hb:SrtN Word.of b):b.foldl rpw (a.foldl rpw [])=mergeL Word.of saidM a b:=by
 have h0:SrtN Word.of ([]:List Word):=List.Pairwise.nil
 have hA:a.foldl rpw []=a:=srt_find (name:=Word.of) (wfold_srt h0) ha fun k=>by
  rw [wfold_find h0 ha]
  show mrgO saidM none _=_
  cases findN Word.of a k <;> rfl
 rw [hA]
 exact srt_find (name:=Word.of) (wfold_srt ha) (merge_srtN said_name a b) fun k=>by rw [wfold_find ha hb,merge_find said_name]
theorem mayP_nil:mayP []=false:=by decide
theorem void_cut (l:List Mbr) (p:Str):voidIn l p=match findP l (parP p) with | none=>false | some y=>cutsM (vset l y) p:=by
 rw [voidIn_step,at_find]
 cases h:findP l (parP p) with
 | none=>rfl
 | some y=>simp only;rw [cuts_vset l y p (findP_path h)]
structure GoodL (l:List Mbr):Prop where
 srt:SrtM l
 may:∀ x ∈ l,mayP x.path=true
 st:∀ x ∈ l,x.status<=4
 cut:∀ x ∈ l,0<=x.cut
theorem vset_same (l:List Mbr) (z:Mbr):(vset l z).path=z.path/\(vset l z).kids=z.kids/\(vset l z).last=z.last/\(vset l z).gone=z.gone/\(vset l z).plan=z.plan/\(vset l z).words=z.words:=by
 unfold vset
 split <;> exact⟨rfl,rfl,rfl,rfl,rfl,rfl⟩
theorem gone_sep {k:Int}:∀ {l:List Span} {t:Span},chkF (goneOk k) goneLe (some t) l=true->SepF t.2 l
 | [],_,_=>trivial
 | s :: r,t,h=>by
  simp only [chkF,Bool.and_eq_true] at h
  obtain⟨⟨h1,h2⟩,h3⟩:=h
  unfold goneOk at h1
  unfold goneLe at h2
  simp only [Bool.and_eq_true,decide_eq_true_eq] at h1 h2
  exact⟨h2,h1.1.2,gone_sep h3⟩
theorem gone_sep0 {k:Int} {l:List Span} (h:chkF (goneOk k) goneLe none l=true):Sep l:=by
 cases l with
 | nil=>trivial
 | cons s r =>
  simp only [chkF,Bool.and_eq_true] at h
  have h1:=h.1
  unfold goneOk at h1
  simp only [Bool.and_eq_true,decide_eq_true_eq] at h1
  exact⟨h1.1.2,gone_sep h.2⟩
theorem GoodL.merge {a b:List Mbr} (ha:GoodL a) (hb:GoodL b):GoodL (mergeL Mbr.path joinedM a b) where
 srt:=merge_srt a b
 may x hx:=by
  rcases mergeL_mem hx with h | h | ⟨y,hy,z,hz,-,rfl⟩
  ·exact ha.may x h
  ·exact hb.may x h
  ·exact ha.may y hy
 st x hx:=by
  rcases mergeL_mem hx with h | h | ⟨y,hy,z,hz,-,rfl⟩
  ·exact ha.st x h
  ·exact hb.st x h
  ·have:=ha.st y hy;have:=hb.st z hz
   show max y.status z.status<=4
   omega
 cut x hx:=by
  rcases mergeL_mem hx with h | h | ⟨y,hy,z,hz,-,rfl⟩
  ·exact ha.cut x h
  ·exact hb.cut x h
  ·exact lesser_nn _ _
section
variable {a b c:List Mbr} (ha:may20 a=true) (hb:may20 b=true) (hc:may20 c=true)
include ha hb
include hc
end
theorem par_deep2 {p:Str} (h:parP p ≠ []):2<=deepP p:=by
 apply Nat.le_of_not_lt
 intro hc
 exact h (by unfold parP;rw [if_pos hc])
section
variable {a b:List Mbr} (ha:may20 a=true) (hb:may20 b=true)
include ha hb
end
theorem par_lt {p:Str} (h0:parP p ≠ []):cmpPath (parP p) p < 0:=by
 have h2:=par_deep2 h0
 obtain⟨t,q,-,-,e,e2,hne,-⟩:=par_form h2
 rw [e]
 have hd:¬ deepP t=0:=fun h=>hne (List.eq_nil_of_length_eq_zero h)
 unfold cmpPath
 rw [if_neg (by omega),if_neg hd,if_neg (by omega),e2]
 have:=cmpL_pre (splitP t) [] [numS q]
 rw [List.append_nil] at this
 rw [this]
 show (-1:Int) < 0
 decide
def rvoidF:List Mbr->List Mbr->List Mbr
 | done,[]=>done
 | done,x :: r=>rvoidF (done++[if (match findP (done++x :: r) (parP x.path) with | some y=>cutsM y x.path | none=>false) then { x with status:=4,cut:=1 } else x]) r
theorem rvoid_go {l:List Mbr} (hg:GoodL l):∀ (r pre:List Mbr),l=pre++r->rvoidF (pre.map (vset l)) r=voidedM l
 | [],pre,h=>by
  rw [List.append_nil] at h
  subst h
  rfl
 | x :: r,pre,h=>by
  rw [rvoidF]
  have hxl:x ∈ l:=by rw [h];simp
  have hf:(match findP (pre.map (vset l)++x :: r) (parP x.path) with | some y=>cutsM y x.path | none=>false)=voidIn l x.path:=by
   rw [void_cut]
   have hfl:findP l (parP x.path)=(findP pre (parP x.path)).or (findP (x :: r) (parP x.path)):=by rw [<- findP_append,<- h]
   have hno:findP (x :: r) (parP x.path)=none:=by
    cases e:findP (x :: r) (parP x.path) with
    | none=>rfl
    | some y =>
     exfalso
     have hyp:=findP_path e
     have hym:=findP_mem e
     by_cases h0:parP x.path = []
     ·have h1:=hg.may y (by rw [h];exact List.mem_append_right _ hym)
      rw [hyp,h0,mayP_nil] at h1
      cases h1
     ·have h1:=par_lt h0
      have hs:SrtM (x :: r):=by
       have:=hg.srt
       rw [h] at this
       exact (List.pairwise_append.1 this).2.1
      rcases List.mem_cons.1 hym with rfl | hym
      ·rw [<- hyp,cmp_self] at h1;omega
      ·have h2:=(List.pairwise_cons.1 hs).1 y hym
       rw [hyp] at h2
       have h3:=cmpPath_trans h1 h2
       rw [cmp_self] at h3
       omega
   rw [findP_append,findP_map (vset_path l),hfl,hno]
   cases findP pre (parP x.path) <;> rfl
  rw [hf]
  have he:(if voidIn l x.path=true then ({ x with status:=4,cut:=1 }:Mbr) else x)=vset l x:=rfl
  rw [he]
  have h2:=rvoid_go hg r (pre++[x]) (by rw [h];simp)
  rw [List.map_append] at h2
  exact h2
theorem rvoid_is {l:List Mbr} (hg:GoodL l):rvoidF [] l=voidedM l:=rvoid_go hg l [] rfl
def rkeep (L:List Mbr) (w:Word):Bool:=match findP L w.of with | some x=>decide (x.status=4) && !forgottenM L x.path | none=>false
def rbare (L:List Mbr):List Mbr:=(L.filter fun m=>!forgottenM L m.path).map fun m=>{ m with words:=m.words.filter (rkeep L) }
theorem rkeep_is (L:List Mbr):rkeep L=keepW (leftM L):=by
 funext w
 unfold rkeep keepW leftM
 rw [at_find,findP_filter (fun q=>!forgottenM L q)]
 cases h:findP L w.of with
 | none=>cases forgottenM L w.of <;> rfl
 | some x =>
  simp only
  rw [findP_path h]
  cases forgottenM L w.of
  ·simp
  ·simp
theorem rbare_is (l:List Mbr):rbare (voidedM l)=bareM l:=by
 unfold rbare bareM
 rw [rkeep_is]
 rfl
theorem rput_set {l:List Mbr} {i:Nat} {x y:Mbr} (hs:SrtM l) (hi:l[i]? = some x) (e:y.path=x.path):rput l y=l.set i y:=by
 have hl:i < l.length:=(List.getElem?_eq_some_iff.1 hi).1
 refine srt_ext (name:=Mbr.path) (rput_srt hs) (set_srt hs hi e) fun z=>?_
 show z ∈ rputF y false l↔z ∈ l.set i y
 rw [rput_mem hs]
 constructor
 ·rintro (rfl | ⟨h,h'⟩)
  ·exact List.mem_set hl z
  ·exact set_keep hi h (by rw [<- e];exact h')
 ·intro h
  rcases set_in hs hi e h with h | ⟨h,h'⟩
  ·exact .inl h
  ·exact .inr ⟨h,by rw [e];exact h'⟩
theorem put_srtA {l:List Mbr} (hs:SrtM l) (m:Mbr):SrtM (putM l m):=by
 have hno:∀ x ∈ dropP l m.path,x.path ≠ m.path:=fun x hx=>by
  have:=(List.mem_filter.1 hx).2
  simpa using this
 have hd:SrtM (dropP l m.path):=List.Pairwise.sublist List.filter_sublist hs
 have h:=put_srt hd hno
 have e:putM (dropP l m.path) m=putM l m:=by unfold putM;rw [drop_none hno]
 rwa [e] at h
theorem rput_isA {l:List Mbr} (hs:SrtM l) (m:Mbr):rput l m=putM l m:=rput_is hs m (put_srtA hs m)
theorem idx_none {l:List Mbr} {p:Str} (h:findP l p=none):idxP l p=none:=by
 cases hi:idxP l p with
 | none=>rfl
 | some i =>
  obtain⟨x,-,hm,hp⟩:=idx_of hi
  have:=List.find?_eq_none.1 h x hm
  simp [hp] at this
theorem idx_find {l:List Mbr} {p:Str} {x:Mbr} (hs:SrtM l) (hf:findP l p=some x):∃ i,idxP l p=some i/\l[i]? = some x:=by
 have hx:=findP_mem hf
 obtain⟨i,hi⟩:=idx_ex hx
 rw [findP_path hf] at hi
 obtain⟨y,hy,hym,hyp⟩:=idx_of hi
 obtain rfl:y=x:=srt_uniq hs hym hx (hyp.trans (findP_path hf).symm)
 exact⟨i,hi,hy⟩
def rupR (l:List Mbr) (p:Str):List Mbr × Nat:=match findP l p with
 | none=>([],200)
 | some x=>if 2 < x.status ∨ x.status < 1 then ([],3) else (rput l { x with status:=2 },0)
theorem rup_is {l:List Mbr} (hs:SrtM l) (p:Str):rupR l p=upM l p:=by
 unfold rupR upM
 cases hf:findP l p with
 | none=>rw [idx_none hf]
 | some x =>
  obtain⟨i,hi,hy⟩:=idx_find hs hf
  rw [hi]
  simp only [hy]
  by_cases h:2 < x.status ∨ x.status < 1
  ·rw [if_pos h,if_pos (by omega)]
  ·rw [if_neg h,if_neg (by omega),rput_set (y:={ x with status:=2 }) hs hy rfl]
def rleaveR (l:List Mbr) (p:Str) (n:Nat):List Mbr × Nat:=match findP l p with
 | none=>([],200)
 | some x=>if p = [49] ∨ 281474976710656 < n then ([],2) else if x.status ≠ 2 then ([],3) else (rput l { x with status:=3,last:=n },0)
theorem rleave_is {l:List Mbr} (hs:SrtM l) (p:Str) (n:Nat):rleaveR l p n=leaveM l p n:=by
 unfold rleaveR leaveM
 cases hf:findP l p with
 | none=>rw [idx_none hf]
 | some x =>
  obtain⟨i,hi,hy⟩:=idx_find hs hf
  rw [hi]
  simp only [hy]
  rw [rput_set (y:={ x with status:=3,last:=n }) hs hy rfl]
def radmitR (l:List Mbr) (p:Str):List Mbr × Str × Nat:=match findP l p with
 | none=>([],[],200)
 | some x=>if x.status ≠ 2 then ([],[],200) else if 24<=l.length ∨ 1073741824<=x.kids ∨ 8<=deepP p then ([],[],6)
  else (rput (rput l { x with kids:=x.kids+1 }) (newM (childP p (x.kids+1)).1 x),(childP p (x.kids+1)).1,0)
theorem radmit_is {l:List Mbr} (hs:SrtM l) (hm:∀ x ∈ l,mayP x.path=true/\0<=x.kids) (p:Str):radmitR l p=admitM l p:=by
 unfold radmitR admitM
 cases hf:findP l p with
 | none=>rw [idx_none hf]
 | some x =>
  obtain⟨i,hi,hy⟩:=idx_find hs hf
  obtain⟨m1,m2⟩:=hm x (findP_mem hf)
  rw [findP_path hf] at m1
  have hd:0 < deepP p:=by unfold mayP at m1;simpa using m1
  have h8:deepP p<=8:=splitP_len p
  rw [hi]
  simp only [hy]
  by_cases h1:x.status ≠ 2
  ·rw [if_pos h1,if_pos h1]
  ·rw [if_neg h1,if_neg h1]
   by_cases h2:24<=l.length ∨ 1073741824<=x.kids
   ·rw [if_pos (by omega),if_pos h2]
   ·rw [if_neg h2]
    by_cases h3:8<=deepP p
    ·have hc:(childP p (x.kids+1)).2=6:=by
      unfold childP
      rw [if_neg (by omega),if_neg (by omega),if_pos (by omega)]
     rw [if_pos (by omega),if_pos (by rw [hc];decide),hc]
    ·have hc:(childP p (x.kids+1)).2=0:=by
      unfold childP
      rw [if_neg (by omega),if_neg (by omega),if_neg (by omega)]
     rw [if_neg (by omega),if_neg (by rw [hc];simp),rput_set (y:={ x with kids:=x.kids+1 }) hs hy rfl,rput_isA (set_srt hs hy (y:={ x with kids:=x.kids+1 }) rfl)]
def gstep (out:List Span) (x:Span):List Span:=match out.getLast? with
 | some s=>if x.1<=s.2 then out.dropLast++[(s.1,max s.2 x.2)] else out++[x]
 | none=>out++[x]
theorem gfold:∀ (r out:List Span) (s:Span),r.foldl gstep (out++[s])=out++mrgF s r
 | [],out,s=>rfl
 | t :: r,out,s=>by
  rw [List.foldl_cons]
  have e:gstep (out++[s]) t=if t.1<=s.2 then out++[(s.1,max s.2 t.2)] else (out++[s])++[t]:=by unfold gstep;simp
  rw [e,mrgF]
  split
  ·exact gfold r out _
  ·rw [gfold r (out++[s]) t,List.append_assoc];rfl
theorem gfold_is (d:List Span):d.foldl gstep []=mrg d:=by
 cases d with
 | nil=>rfl
 | cons s r =>
  rw [List.foldl_cons]
  have:=gfold r [] s
  exact this
theorem sep_sp {a:List Span} (h:Sep a):∀ s ∈ a,sp s=true:=by
 have aux:∀ {l:List Span} {n:Int},SepF n l->∀ s ∈ l,sp s=true:=by
  intro l
  induction l with
  | nil=>intro n _ s hs;cases hs
  | cons t l ih =>
   intro n h s hs
   rcases List.mem_cons.1 hs with rfl | hs
   ·unfold sp;exact decide_eq_true h.2.1
   ·exact ih h.2.2 s hs
 cases a with
 | nil=>intro s hs;cases hs
 | cons t l =>
  intro s hs
  rcases List.mem_cons.1 hs with rfl | hs
  ·unfold sp;exact decide_eq_true h.1
  ·exact aux h.2 s hs
theorem rgone_is {a b d:List Span} (ha:Sep a) (hb:Sep b) (hp:d.Perm (a++b)) (hs:SrtS d):d.foldl gstep []=spansM a b:=by
 rw [gfold_is]
 refine mrg_any ?_ hs
 rw [List.filter_eq_self.2 fun s h=>(List.mem_append.1 h).elim (sep_sp ha s) (sep_sp hb s)]
 exact hp
end
section
open Go.RowKit Go.Shelf
theorem refPutM_any {S S':Nat->Prop} {v v1 v2:Value} {l:List Mbr} {m:Mbr} {w:World} (hv:Sl mbrT w S v l) (hm1:Sl spanT w S' v1 m.gone) (hm2:Sl wordT w S' v2 m.words) (hl0:l.length<=1000000) (hp:∀ x ∈ l,x.path.length < 1073741824) (hmp:m.path.length < 1073741824) :
  Calls Tryz.prog 40 #[v,mbrV m v1 v2] w fun e w'=>∃ v',e=.returned v'/\Sl mbrT w' (fun _=>True) v' (rput l m)/\Ext w w':=by
 obtain⟨A1,c1,rfl,-,-⟩:=hm1.form
 obtain⟨A2,c2,rfl,-,-⟩:=hm2.form
 have rB:=rowNew w 48 [St m.path,U8 m.status,I m.kids,I m.cut,U m.last,.slice A1 m.gone.length c1,St m.plan.keeper,U m.plan.round,St m.plan.live,St m.plan.by_,U m.plan.cap,St m.plan.owner,U m.plan.base,.bool m.plan.done,.slice A2 m.words.length c2]
 have xB:=(Ext.refl w).alloc (.cells #[St m.path,U8 m.status,I m.kids,I m.cut,U m.last,.slice A1 m.gone.length c1,St m.plan.keeper,U m.plan.round,St m.plan.live,St m.plan.by_,U m.plan.cap,St m.plan.owner,U m.plan.base,.bool m.plan.done,.slice A2 m.words.length c2] 48)
 obtain⟨W1,hW1⟩:∃ W1,w.alloc (.cells #[St m.path,U8 m.status,I m.kids,I m.cut,U m.last,.slice A1 m.gone.length c1,St m.plan.keeper,U m.plan.round,St m.plan.live,St m.plan.by_,U m.plan.cap,St m.plan.owner,U m.plan.base,.bool m.plan.done,.slice A2 m.words.length c2] 48)=W1:=⟨_,rfl⟩
 have hszW:w.heap.size < W1.heap.size:=by rw [<- hW1];simp
 have rB:RowIs W1 w.heap.size 48 [St m.path,U8 m.status,I m.kids,I m.cut,U m.last,.slice A1 m.gone.length c1,St m.plan.keeper,U m.plan.round,St m.plan.live,St m.plan.by_,U m.plan.cap,St m.plan.owner,U m.plan.base,.bool m.plan.done,.slice A2 m.words.length c2] []:=by rw [<- hW1];exact rB
 rw [hW1] at xB
 have hv1:=(hv.mono (S':=fun b=>b < W1.heap.size) (by decide) (fun b hb _=>by omega)).ext (by decide) xB
 have hM:=And.intro ((hm1.mono (S':=fun b=>b < W1.heap.size) (by decide) (fun b hb _=>by omega)).ext (by decide) xB) ((hm2.mono (S':=fun b=>b < W1.heap.size) (by decide) (fun b hb _=>by omega)).ext (by decide) xB)
 obtain⟨P0,c,rfl,-,-⟩:=hv.form
 have HAT:=Lib.hid (fun (pre post:List Mbr) (x:Mbr) (hl:l=pre++x :: post)=>mbr_at (wr:=W1) hv1 (fun b _ hb=>rfl) hl)
 have HMM:=Lib.hid hM
 have HCM:=Lib.hid (fun (x:Mbr) (hx:x ∈ l) W=>refCmp_any m.path x.path hmp (hp x hx) W)
 have HM:=Lib.hid (fun W (he:Ext W1 W)=>(rB.ext he).c15)
 have HXB:=Lib.hid xB
 obtain⟨K,hK⟩:∃ K,rput l m=K:=⟨_,rfl⟩
 rw [hK]
 have HK:=Lib.hid hK
 clear hv hm1 hm2 rB xB hv1 hM hK hp hmp
 unfold mbrV
 go_enter Tryz.func40,Tryz.ntmps40
 go_wp2_with fail
 try rw [hW1]
 clear hW1
 generalize w.heap.size=gm at *
 go_loopw [5,6,7] (fun ov dv iv wr=>∃ pre post Q d,l=pre++post/\iv=I pre.length/\dv=.bool d/\OwnL mbrT 48 wr W1.heap.size (fun b=>b < W1.heap.size) ov Q/\Q.length<=2 * pre.length/\Hid (Q++rputF m d post=K)/\Ext W1 wr) (fun _ _ i _=>l.length - (intOf i).toNat)
 case atStart=>exact⟨[],l,[],false,rfl,rfl,rfl,OwnL.nil _ _,by simp,Lib.hid (by rw [List.nil_append];exact HK.out),Ext.refl _⟩
 case round =>
  obtain⟨pre,post,Q,d,hl,rfl,rfl,hown,hq,hk,hx⟩:=hrel
  obtain⟨C,cc,rfl,-,-⟩:=hown.form
  have HO:=Lib.hid hown
  have HX:=Lib.hid hx
  have hn2:=hx.size
  cases post with
  | nil =>
   rw [List.append_nil] at hl
   subst hl
   cases d with
   | true =>
    have HF:=Lib.hid (show Q=K by rw [<- hk.out];simp [rputF])
    clear hown hx hk
    go_wp2_with fail
    go_ret
    exact⟨_,rfl,by rw [<- HF.out];exact HO.out.sl (by decide) (fun _ _ _=>trivial) (fun _ _ _=>trivial),HXB.out.trans HX.out⟩
   | false =>
    have HF:=Lib.hid (show Q++[m]=K by rw [<- hk.out];simp [rputF])
    clear hk
    obtain⟨j0,j1,j2,j3,j4,j5,j6,j7,j8,j9,j10,j11,j12,j13,j14⟩:=HM.out _ HX.out
    clear hown hx
    go_wp2_with (at_builtin;refine wpList_append_OwnL rfl (.tmp 48) (.tmp 50) 22 rfl mbrT W1.heap.size 48 192 (mbrV mbr0 (.slice none 0 0) (.slice none 0 0)) Tryz.underlying22 info_mbr rfl (by decide) (fun b=>b < W1.heap.size) (fun _ h=>h) _ Q rfl (HO.out.ext ((Ext.refl _).alloc _)) _ 1 m [St m.path,U8 m.status,I m.kids,I m.cut,U m.last,.slice A1 m.gone.length c1,St m.plan.keeper,U m.plan.round,St m.plan.live,St m.plan.by_,U m.plan.cap,St m.plan.owner,U m.plan.base,.bool m.plan.done,.slice A2 m.words.length c2] rfl (Src.new rfl (mbrC_one rfl rfl)) ⟨_,_,rfl,(HMM.out.1.ext (by decide) (HX.out.alloc _)),(HMM.out.2.ext (by decide) (HX.out.alloc _))⟩ (by (try simp only [List.length_append,List.length_cons,List.length_nil]);omega) (by (try simp only [List.length_append,List.length_cons,List.length_nil]);omega) (by first | (rw [World.size_alloc];omega) | (simp;omega)) ?_;intro v2 w2 hown2 hgr2)
    go_ret
    exact⟨_,rfl,by rw [<- HF.out];exact hown2.sl (by decide) (fun _ _ _=>trivial) (fun _ _ _=>trivial),HXB.out.trans (Ext.grewL (HX.out.alloc _) hgr2 (HO.out.ext ((Ext.refl _).alloc _)) (Nat.le_refl _))⟩
  | cons x post =>
   obtain⟨b,o,B1,d1,B2,d2,rfl,-,hs1,hs2,hc⟩:=HAT.out pre post x hl
   have hlt:pre.length < l.length:=by rw [hl];simp
   have HL:=Lib.hid hl
   have HS:=Lib.hid (And.intro hs1 hs2)
   have HC:=Lib.hid (fun W (he:Ext W1 W)=>mbr_c15 (fun j u hj=>he.cell (hc j u hj)))
   have HCX:=Lib.hid (HCM.out x (by rw [hl];simp))
   obtain⟨k0,-⟩:=HC.out _ HX.out
   obtain⟨j0,-⟩:=HM.out _ HX.out
   have HKK:=Lib.hid hk.out
   clear hl hs1 hs2 hc hown hx hk
   by_cases hxp:x.path=m.path
   case pos =>
    have e0:(x.path == m.path)=true:=by simpa using hxp
    have HF:=Lib.hid (show Q++rputF m d post=K by rw [<- HKK.out,rputF,if_pos hxp])
    clear hxp HKK
    go_wp2_with fail
    go_quiet (fail)
    go_wp2_with fail
    go_roundw
    case rel=>exact⟨pre++[x],post,Q,d,by rw [HL.out];simp,by simp,rfl,HO.out.ext ((Ext.refl _).drewN _),by simp only [List.length_append,List.length_cons,List.length_nil];omega,Lib.hid HF.out,HX.out.drewN _⟩
    case measure=>simp [intOf];omega
   have e0:(x.path == m.path)=false:=by simpa using hxp
   cases d with
   | true =>
    have HF:=Lib.hid (show Q++x :: rputF m true post=K by rw [<- HKK.out,rputF,if_neg hxp];simp)
    clear hxp HKK HCX
    go_wp2_with fail
    go_quiet (fail)
    go_wp2_with fail
    go_quiet (fail)
    obtain⟨k0,k1,k2,k3,k4,k5,k6,k7,k8,k9,k10,k11,k12,k13,k14⟩:=HC.out _ HX.out
    go_wp2_with (at_builtin;refine wpList_append_OwnL rfl (.tmp 39) (.tmp 44) 22 rfl mbrT W1.heap.size 48 192 (mbrV mbr0 (.slice none 0 0) (.slice none 0 0)) Tryz.underlying22 info_mbr rfl (by decide) (fun b=>b < W1.heap.size) (fun _ h=>h) _ Q rfl (HO.out.ext (((Ext.refl _).drewN _).alloc _)) _ 1 x [St x.path,U8 x.status,I x.kids,I x.cut,U x.last,.slice B1 x.gone.length d1,St x.plan.keeper,U x.plan.round,St x.plan.live,St x.plan.by_,U x.plan.cap,St x.plan.owner,U x.plan.base,.bool x.plan.done,.slice B2 x.words.length d2] rfl (Src.new rfl (mbrC_one rfl rfl)) ⟨_,_,rfl,(HS.out.1.ext (by decide) ((HX.out.drewN _).alloc _)),(HS.out.2.ext (by decide) ((HX.out.drewN _).alloc _))⟩ (by (try simp only [List.length_append,List.length_cons,List.length_nil]);omega) (by (try simp only [List.length_append,List.length_cons,List.length_nil]);omega) (by first | (rw [World.size_alloc];omega) | (simp;omega)) ?_;intro v3 w3 hown3 hgr3)
    go_roundw
    case rel=>exact⟨pre++[x],post,Q++[x],true,by rw [HL.out];simp,by simp,rfl,hown3,by simp only [List.length_append,List.length_cons,List.length_nil];omega,Lib.hid (by rw [<- HF.out];simp),Ext.grewL ((HX.out.drewN _).alloc _) hgr3 (HO.out.ext (((Ext.refl _).drewN _).alloc _)) (Nat.le_refl _)⟩
    case measure=>simp [intOf];omega
   | false =>
    obtain⟨cz,hcz⟩:∃ cz,cmpPath m.path x.path=cz:=⟨_,rfl⟩
    rw [hcz] at HCX
    have HCZ:=Lib.hid hcz
    have HXP:=Lib.hid hxp
    have HW:=Lib.hid (fun W (he:Ext wr W)=>And.intro (he.cell k0) (And.intro (he.cell j0) he))
    clear hcz hxp
    go_wp2_with fail
    go_quiet (fail)
    go_wp2_with fail
    by_cases hlt2:cz < 0
    case pos =>
     have HF:=Lib.hid (show Q++[m]++x :: rputF m true post=K by rw [<- HKK.out,rputF,if_neg HXP.out,HCZ.out,decide_eq_true hlt2];simp)
     have e9:decide (cz < 0)=true:=decide_eq_true hlt2
     clear HKK
     go_region_held3 (fun W=>W.cell? ⟨b,o+pre.length * 15,none⟩=some (St x.path)/\W.cell? ⟨gm,0,none⟩=some (St m.path)/\Ext wr W) (first | exact HW.out _ (((Ext.refl _).drewN _).drew) | exact HW.out _ (‹_/\_/\Ext wr _›.2.2.trans hb1)) (first | (go_at_call 35;refine (HCX.out _).mono ?_;rintro e w1 ⟨rfl,hb1⟩))
     have hX:=‹_/\_/\Ext wr _›.2.2
     have HXV:=Lib.hid hX
     obtain⟨j0,j1,j2,j3,j4,j5,j6,j7,j8,j9,j10,j11,j12,j13,j14⟩:=HM.out _ (HX.out.trans HXV.out)
     have hn4:=(HX.out.trans HXV.out).size
     clear k0 e0
     go_upto_region 10 with (at_builtin;refine wpList_append_OwnL rfl (.tmp 35) (.tmp 37) 22 rfl mbrT W1.heap.size 48 192 (mbrV mbr0 (.slice none 0 0) (.slice none 0 0)) Tryz.underlying22 info_mbr rfl (by decide) (fun b=>b < W1.heap.size) (fun _ h=>h) _ Q rfl (HO.out.ext (HXV.out.alloc _)) _ 1 m [St m.path,U8 m.status,I m.kids,I m.cut,U m.last,.slice A1 m.gone.length c1,St m.plan.keeper,U m.plan.round,St m.plan.live,St m.plan.by_,U m.plan.cap,St m.plan.owner,U m.plan.base,.bool m.plan.done,.slice A2 m.words.length c2] rfl (Src.new rfl (mbrC_one rfl rfl)) ⟨_,_,rfl,(HMM.out.1.ext (by decide) ((HX.out.trans HXV.out).alloc _)),(HMM.out.2.ext (by decide) ((HX.out.trans HXV.out).alloc _))⟩ (by (try simp only [List.length_append,List.length_cons,List.length_nil]);omega) (by (try simp only [List.length_append,List.length_cons,List.length_nil]);omega) (by first | (rw [World.size_alloc];omega) | (simp;omega)) ?_;intro v2 w2 hown2 hgr2)
     obtain⟨C2,cc2,rfl,-,-⟩:=hown2.form
     clear j0 j1 j2 j3 j4 j5 j6 j7 j8 j9 j10 j11 j12 j13 j14
     have HO2:=Lib.hid hown2
     have HX2:=Lib.hid (Ext.grewL ((HX.out.trans HXV.out).alloc _) hgr2 (HO.out.ext (HXV.out.alloc _)) (Nat.le_refl _))
     have hn3:=HX2.out.size
     obtain⟨k0,k1,k2,k3,k4,k5,k6,k7,k8,k9,k10,k11,k12,k13,k14⟩:=HC.out _ HX2.out
     go_wp2_with (at_builtin;refine wpList_append_OwnL rfl (.tmp 39) (.tmp 44) 22 rfl mbrT W1.heap.size 48 192 (mbrV mbr0 (.slice none 0 0) (.slice none 0 0)) Tryz.underlying22 info_mbr rfl (by decide) (fun b=>b < W1.heap.size) (fun _ h=>h) _ (Q++[m]) rfl (HO2.out.ext ((Ext.refl _).alloc _)) _ 1 x [St x.path,U8 x.status,I x.kids,I x.cut,U x.last,.slice B1 x.gone.length d1,St x.plan.keeper,U x.plan.round,St x.plan.live,St x.plan.by_,U x.plan.cap,St x.plan.owner,U x.plan.base,.bool x.plan.done,.slice B2 x.words.length d2] rfl (Src.new rfl (mbrC_one rfl rfl)) ⟨_,_,rfl,(HS.out.1.ext (by decide) (HX2.out.alloc _)),(HS.out.2.ext (by decide) (HX2.out.alloc _))⟩ (by (try simp only [List.length_append,List.length_cons,List.length_nil]);omega) (by (try simp only [List.length_append,List.length_cons,List.length_nil]);omega) (by first | (rw [World.size_alloc];omega) | (simp;omega)) ?_;intro v3 w3 hown3 hgr3)
     go_roundw
     case rel=>exact⟨pre++[x],post,(Q++[m])++[x],true,by rw [HL.out];simp,by simp,rfl,hown3,by simp only [List.length_append,List.length_cons,List.length_nil];omega,Lib.hid (by rw [<- HF.out];simp),Ext.grewL (HX2.out.alloc _) hgr3 (HO2.out.ext ((Ext.refl _).alloc _)) (Nat.le_refl _)⟩
     case measure=>simp [intOf];omega
    case neg =>
     have HF:=Lib.hid (show Q++x :: rputF m false post=K by rw [<- HKK.out,rputF,if_neg HXP.out,HCZ.out,decide_eq_false hlt2];simp)
     have e9:decide (cz < 0)=false:=decide_eq_false hlt2
     clear HKK
     go_region_held3 (fun W=>W.cell? ⟨b,o+pre.length * 15,none⟩=some (St x.path)/\W.cell? ⟨gm,0,none⟩=some (St m.path)/\Ext wr W) (first | exact HW.out _ (((Ext.refl _).drewN _).drew) | exact HW.out _ (‹_/\_/\Ext wr _›.2.2.trans hb1)) (first | (go_at_call 35;refine (HCX.out _).mono ?_;rintro e w1 ⟨rfl,hb1⟩))
     have hX:=‹_/\_/\Ext wr _›.2.2
     have HXV:=Lib.hid hX
     clear k0 j0 e0
     have HO2:=Lib.hid (HO.out.ext HXV.out)
     have HX2:=Lib.hid (HX.out.trans HXV.out)
     have hn3:=HX2.out.size
     obtain⟨k0,k1,k2,k3,k4,k5,k6,k7,k8,k9,k10,k11,k12,k13,k14⟩:=HC.out _ HX2.out
     go_wp2_with (at_builtin;refine wpList_append_OwnL rfl (.tmp 39) (.tmp 44) 22 rfl mbrT W1.heap.size 48 192 (mbrV mbr0 (.slice none 0 0) (.slice none 0 0)) Tryz.underlying22 info_mbr rfl (by decide) (fun b=>b < W1.heap.size) (fun _ h=>h) _ Q rfl (HO2.out.ext ((Ext.refl _).alloc _)) _ 1 x [St x.path,U8 x.status,I x.kids,I x.cut,U x.last,.slice B1 x.gone.length d1,St x.plan.keeper,U x.plan.round,St x.plan.live,St x.plan.by_,U x.plan.cap,St x.plan.owner,U x.plan.base,.bool x.plan.done,.slice B2 x.words.length d2] rfl (Src.new rfl (mbrC_one rfl rfl)) ⟨_,_,rfl,(HS.out.1.ext (by decide) (HX2.out.alloc _)),(HS.out.2.ext (by decide) (HX2.out.alloc _))⟩ (by (try simp only [List.length_append,List.length_cons,List.length_nil]);omega) (by (try simp only [List.length_append,List.length_cons,List.length_nil]);omega) (by first | (rw [World.size_alloc];omega) | (simp;omega)) ?_;intro v3 w3 hown3 hgr3)
     go_roundw
     case rel=>exact⟨pre++[x],post,Q++[x],false,by rw [HL.out];simp,by simp,rfl,hown3,by simp only [List.length_append,List.length_cons,List.length_nil];omega,Lib.hid (by rw [<- HF.out];simp),Ext.grewL (HX2.out.alloc _) hgr3 (HO2.out.ext ((Ext.refl _).alloc _)) (Nat.le_refl _)⟩
     case measure=>simp [intOf];omega
theorem flatten_len {α:Type} {k:Nat}:∀ {vss:List (List α)},(∀ x ∈ vss,x.length=k)->vss.flatten.length=vss.length * k
 | [],_=>by simp
 | a :: r,h=>by rw [List.flatten_cons,List.length_append,flatten_len (fun x hx=>h x (List.mem_cons_of_mem _ hx)),h a (by simp),List.length_cons,Nat.add_mul];omega
section
variable {tid:Nat} {w:World} {base g c n:Nat} {S:Nat->Prop} {v:Value} {pre post:List Mbr} {x x':Mbr}
theorem OwnL.elem (h:OwnL mbrT tid w base S v (pre++x :: post)):∃ g c u1 u2,v=.slice (some ⟨g,0,none⟩) (pre++x :: post).length c/\base<=g/\g < w.heap.size/\Sl spanT w S u1 x.gone/\Sl wordT w S u2 x.words /\
  (∀ (j:Nat) u,(mbrC x u1 u2)[j]? = some u->w.cell? ⟨g,pre.length * 15+j,none⟩=some u)/\∀ j,w.frozen? ⟨g,j,none⟩=false:=by
 obtain⟨vss,h1,h2,h3⟩:=h
 have hl:(pre++x :: post).length=pre.length+1+post.length:=by simp;omega
 obtain⟨vs,hvs⟩:∃ vs,vss[pre.length]? = some vs:=⟨_,List.getElem?_eq_getElem (by omega)⟩
 obtain⟨u1,u2,e,s1,s2⟩:=h2 pre.length x vs (by simp) hvs
 have hk:∀ y ∈ vss,y.length=15:=fun y hy=>by
  obtain⟨i,hi⟩:=List.getElem?_of_mem hy
  have hil:=(List.getElem?_eq_some_iff.1 hi).1
  exact mbrT.len (h2 i _ y (List.getElem?_eq_getElem (by omega)) hi)
 obtain⟨g,cap,tail,rfl,hbg,hrow,hnc,hcm,hlen⟩:=h3.row (by omega)
 subst e
 exact⟨g,cap,u1,u2,rfl,hbg,hrow.lt,s1,s2,fun j u hj=>hrow.cell (flatten_at vss pre.length j _ u hk hvs hj),fun j=>hrow.frozen j⟩
theorem OwnL.setC {j:Nat} {val:Value} (h:OwnL mbrT tid w base S (.slice (some ⟨g,0,none⟩) n c) (pre++x :: post)) (hS:∀ b,S b->b < base) (hj:j < 15) (hg:x'.gone=x.gone) (hw:x'.words=x.words)
  (hset:∀ u1 u2,mbrC x' u1 u2=(mbrC x u1 u2).set j val):OwnL mbrT tid (w.setCell ⟨g,pre.length * 15+j,none⟩ val) base S (.slice (some ⟨g,0,none⟩) n c) (pre++x' :: post):=by
 obtain⟨vss,h1,h2,h3⟩:=h
 have hl:(pre++x :: post).length=pre.length+1+post.length:=by simp;omega
 have hl':(pre++x' :: post).length=pre.length+1+post.length:=by simp;omega
 obtain⟨vs,hvs⟩:∃ vs,vss[pre.length]? = some vs:=⟨_,List.getElem?_eq_getElem (by omega)⟩
 obtain⟨u1,u2,e,s1,s2⟩:=h2 pre.length x vs (by simp) hvs
 have hk:∀ y ∈ vss,y.length=15:=fun y hy=>by
  obtain⟨i,hi⟩:=List.getElem?_of_mem hy
  have hil:=(List.getElem?_eq_some_iff.1 hi).1
  exact mbrT.len (h2 i _ y (List.getElem?_eq_getElem (by omega)) hi)
 obtain⟨g',cap,tail,e',hbg,hrow,hnc,hcm,hlen⟩:=h3.row (by omega)
 cases e'
 have hsp:vss=vss.take pre.length++vs :: vss.drop (pre.length+1):=by
  rw [<- (List.getElem?_eq_some_iff.1 hvs).2,List.getElem_cons_drop,List.take_append_drop]
 have hA:(vss.take pre.length).flatten.length=pre.length * 15:=by
  rw [flatten_len (fun y hy=>hk y (List.mem_of_mem_take hy)),List.length_take,Nat.min_eq_left (by omega)]
 have hfl:vss.flatten=(vss.take pre.length).flatten++(mbrC x u1 u2++(vss.drop (pre.length+1)).flatten):=by
  conv=>lhs;rw [hsp]
  rw [List.flatten_append,List.flatten_cons,e]
 have hfl':(vss.set pre.length (mbrC x' u1 u2)).flatten=(vss.take pre.length).flatten++(mbrC x' u1 u2++(vss.drop (pre.length+1)).flatten):=by
  rw [List.set_eq_take_append_cons_drop,if_pos (by omega),List.flatten_append,List.flatten_cons]
 have hse:vss.flatten.set (pre.length * 15+j) val=(vss.set pre.length (mbrC x' u1 u2)).flatten:=by
  rw [hfl,hfl',hset,<- hA,List.set_append_right _ _ (Nat.le_add_right _ _),Nat.add_sub_cancel_left,List.set_append_left _ _ (by simp [mbrC];omega)]
 have hfn:=h3.1
 have hr:=hrow.set (j:=pre.length * 15+j) (by rw [hfn,hl];have:mbrT.k=15:=rfl;rw [this];omega) val
 rw [hse] at hr
 have hkp:∀ b,S b->b < w.heap.size->(w.setCell ⟨g,pre.length * 15+j,none⟩ val).heap[b]? = w.heap[b]?:=fun b hb _=>Below.heap_setCell _ _ _ b (by
  have:=hS b hb
  show b ≠ g
  omega)
 have hfn':(vss.set pre.length (mbrC x' u1 u2)).flatten.length=(pre++x :: post).length * mbrT.k:=by rw [<- hse,List.length_set,hfn]
 refine ⟨vss.set pre.length (mbrC x' u1 u2),by rw [List.length_set,h1,hl,hl'],fun i y ys hi hv=>?_,?_⟩
 ·rw [List.getElem?_set] at hv
  split at hv
  ·rename_i hi'
   subst hi'
   rw [if_pos (by omega)] at hv
   cases hv
   rw [List.getElem?_append_right (Nat.le_refl _),Nat.sub_self] at hi
   cases hi
   refine ⟨u1,u2,rfl,?_,?_⟩
   ·rw [hg];exact s1.keep (by decide) hkp
   ·rw [hw];exact s2.keep (by decide) hkp
  ·rename_i hne
   refine mbrT.keep (h2 i y ys ?_ hv) hkp
   by_cases hlt:i < pre.length
   ·rw [List.getElem?_append_left hlt] at hi ⊢;exact hi
   ·rw [List.getElem?_append_right (by omega)] at hi ⊢
    cases hd:i - pre.length with
    | zero=>omega
    | succ k=>rw [hd] at hi;simpa using hi
 ·rw [hl',<- hl]
  exact hr.own hbg hnc hcm (by rw [<- hse,List.length_append,List.length_set,<- List.length_append];exact hlen) (List.take_of_length_le (by rw [hfn'];exact Nat.le_refl _)) hfn'
end
theorem refVoided_any {S:Nat->Prop} {v:Value} {l:List Mbr} {w:World} (hv:Sl mbrT w S v l) (hg:GoodL l) (hl0:l.length<=1000000) (hp:∀ x ∈ l,x.path.length < 1073741824) :
  Calls Tryz.prog 115 #[v] w fun e w'=>∃ v',e=.returned v'/\Sl mbrT w' (fun _=>True) v' (voidedM l)/\Ext w w':=by
 have hv0:=hv.mono (S':=fun b=>b < w.heap.size) (by decide) (fun b hb _=>hb)
 obtain⟨A,c,rfl,-,-⟩:=hv.form
 obtain⟨vss,q1,q2,q3⟩:=hv0.src
 obtain⟨K,hK⟩:∃ K,voidedM l=K:=⟨_,rfl⟩
 have HK:=Lib.hid (show rvoidF [] l=K by rw [<- hK];exact rvoid_is hg)
 rw [hK]
 have HPA:=Lib.hid (fun (x:Mbr) (hx:x ∈ l) W=>refParent_any (hg.may x hx) (by have:=hp x hx;omega) W)
 have HNU:=Lib.hid (fun (x:Mbr) (hx:x ∈ l) W=>refNumber_any (hg.may x hx) (by have:=hp x hx;omega) W)
 have HSRC:=Lib.hid (fun o=>Src.ext q3 ((Ext.refl w).alloc o))
 have HQ:=Lib.hid (And.intro q1 q2)
 clear hv hv0 hK q1 q2 q3 hg hp
 go_enter Tryz.func115,Tryz.ntmps115
 go_wp2_with (at_builtin;refine wpList_append_Own rfl (.tmp 7) (.tmp 8) 22 rfl w.heap.size 48 15 192 (mbrV mbr0 (.slice none 0 0) (.slice none 0 0)) Tryz.underlying22 info_mbr rfl (by omega) (.slice (some ⟨w.heap.size,0,none⟩) 0 0) 0 [] rfl (Own.nil _ _ _ _ _) A l.length c vss.flatten rfl (HSRC.out _) (by omega) (by omega) (by simp) ?_;intro v1 w1 hown hgr)
 obtain⟨hO,hX⟩:=clone_end (T:=mbrT) HQ.out.1 HQ.out.2 hown ((Ext.refl w).alloc _) hgr
 obtain⟨C,cc,rfl,-,-⟩:=hO.form
 have HO:=Lib.hid hO
 have HX:=Lib.hid hX
 clear hown hgr hO hX
 go_loopw [4,5,6] (fun iv _ _ wr=>∃ done post,iv=I done.length/\done.length+post.length=l.length/\(∀ x ∈ post,x ∈ l)/\OwnL mbrT 48 wr w.heap.size (fun b=>b < w.heap.size) (.slice C l.length cc) (done++post)/\Hid (rvoidF done post=K)/\Ext w wr) (fun i _ _ _=>l.length - (intOf i).toNat)
 case atStart=>exact⟨[],l,rfl,by simp,fun x hx=>hx,HO.out,HK,HX.out⟩
 case round =>
  obtain⟨done,post,rfl,hlen,hin,hown,hk,hx⟩:=hrel
  have HX1:=Lib.hid hx
  cases post with
  | nil =>
   have hll:(done.length:Int)=l.length:=by simp at hlen;omega
   have hge:¬ (done.length:Int) < l.length:=by omega
   have HF:=Lib.hid (show done=K from hk.out)
   have HOW:=Lib.hid (show OwnL mbrT 48 wr w.heap.size (fun b=>b < w.heap.size) (.slice C l.length cc) done by rw [List.append_nil] at hown;exact hown)
   clear hown hk hx hlen hin hll
   go_wp2_with fail
   go_ret
   exact⟨_,rfl,by rw [<- HF.out];exact HOW.out.sl (by decide) (fun _ _ _=>trivial) (fun _ _ _=>trivial),HX1.out⟩
  | cons x post =>
   obtain⟨g,c2,u1,u2,he,hbg,hgl,s1,s2,hc,hz⟩:=hown.elem
   injection he with he1 he2 he3
   subst he1
   subst he3
   clear he2
   have hxl:=hin x (by simp)
   have HPQ:=Lib.hid (HPA.out x hxl)
   have HNQ:=Lib.hid (HNU.out x hxl)
   have hlt:done.length < l.length:=by simp at hlen;omega
   have hlt2:(done.length:Int) < l.length:=by omega
   have k0:wr.cell? ⟨g,done.length * 15,none⟩=some (St x.path):=hc 0 _ rfl
   have HC:=Lib.hid (fun W (he:Ext wr W)=>And.intro (show W.cell? ⟨g,done.length * 15,none⟩=some (St x.path) from he.cell (hc 0 _ rfl)) (And.intro (he.cell (hc 1 _ rfl)) (And.intro (he.cell (hc 3 _ rfl)) (And.intro ((he.frozen hgl).trans (hz (done.length * 15+1))) ((he.frozen hgl).trans (hz (done.length * 15+3)))))))
   have HOW:=Lib.hid hown
   have HOF:=Lib.hid (fun W (he:Ext wr W) q=>refOf_any ((hown.sl (S':=fun _=>True) (by decide) (fun _ _ _=>trivial) (fun _ _ _=>trivial)).ext (by decide) he) q)
   have HLEN:=Lib.hid hlen
   have HIN:=Lib.hid (fun y (hy:y ∈ post)=>hin y (by simp [hy]))
   have HST:=Lib.hid hk.out
   have HBG:=Lib.hid (And.intro hbg hgl)
   clear hown hc hz s1 s2 hk hx hlen hin hxl hbg hgl
   go_wp2_with fail
   refine (HPQ.out _).mono ?_
   rintro e w2 ⟨rfl,hx2⟩
   go_wp2_with fail
   refine (HOF.out _ hx2 _).mono ?_
   rintro e w3 ⟨b1,b2,rfl,hs1,hs2,hx3⟩
   have HX3:=Lib.hid (hx2.trans hx3)
   obtain⟨B1,d1,rfl,-,-⟩:=hs1.form
   obtain⟨B2,d2,rfl,-,-⟩:=hs2.form
   clear hs1 hs2 hx2 hx3
   obtain⟨F,hF⟩:∃ F,findP (done++x :: post) (parP x.path)=F:=⟨_,rfl⟩
   rw [hF]
   have HFF:=Lib.hid hF
   clear hF
   cases F with
   | none =>
    simp only [Option.getD_none,Option.isSome_none] at *
    have HF:=Lib.hid (show rvoidF (done++[x]) post=K by have:=HST.out;rw [rvoidF,HFF.out] at this;exact this)
    generalize mbr0=y at *
    generalize y.gone.length=g1
    generalize y.words.length=g2
    have HXA:=Lib.hid (HX3.out.trans ((Ext.refl w3).alloc (.cells #[St y.path,U8 y.status,I y.kids,I y.cut,U y.last,.slice B1 g1 d1,St y.plan.keeper,U y.plan.round,St y.plan.live,St y.plan.by_,U y.plan.cap,St y.plan.owner,U y.plan.base,.bool y.plan.done,.slice B2 g2 d2] 48)))
    unfold mbrV
    clear HST HFF k0
    go_wp2_with fail
    go_quiet (fail)
    go_wp2_with fail
    go_roundw
    case rel=>exact⟨done++[x],post,by simp,by have:=HLEN.out;simp at this ⊢;omega,HIN.out,by rw [List.append_assoc];exact HOW.out.ext (HXA.out.drewN _),Lib.hid HF.out,(HX1.out.trans HXA.out).drewN _⟩
    case measure=>simp [intOf];omega
   | some y =>
    simp only [Option.getD_some,Option.isSome_some] at *
    generalize y.gone.length=g1
    generalize y.words.length=g2
    have hxa:=(Ext.refl w3).alloc (.cells #[St y.path,U8 y.status,I y.kids,I y.cut,U y.last,.slice B1 g1 d1,St y.plan.keeper,U y.plan.round,St y.plan.live,St y.plan.by_,U y.plan.cap,St y.plan.owner,U y.plan.base,.bool y.plan.done,.slice B2 g2 d2] 48)
    have rw0:=rowNew w3 48 [St y.path,U8 y.status,I y.kids,I y.cut,U y.last,.slice B1 g1 d1,St y.plan.keeper,U y.plan.round,St y.plan.live,St y.plan.by_,U y.plan.cap,St y.plan.owner,U y.plan.base,.bool y.plan.done,.slice B2 g2 d2]
    have y1:=rw0.cell (j:=1) rfl
    have y3:=rw0.cell (j:=3) rfl
    have HXA:=Lib.hid (HX3.out.trans hxa)
    obtain⟨k0',-⟩:=HC.out _ HXA.out
    have HNO:=Lib.hid (fun (h:cutsM y x.path=false)=>show rvoidF (done++[x]) post=K by have:=HST.out;rw [rvoidF,HFF.out] at this;simp only [h] at this;exact this)
    have HYES:=Lib.hid (fun (h:cutsM y x.path=true)=>show rvoidF (done++[{ x with status:=4,cut:=1 }]) post=K by have:=HST.out;rw [rvoidF,HFF.out] at this;simp only [h] at this;exact this)
    unfold mbrV
    clear HST HFF hxa rw0 k0
    obtain⟨np,hnp⟩:∃ np,(numP x.path:Int)=np:=⟨_,rfl⟩
    rw [hnp] at HNQ
    have HNP:=Lib.hid hnp
    clear hnp
    go_wp2_with fail
    generalize w3.alloc (.cells #[St y.path,U8 y.status,I y.kids,I y.cut,U y.last,.slice B1 g1 d1,St y.plan.keeper,U y.plan.round,St y.plan.live,St y.plan.by_,U y.plan.cap,St y.plan.owner,U y.plan.base,.bool y.plan.done,.slice B2 g2 d2] 48)=W3 at *
    generalize w3.heap.size=gm at *
    by_cases h4:y.status=4
    case neg =>
     have HG:=Lib.hid (HNO.out (by unfold cutsM;rw [decide_eq_false h4];rfl))
     have p1:((y.status:Int) == 4)=false:=by rw [beq_eq_false_iff_ne];omega
     clear h4 HNO HYES
     go_quiet (fail)
     go_wp2_with fail
     go_roundw
     case rel=>exact⟨done++[x],post,by simp,by have:=HLEN.out;simp at this ⊢;omega,HIN.out,by rw [List.append_assoc];exact HOW.out.ext (HXA.out.drewN _),Lib.hid HG.out,(HX1.out.trans HXA.out).drewN _⟩
     case measure=>simp [intOf];omega
    have p1:((y.status:Int) == 4)=true:=by rw [beq_iff_eq];omega
    by_cases hc:0 < y.cut
    case neg =>
     have HG:=Lib.hid (HNO.out (by unfold cutsM;rw [decide_eq_false hc,Bool.and_false];rfl))
     have p2:decide (y.cut > 0)=false:=decide_eq_false hc
     have p3:¬ y.cut > 0:=hc
     clear h4 hc HNO HYES
     go_quiet (fail)
     go_wp2_with fail
     go_roundw
     case rel=>exact⟨done++[x],post,by simp,by have:=HLEN.out;simp at this ⊢;omega,HIN.out,by rw [List.append_assoc];exact HOW.out.ext (HXA.out.drewN _),Lib.hid HG.out,(HX1.out.trans HXA.out).drewN _⟩
     case measure=>simp [intOf];omega
    have p2:decide (y.cut > 0)=true:=decide_eq_true hc
    have p3:y.cut > 0:=hc
    have HCT:=Lib.hid (And.intro h4 hc)
    clear h4 hc
    by_cases hn:np ≥ y.cut
    case neg =>
     have HG:=Lib.hid (HNO.out (by unfold cutsM;rw [HNP.out,decide_eq_false (show ¬ y.cut<=np from hn),Bool.and_false]))
     have p4:decide (np ≥ y.cut)=false:=decide_eq_false hn
     clear HNO HYES
     go_region_held3 (fun W=>W.cell? ⟨gm,1,none⟩=some (U8 y.status)/\W.cell? ⟨gm,3,none⟩=some (I y.cut)/\W.cell? ⟨g,done.length * 15,none⟩=some (St x.path)/\Ext W3 W) (first | exact⟨y1,y3,k0',(Ext.refl _).drew⟩ | exact⟨hb1.cell ‹_/\_/\_/\Ext W3 _›.1,hb1.cell ‹_/\_/\_/\Ext W3 _›.2.1,hb1.cell ‹_/\_/\_/\Ext W3 _›.2.2.1,‹_/\_/\_/\Ext W3 _›.2.2.2.trans hb1⟩) (first | (go_at_call 81;refine (HNQ.out _).mono ?_;rintro e w6 ⟨rfl,hb1⟩))
     have hX:=(‹_/\_/\_/\Ext W3 _›).2.2.2
     have HXB:=Lib.hid (HXA.out.trans hX)
     go_wp2_with fail
     go_roundw
     case rel=>exact⟨done++[x],post,by simp,by have:=HLEN.out;simp at this ⊢;omega,HIN.out,by rw [List.append_assoc];exact HOW.out.ext HXB.out,Lib.hid HG.out,HX1.out.trans HXB.out⟩
     case measure=>simp [intOf];omega
    case pos =>
     have HG:=Lib.hid (HYES.out (by unfold cutsM;rw [decide_eq_true HCT.out.1,decide_eq_true HCT.out.2,HNP.out,decide_eq_true (show y.cut<=np from hn)];rfl))
     have p4:decide (np ≥ y.cut)=true:=decide_eq_true hn
     clear HNO HYES
     go_region_held3 (fun W=>W.cell? ⟨gm,1,none⟩=some (U8 y.status)/\W.cell? ⟨gm,3,none⟩=some (I y.cut)/\W.cell? ⟨g,done.length * 15,none⟩=some (St x.path)/\Ext W3 W) (first | exact⟨y1,y3,k0',(Ext.refl _).drew⟩ | exact⟨hb1.cell ‹_/\_/\_/\Ext W3 _›.1,hb1.cell ‹_/\_/\_/\Ext W3 _›.2.1,hb1.cell ‹_/\_/\_/\Ext W3 _›.2.2.1,‹_/\_/\_/\Ext W3 _›.2.2.2.trans hb1⟩) (first | (go_at_call 81;refine (HNQ.out _).mono ?_;rintro e w6 ⟨rfl,hb1⟩))
     have hX:=(‹_/\_/\_/\Ext W3 _›).2.2.2
     have HXB:=Lib.hid (HXA.out.trans hX)
     obtain⟨-,c1,c3,z1,z3⟩:=HC.out _ HXB.out
     go_wp2_with fail
     go_roundw
     case rel =>
      have o1:=(HOW.out.ext HXB.out).setC (x':={ x with status:=4 }) (j:=1) (val:=.int .u8 4) (fun _ h=>h) (by decide) rfl rfl (fun _ _=>rfl)
      have o2:=o1.setC (x':={ x with status:=4,cut:=1 }) (j:=3) (val:=.int .i64 1) (fun _ h=>h) (by decide) rfl rfl (fun _ _=>rfl)
      exact⟨done++[{ x with status:=4,cut:=1 }],post,by simp,by have:=HLEN.out;simp at this ⊢;omega,HIN.out,by rw [List.append_assoc];exact o2,Lib.hid HG.out,((HX1.out.trans HXB.out).set (p:=⟨g,done.length * 15+1,none⟩) HBG.out.1 _).set (p:=⟨g,done.length * 15+3,none⟩) HBG.out.1 _⟩
     case measure=>simp [intOf];omega
def rbareF (V post:List Mbr):List Mbr:=(post.filter fun m=>!forgottenM V m.path).map fun m=>{ m with words:=m.words.filter (rkeep V) }
theorem refBare_any {S:Nat->Prop} {v:Value} {l:List Mbr} {w:World} (hv:Sl mbrT w S v l) (hg:GoodL l) (hl0:l.length<=1000000) (hp:∀ x ∈ l,x.path.length < 1073741824) (hw:∀ x ∈ l,x.words.length<=1000000) :
  Calls Tryz.prog 46 #[v] w fun e w'=>∃ v',e=.returned v'/\Sl mbrT w' (fun _=>True) v' (bareM l)/\Ext w w':=by
 have HV:=Lib.hid (refVoided_any hv hg hl0 hp)
 obtain⟨A,c,rfl,-,-⟩:=hv.form
 obtain⟨K,hK⟩:∃ K,bareM l=K:=⟨_,rfl⟩
 obtain⟨V,hV⟩:∃ V,voidedM l=V:=⟨_,rfl⟩
 have HK:=Lib.hid (show rbareF V V=K by rw [<- hV,<- hK];exact rbare_is l)
 rw [hK]
 rw [hV] at HV
 have hVl:V.length=l.length:=by rw [<- hV];unfold voidedM;exact List.length_map _
 have hVm:∀ x ∈ V,mayP x.path=true/\x.path.length < 1073741824/\x.words.length<=1000000:=by
  rw [<- hV]
  intro x hx
  unfold voidedM at hx
  obtain⟨y,hy,rfl⟩:=List.mem_map.1 hx
  obtain⟨e1,-,-,-,-,e2⟩:=vset_same l y
  rw [e1,e2]
  exact⟨hg.may y hy,hp y hy,hw y hy⟩
 have HVM:=Lib.hid hVm
 have hV0:V.length<=1000000:=by omega
 clear hv hK hV hVl hVm hg hp hw
 go_enter Tryz.func46,Tryz.ntmps46
 go_wp2_with fail
 refine HV.out.mono ?_
 rintro e w1 ⟨v1,rfl,h1,hx1⟩
 obtain⟨A1,c1,rfl,-,-⟩:=h1.form
 have h1':=h1.mono (S':=fun b=>b < w1.heap.size) (by decide) (fun b hb _=>hb)
 have HAT:=Lib.hid (fun (pre post:List Mbr) (x:Mbr) (hl:V=pre++x :: post)=>mbr_at (wr:=w1) h1' (fun b _ hb=>rfl) hl)
 have HOF:=Lib.hid (fun W (he:Ext w1 W) q=>refOf_any (h1.ext (by decide) he) q)
 have HFG:=Lib.hid (fun W (he:Ext w1 W) (x:Mbr) (hx:x ∈ V)=>refForgot_any (h1.ext (by decide) he) x.path (HVM.out x hx).1 (by have:=(HVM.out x hx).2.1;omega))
 have HX1:=Lib.hid hx1
 clear h1 h1' hx1 HV
 go_wp2_with fail
 go_loopw [3,4,5,6,7,8] (fun ov iv _ _ _ _ wr=>∃ pre post Q,V=pre++post/\iv=I pre.length/\OwnL mbrT 48 wr w1.heap.size (fun b=>True/\¬ ownBlk ov b) ov Q/\Q.length<=pre.length/\Hid (Q++rbareF V post=K)/\Ext w1 wr) (fun _ i _ _ _ _ _=>V.length - (intOf i).toNat)
 case atStart=>exact⟨[],V,[],rfl,rfl,OwnL.nil _ _,Nat.le_refl _,Lib.hid HK.out,Ext.refl _⟩
 case round =>
  obtain⟨pre,post,Q,hl,rfl,hown,hq,hk,hx⟩:=hrel
  obtain⟨C,cc,rfl,-,-⟩:=hown.form
  have HO:=Lib.hid hown
  have HX:=Lib.hid hx
  have hn2:=hx.size
  cases post with
  | nil =>
   rw [List.append_nil] at hl
   subst hl
   have HF:=Lib.hid (show Q=K by rw [<- hk.out];simp [rbareF])
   clear hown hx hk
   go_wp2_with fail
   go_ret
   exact⟨_,rfl,by rw [<- HF.out];exact rowX_sl HO.out (by decide) (fun _ _=>trivial),HX1.out.trans HX.out⟩
  | cons x post =>
   obtain⟨b,o,B1,d1,B2,d2,rfl,-,hs1,hs2,hc⟩:=HAT.out pre post x hl
   have hlt:pre.length < V.length:=by rw [hl];simp
   have HL:=Lib.hid hl
   have HS:=Lib.hid (And.intro hs1 hs2)
   have HC:=Lib.hid (fun W (he:Ext w1 W)=>mbr_c15 (fun j u hj=>he.cell (hc j u hj)))
   have hxV:x ∈ V:=by rw [hl];simp
   have hxw:=(HVM.out x hxV).2.2
   have HFX:=Lib.hid (fun W (he:Ext w1 W)=>HFG.out W he x hxV)
   have HKK:=Lib.hid hk.out
   obtain⟨k0,-⟩:=HC.out _ HX.out
   clear hl hs1 hs2 hc hown hx hk hxV
   cases hb:forgottenM V x.path
   case true =>
    have HF:=Lib.hid (show Q++rbareF V post=K by rw [<- HKK.out];unfold rbareF;rw [List.filter_cons,hb];rfl)
    rw [hb] at HFX
    clear hb HKK
    go_wp2_with fail
    refine (HFX.out _ HX.out).mono ?_
    rintro e w2 ⟨rfl,hx2⟩
    go_wp2_with fail
    go_roundw
    case rel=>exact⟨pre++[x],post,Q,by rw [HL.out];simp,by simp,HO.out.ext hx2,by simp only [List.length_append,List.length_cons,List.length_nil];omega,Lib.hid HF.out,HX.out.trans hx2⟩
    case measure=>simp [intOf];omega
   case false =>
   have HF0:=Lib.hid (show Q++{ x with words:=x.words.filter (rkeep V) } :: rbareF V post=K by rw [<- HKK.out];unfold rbareF;rw [List.filter_cons,hb];rfl)
   rw [hb] at HFX
   clear hb HKK
   go_wp2_with fail
   refine (HFX.out _ HX.out).mono ?_
   rintro e w2 ⟨rfl,hx2⟩
   have HX2:=Lib.hid hx2
   clear k0 hx2
   obtain⟨k0,k1,k2,k3,k4,k5,k6,k7,k8,k9,k10,k11,k12,k13,k14⟩:=HC.out _ (HX.out.trans HX2.out)
   have hn3:=(HX.out.trans HX2.out).size
   have rM:=rowNew w2 48 [St x.path,U8 x.status,I x.kids,I x.cut,U x.last,.slice B1 x.gone.length d1,St x.plan.keeper,U x.plan.round,St x.plan.live,St x.plan.by_,U x.plan.cap,St x.plan.owner,U x.plan.base,.bool x.plan.done,.slice B2 x.words.length d2]
   have rM2:=rM.set (j:=14) (by simp) (.slice none 0 0)
   simp only [List.set_cons_succ,List.set_cons_zero] at rM2
   have xM2:=((Ext.refl w2).alloc (.cells #[St x.path,U8 x.status,I x.kids,I x.cut,U x.last,.slice B1 x.gone.length d1,St x.plan.keeper,U x.plan.round,St x.plan.live,St x.plan.by_,U x.plan.cap,St x.plan.owner,U x.plan.base,.bool x.plan.done,.slice B2 x.words.length d2] 48)).set (p:=⟨w2.heap.size,14,none⟩) (Nat.le_refl _) (.slice none 0 0)
   have HRM0:=Lib.hid (And.intro rM2 xM2)
   have HRN0:=Lib.hid (And.intro (rowNew w2 48 [St x.path,U8 x.status,I x.kids,I x.cut,U x.last,.slice B1 x.gone.length d1,St x.plan.keeper,U x.plan.round,St x.plan.live,St x.plan.by_,U x.plan.cap,St x.plan.owner,U x.plan.base,.bool x.plan.done,.slice none 0 0]) ((Ext.refl w2).alloc (.cells #[St x.path,U8 x.status,I x.kids,I x.cut,U x.last,.slice B1 x.gone.length d1,St x.plan.keeper,U x.plan.round,St x.plan.live,St x.plan.by_,U x.plan.cap,St x.plan.owner,U x.plan.base,.bool x.plan.done,.slice none 0 0] 48)))
   have hgm:w1.heap.size<=w2.heap.size:=hn3
   clear rM rM2 xM2
   go_wp2_with fail
   generalize hgmE:w2.heap.size=gm at *
   clear k0 k1 k2 k3 k4 k5 k6 k7 k8 k9 k10 k11 k12 k13 k14
   go_loopw [6,7,8] (fun kv _ _ W=>∃ pw qw Ws vw,x.words=pw++qw/\kv=I pw.length/\RowIs W gm 48 [St x.path,U8 x.status,I x.kids,I x.cut,U x.last,.slice B1 x.gone.length d1,St x.plan.keeper,U x.plan.round,St x.plan.live,St x.plan.by_,U x.plan.cap,St x.plan.owner,U x.plan.base,.bool x.plan.done,vw] []/\OwnL wordT 71 W (gm+1) (fun _=>False) vw Ws/\Ws.length<=pw.length/\Hid (Ws++qw.filter (rkeep V)=x.words.filter (rkeep V))/\Ext w2 W) (fun k _ _ _=>x.words.length - (intOf k).toNat)
   case atStart=>first | exact⟨[],x.words,[],.slice none 0 0,rfl,rfl,HRM0.out.1,OwnL.nil _ _,Nat.le_refl _,Lib.hid (by rw [List.nil_append]),HRM0.out.2⟩ | exact⟨[],x.words,[],.slice none 0 0,rfl,rfl,HRN0.out.1,OwnL.nil _ _,Nat.le_refl _,Lib.hid (by rw [List.nil_append]),HRN0.out.2⟩
   case round =>
    obtain⟨pw,qw,Ws,vw,hwl,rfl,hrm,hows,hwq,hwk,hxW⟩:=hrel
    obtain⟨D,dd,rfl,-,-⟩:=hows.form
    have HRM:=Lib.hid hrm
    have HOWS:=Lib.hid hows
    have HX2W:=Lib.hid hxW
    have HXW:=Lib.hid ((HX.out.trans HX2.out).trans hxW)
    obtain⟨k0,k1,k2,k3,k4,k5,k6,k7,k8,k9,k10,k11,k12,k13,k14⟩:=HC.out _ HXW.out
    have hnW:=hxW.size
    cases qw with
    | nil =>
     rw [List.append_nil] at hwl
     have HWF:=Lib.hid (show Ws=x.words.filter (rkeep V) by rw [<- hwk.out];simp)
     have hge:¬ (pw.length:Int) < x.words.length:=by rw [hwl];omega
     clear hwl
     obtain⟨j0,j1,j2,j3,j4,j5,j6,j7,j8,j9,j10,j11,j12,j13,j14⟩:=hrm.c15
     have HSW:=Lib.hid (show ∀ o,Sl wordT (wr.alloc o) (fun b=>True/\¬ ownBlk (.slice C Q.length cc) b) (.slice D Ws.length dd) Ws from fun o=>(hows.sl (S':=fun b=>True/\¬ ownBlk (.slice C Q.length cc) b) (by decide) (fun b hb h=>h.elim) (fun b hb _=>⟨trivial,fun ho=>by have:=(HO.out.base_le ho).2;have:=HX2.out.size;omega⟩)).ext (by decide) ((Ext.refl wr).alloc o))
     have HSG:=Lib.hid (fun o=>(HS.out.1.mono (S':=fun b=>True/\¬ ownBlk (.slice C Q.length cc) b) (by decide) (fun b hb _=>⟨trivial,fun ho=>by have:=(HO.out.base_le ho).1;omega⟩)).ext (by decide) (HXW.out.alloc o))
     have HEW:=Lib.hid (HX2.out.trans hxW)
     clear hrm hows hxW hwk k0 k1 k2 k3 k4 k5 k6 k7 k8 k9 k10 k11 k12 k13
     go_wp2_with (at_builtin;refine wpList_append_X (T:=mbrT) (w0:=w1) rfl (.tmp 79) (.tmp 81) 22 rfl w1.heap.size 48 192 (mbrV mbr0 (.slice none 0 0) (.slice none 0 0)) Tryz.underlying22 info_mbr rfl (by decide) (fun _=>True) _ Q rfl (HO.out.ext (HEW.out.alloc _)) _ 1 { x with words:=Ws } [St x.path,U8 x.status,I x.kids,I x.cut,U x.last,.slice B1 x.gone.length d1,St x.plan.keeper,U x.plan.round,St x.plan.live,St x.plan.by_,U x.plan.cap,St x.plan.owner,U x.plan.base,.bool x.plan.done,.slice D Ws.length dd] rfl (Src.new rfl (mbrC_one rfl rfl)) ⟨_,_,rfl,HSG.out _,HSW.out _⟩ (by omega) (by omega) (by rw [World.size_alloc];omega) (HXW.out.alloc _) (Nat.le_refl _) ?_;intro v3 w3 hown3 hx3 hgr3)
     go_roundw
     case rel=>exact⟨pre++[x],post,Q++[{ x with words:=Ws }],by rw [HL.out];simp,by simp,hown3,by simp only [List.length_append,List.length_cons,List.length_nil];omega,Lib.hid (by rw [<- HF0.out,HWF.out];simp),hx3⟩
     case measure=>simp [intOf];omega
    | cons z qw =>
     obtain⟨bw,ow,rfl,z0,-⟩:=word_at HS.out.2 HXW.out hwl
     have HZ:=Lib.hid (fun W' (he:Ext w1 W')=>show W'.cell? ⟨bw,ow+pw.length * 7,none⟩=some (St z.of)/\W'.cell? ⟨bw,ow+pw.length * 7+1,none⟩=some (U z.has)/\W'.cell? ⟨bw,ow+pw.length * 7+2,none⟩=some (St z.keeper)/\W'.cell? ⟨bw,ow+pw.length * 7+3,none⟩=some (U z.round)/\W'.cell? ⟨bw,ow+pw.length * 7+4,none⟩=some (.bool z.agreed)/\W'.cell? ⟨bw,ow+pw.length * 7+5,none⟩=some (U z.cap)/\W'.cell? ⟨bw,ow+pw.length * 7+6,none⟩=some (.bool z.pruned) by
      obtain⟨b',o',he',h⟩:=word_at HS.out.2 he hwl
      injection he' with he'
      injection he' with h1 h2
      subst h1
      subst h2
      exact h)
     have hltw:pw.length < x.words.length:=by rw [hwl];simp
     have HXL:=Lib.hid hwl
     have HWK:=Lib.hid hwk.out
     have HPO:=Lib.hid (HOF.out _ HXW.out z.of)
     clear hrm hows hxW hwk hwl k0 k1 k2 k3 k4 k5 k6 k7 k8 k9 k10 k11 k12 k13
     go_wp2_with fail
     refine HPO.out.mono ?_
     rintro e w4 ⟨a1,a2,rfl,hs1,hs2,hx4⟩
     obtain⟨E1,e1,rfl,-,-⟩:=hs1.form
     obtain⟨E2,e2,rfl,-,-⟩:=hs2.form
     have HX4:=Lib.hid hx4
     clear hs1 hs2 hx4 z0 k14
     obtain⟨F,hF⟩:∃ F,findP V z.of=F:=⟨_,rfl⟩
     rw [hF]
     have HFF:=Lib.hid hF
     clear hF
     have HKP:=Lib.hid (fun (h:rkeep V z=false)=>show Ws++qw.filter (rkeep V)=x.words.filter (rkeep V) by have:=HWK.out;rw [List.filter_cons,h] at this;exact this)
     have HKQ:=Lib.hid (fun (h:rkeep V z=true)=>show Ws++[z]++qw.filter (rkeep V)=x.words.filter (rkeep V) by have:=HWK.out;rw [List.filter_cons,h] at this;rw [<- this];simp)
     clear HWK
     cases F with
     | none =>
      simp only [Option.getD_none,Option.isSome_none] at *
      have HF:=Lib.hid (HKP.out (by unfold rkeep;rw [HFF.out]))
      generalize mbr0=y at *
      generalize y.gone.length=g1
      generalize y.words.length=g2
      have HXF:=Lib.hid (HX4.out.trans ((Ext.refl w4).alloc (.cells #[St y.path,U8 y.status,I y.kids,I y.cut,U y.last,.slice E1 g1 e1,St y.plan.keeper,U y.plan.round,St y.plan.live,St y.plan.by_,U y.plan.cap,St y.plan.owner,U y.plan.base,.bool y.plan.done,.slice E2 g2 e2] 48)))
      unfold mbrV
      clear HKP HKQ HFF
      go_wp2_with fail
      go_roundw
      case rel=>exact⟨pw++[z],qw,Ws,.slice D Ws.length dd,by rw [HXL.out];simp,by simp,HRM.out.ext HXF.out,HOWS.out.ext HXF.out,by simp only [List.length_append,List.length_cons,List.length_nil];omega,Lib.hid HF.out,HX2W.out.trans HXF.out⟩
      case measure=>simp [intOf];omega
     | some y =>
      simp only [Option.getD_some,Option.isSome_some] at *
      have hyV:y ∈ V:=findP_mem HFF.out
      have HFY:=Lib.hid (fun W (he:Ext w1 W)=>HFG.out W he y hyV)
      generalize y.gone.length=g1
      generalize y.words.length=g2
      have rw0:=rowNew w4 48 [St y.path,U8 y.status,I y.kids,I y.cut,U y.last,.slice E1 g1 e1,St y.plan.keeper,U y.plan.round,St y.plan.live,St y.plan.by_,U y.plan.cap,St y.plan.owner,U y.plan.base,.bool y.plan.done,.slice E2 g2 e2]
      have hxa:=(Ext.refl w4).alloc (.cells #[St y.path,U8 y.status,I y.kids,I y.cut,U y.last,.slice E1 g1 e1,St y.plan.keeper,U y.plan.round,St y.plan.live,St y.plan.by_,U y.plan.cap,St y.plan.owner,U y.plan.base,.bool y.plan.done,.slice E2 g2 e2] 48)
      have y0:=rw0.cell (j:=0) rfl
      have y1:=rw0.cell (j:=1) rfl
      have HX5:=Lib.hid (HX4.out.trans hxa)
      unfold mbrV
      clear rw0 hxa hyV
      go_upto_region 13 with fail
      generalize w4.alloc (.cells #[St y.path,U8 y.status,I y.kids,I y.cut,U y.last,.slice E1 g1 e1,St y.plan.keeper,U y.plan.round,St y.plan.live,St y.plan.by_,U y.plan.cap,St y.plan.owner,U y.plan.base,.bool y.plan.done,.slice E2 g2 e2] 48)=W5 at *
      generalize w4.heap.size=gy at *
      by_cases h4:y.status=4
      case neg =>
       have HF:=Lib.hid (HKP.out (by unfold rkeep;rw [HFF.out];simp only;rw [decide_eq_false h4];rfl))
       have p1:((y.status:Int) == 4)=false:=by rw [beq_eq_false_iff_ne];omega
       have HXF:=Lib.hid HX5.out
       clear HKP HKQ HFF h4
       go_wp2_with fail
       go_roundw
       case rel=>exact⟨pw++[z],qw,Ws,.slice D Ws.length dd,by rw [HXL.out];simp,by simp,HRM.out.ext HXF.out,HOWS.out.ext HXF.out,by simp only [List.length_append,List.length_cons,List.length_nil];omega,Lib.hid HF.out,HX2W.out.trans HXF.out⟩
       case measure=>simp [intOf];omega
      have p1:((y.status:Int) == 4)=true:=by rw [beq_iff_eq];omega
      have HH4:=Lib.hid h4
      clear h4
      cases hfb:forgottenM V y.path
      case true =>
       have HF:=Lib.hid (HKP.out (by unfold rkeep;rw [HFF.out];simp only;rw [hfb];simp))
       rw [hfb] at HFY
       clear HKP HKQ HFF hfb
       go_wp2_with fail
       refine (HFY.out _ (HXW.out.trans HX5.out)).mono ?_
       rintro e w6 ⟨rfl,hx6⟩
       have HXF:=Lib.hid (HX5.out.trans hx6)
       go_wp2_with fail
       go_roundw
       case rel=>exact⟨pw++[z],qw,Ws,.slice D Ws.length dd,by rw [HXL.out];simp,by simp,HRM.out.ext HXF.out,HOWS.out.ext HXF.out,by simp only [List.length_append,List.length_cons,List.length_nil];omega,Lib.hid HF.out,HX2W.out.trans HXF.out⟩
       case measure=>simp [intOf];omega
      case false =>
      have HF:=Lib.hid (HKQ.out (by unfold rkeep;rw [HFF.out];simp only;rw [hfb,decide_eq_true HH4.out];rfl))
      rw [hfb] at HFY
      clear HKP HKQ HFF hfb
      go_wp2_with fail
      refine (HFY.out _ (HXW.out.trans HX5.out)).mono ?_
      rintro e w6 ⟨rfl,hx6⟩
      have HXF:=Lib.hid (HX5.out.trans hx6)
      clear hx6 y0 y1 p1
      go_upto_region 14 with fail
      refine wp_region_facts ((fun v _=>v=.pointer (some ⟨gm,14,none⟩)) :: (fun v _=>v=.slice D Ws.length dd) :: (fun v _=>v=.slice (some ⟨b,o,none⟩) V.length c1) :: (fun v _=>v=I pre.length) :: (fun v _=>v=.pointer (some ⟨b,o+pre.length * 15,none⟩)) :: (fun v _=>v=.pointer (some ⟨b,o+pre.length * 15+14,none⟩)) :: (fun v _=>v=.slice (some ⟨bw,ow,none⟩) x.words.length d2) :: (fun v _=>v=I pw.length) :: (fun v _=>v=.pointer (some ⟨bw,ow+pw.length * 7,none⟩)) :: (fun v _=>v=.agg #[St z.of,U z.has,St z.keeper,U z.round,.bool z.agreed,U z.cap,.bool z.pruned]) :: (fun v W=>∃ g,v=.slice (some ⟨g,0,none⟩) 1 1/\RowIs W g 71 [St z.of,U z.has,St z.keeper,U z.round,.bool z.agreed,U z.cap,.bool z.pruned] []) :: []) rfl (by kernel_rfl) ?hR ?hstep ?hend
      case hR =>
       simp only [List.mem_cons,List.not_mem_nil,or_false,forall_eq_or_imp,forall_eq]
       exact⟨fun v _ _ h _=>h,fun v _ _ h _=>h,fun v _ _ h _=>h,fun v _ _ h _=>h,fun v _ _ h _=>h,fun v _ _ h _=>h,fun v _ _ h _=>h,fun v _ _ h _=>h,fun v _ _ h _=>h,fun v _ _ h _=>h,fun v _ _ h he=>by obtain⟨g,h1,h2⟩:=h;exact⟨g,h1,h2.ext he⟩⟩
      case hstep =>
       simp only [List.length_cons,List.length_nil,Nat.reduceAdd,List.take_succ_cons,List.take_zero,stepsAll,and_true]
       refine ⟨?_,?_,?_,?_,?_,?_,?_,?_,?_,?_,?_⟩
       ·intro z' V' he f
        have h0:z' 5=.pointer (some ⟨gm,0,none⟩):=f.1
        clear f
        go_wp
        exact stepQ_ok rfl (Ext.refl _)
       ·intro z' V' he f
        have h0:z' 66=.pointer (some ⟨gm,14,none⟩):=f.1
        clear f
        have m14:=(HRM.out.ext (HXF.out.trans he)).cell (j:=14) rfl
        go_wp
        exact stepQ_ok rfl (Ext.refl _)
       ·intro z' V' he f
        have h0:z' 0=.slice (some ⟨b,o,none⟩) V.length c1:=f.1
        clear f
        go_wp
        exact stepQ_ok rfl (Ext.refl _)
       ·intro z' V' he f
        have h0:z' 4=I pre.length:=f.1
        clear f
        go_wp
        exact stepQ_ok rfl (Ext.refl _)
       ·intro z' V' he f
        have h0:z' 68=.slice (some ⟨b,o,none⟩) V.length c1:=f.1
        have h1:z' 69=I pre.length:=f.2.1
        clear f
        go_wp
        exact stepQ_ok rfl (Ext.refl _)
       ·intro z' V' he f
        have h0:z' 70=.pointer (some ⟨b,o+pre.length * 15,none⟩):=f.1
        clear f
        go_wp
        exact stepQ_ok rfl (Ext.refl _)
       ·intro z' V' he f
        have h0:z' 71=.pointer (some ⟨b,o+pre.length * 15+14,none⟩):=f.1
        clear f
        obtain⟨k0,k1,k2,k3,k4,k5,k6,k7,k8,k9,k10,k11,k12,k13,k14⟩:=HC.out _ ((HXW.out.trans HXF.out).trans he)
        clear k0 k1 k2 k3 k4 k5 k6 k7 k8 k9 k10 k11 k12 k13
        go_wp
        exact stepQ_ok rfl (Ext.refl _)
       ·intro z' V' he f
        have h0:z' 6=I pw.length:=f.1
        clear f
        go_wp
        exact stepQ_ok rfl (Ext.refl _)
       ·intro z' V' he f
        have h0:z' 72=.slice (some ⟨bw,ow,none⟩) x.words.length d2:=f.1
        have h1:z' 73=I pw.length:=f.2.1
        clear f
        go_wp
        exact stepQ_ok rfl (Ext.refl _)
       ·intro z' V' he f
        have h0:z' 74=.pointer (some ⟨bw,ow+pw.length * 7,none⟩):=f.1
        clear f
        obtain⟨z0,z1,z2,z3,z4,z5,z6⟩:=HZ.out _ ((HXW.out.trans HXF.out).trans he)
        go_wp
        exact stepQ_ok rfl (Ext.refl _)
       ·intro z' V' he f
        have h0:z' 75=.agg #[St z.of,U z.has,St z.keeper,U z.round,.bool z.agreed,U z.cap,.bool z.pruned]:=f.1
        clear f
        go_wp
        exact stepQ_ok ⟨_,rfl,rowNew V' 71 [St z.of,U z.has,St z.keeper,U z.round,.bool z.agreed,U z.cap,.bool z.pruned]⟩ ((Ext.refl _).alloc _)
      case hend =>
      intro z' V' he f
      simp only [List.take_succ_cons,List.take_zero,List.drop_succ_cons,List.drop_zero,List.filterMap_cons,List.filterMap_nil,List.length_cons,List.length_nil,Nat.reduceAdd] at f ⊢
      have h66:z' 66=.pointer (some ⟨gm,14,none⟩):=f.1
      have h67:z' 67=.slice D Ws.length dd:=f.2.1
      obtain⟨gw,h76,hrw⟩:∃ g,z' 76=.slice (some ⟨g,0,none⟩) 1 1/\RowIs V' g 71 [St z.of,U z.has,St z.keeper,U z.round,.bool z.agreed,U z.cap,.bool z.pruned] []:=f.2.2.2.2.2.2.2.2.2.2.1
      clear f
      simp only [putAll]
      go_simp
      have hXV:=HXF.out.trans he
      have hn5:=hXV.size
      have hgW:=HRM.out.lt
      go_wp2_with (at_builtin;refine wpList_append_OwnL rfl (.tmp 67) (.tmp 76) 46 rfl wordT (gm+1) 71 72 (wordV ⟨[],0,[],0,false,0,false⟩) Tryz.underlying46 info_word rfl (by decide) (fun _=>False) (fun _ h=>h.elim) _ Ws rfl (HOWS.out.ext hXV) _ 1 z [St z.of,U z.has,St z.keeper,U z.round,.bool z.agreed,U z.cap,.bool z.pruned] rfl (Src.one (by have:=hrw;unfold RowIs at this;simpa using this) rfl (by intro u hu;simp at hu;rcases hu with rfl | rfl | rfl | rfl | rfl | rfl | rfl <;> rfl)) rfl (by omega) (by omega) (by omega) ?_;intro v3 w3 hown3 hgr3;have hrm3:=(HRM.out.ext hXV).keep (hgr3.same gm (by omega) (fun ho=>by have:=((HOWS.out.ext hXV).base_le ho).1;omega));have m14:=hrm3.cell (j:=14) rfl;have f14:=hrm3.frozen 14;obtain⟨D3,dd3,hv3,-,-⟩:=hown3.form;rw [show (Ws++[z]).length=Ws.length+1 by simp] at hv3;subst hv3)
      go_roundw
      case rel =>
       have r14:=hrm3.set (j:=14) (by simp) (.slice D3 (Ws.length+1) dd3)
       simp only [List.set_cons_succ,List.set_cons_zero] at r14
       exact⟨pw++[z],qw,Ws++[z],_,by rw [HXL.out];simp,by simp,r14,hown3.keep (fun b hb _=>hb.elim) (fun b hb _=>Below.heap_setCell _ _ _ b (by show b ≠ gm;have:=(hown3.base_le hb).1;omega)),by simp only [List.length_append,List.length_cons,List.length_nil];omega,Lib.hid HF.out,(Ext.grewL (HX2W.out.trans hXV) hgr3 (HOWS.out.ext hXV) (by omega)).set (p:=⟨gm,14,none⟩) (by show w2.heap.size<=gm;omega) _⟩
      case measure=>simp [intOf];omega
theorem said_is (x q:Word):(.agg #[St x.of,.int .u64 (max (x.has:Int) q.has),St (if firstL [higherM x.keeper q.keeper,cmpN x.round q.round,cmpPath x.keeper q.keeper] < 0 then q.keeper else x.keeper),U (if firstL [higherM x.keeper q.keeper,cmpN x.round q.round,cmpPath x.keeper q.keeper] < 0 then q.round else x.round),.bool (x.agreed || q.agreed),.int .u64 (max (x.cap:Int) q.cap),.bool (x.pruned || q.pruned)]:Value)=wordV (saidM x q):=by
 have e1:(max (x.has:Int) q.has)=((max x.has q.has:Nat):Int):=by omega
 have e2:(max (x.cap:Int) q.cap)=((max x.cap q.cap:Nat):Int):=by omega
 rw [e1,e2]
 rfl
theorem rwordM_any (x q:Word) (hx:x.keeper.length < 1073741824) (hy:q.keeper.length < 1073741824) (w:World) :
  Calls Tryz.prog 154 #[.agg #[St x.of,U x.has,St x.keeper,U x.round,.bool x.agreed,U x.cap,.bool x.pruned],.agg #[St q.of,U q.has,St q.keeper,U q.round,.bool q.agreed,U q.cap,.bool q.pruned]] w fun e w'=>e=.returned (.agg #[St (saidM x q).of,U (saidM x q).has,St (saidM x q).keeper,U (saidM x q).round,.bool (saidM x q).agreed,U (saidM x q).cap,.bool (saidM x q).pruned])/\Ext w w':=by
 refine (rword_any x.of x.keeper q.of q.keeper x.has x.round x.cap q.has q.round q.cap x.agreed x.pruned q.agreed q.pruned hx hy w).mono ?_
 rintro e w' ⟨rfl,h⟩
 exact⟨congrArg Ending.returned (said_is x q),h⟩
theorem refPutW_any {S:Nat->Prop} {v:Value} {l:List Word} {q:Word} {w:World} (hv:Sl wordT w S v l) (hl0:l.length<=1000000) (hp:∀ x ∈ l,x.of.length < 1073741824/\x.keeper.length < 1073741824) (hq1:q.of.length < 1073741824) (hq2:q.keeper.length < 1073741824) :
  Calls Tryz.prog 114 #[v,wordV q] w fun e w'=>∃ v',e=.returned v'/\Sl wordT w' (fun b=>w.heap.size<=b) v' (rpw l q)/\Ext w w':=by
 have rB:=rowNew w 71 [St q.of,U q.has,St q.keeper,U q.round,.bool q.agreed,U q.cap,.bool q.pruned]
 have xB:=(Ext.refl w).alloc (.cells #[St q.of,U q.has,St q.keeper,U q.round,.bool q.agreed,U q.cap,.bool q.pruned] 71)
 obtain⟨w1,hW1⟩:∃ w1,w.alloc (.cells #[St q.of,U q.has,St q.keeper,U q.round,.bool q.agreed,U q.cap,.bool q.pruned] 71)=w1:=⟨_,rfl⟩
 have hszW:w.heap.size < w1.heap.size:=by rw [<- hW1];simp
 have rB:RowIs w1 w.heap.size 71 [St q.of,U q.has,St q.keeper,U q.round,.bool q.agreed,U q.cap,.bool q.pruned] []:=by rw [<- hW1];exact rB
 rw [hW1] at xB
 have hv1:=hv.ext (by decide) xB
 obtain⟨P0,c,rfl,-,-⟩:=hv.form
 have HAT:=Lib.hid (fun (pre post:List Word) (x:Word) W (he:Ext w1 W) (hl:l=pre++x :: post)=>word_at hv1 he hl)
 have HCM:=Lib.hid (fun (x:Word) (hx:x ∈ l) W=>refCmp_any q.of x.of hq1 (hp x hx).1 W)
 have HSD:=Lib.hid (fun (x:Word) (hx:x ∈ l) W=>rwordM_any x q (hp x hx).2 hq2 W)
 have HM:=Lib.hid (fun W (he:Ext w1 W)=>p7 (rB.ext he))
 have HXB:=Lib.hid xB
 obtain⟨K,hK⟩:∃ K,rpw l q=K:=⟨_,rfl⟩
 rw [hK]
 have HK:=Lib.hid hK
 clear hv rB xB hv1 hK hp hq1 hq2
 unfold wordV
 go_enter Tryz.func114,Tryz.ntmps114
 go_wp2_with fail
 try rw [hW1]
 clear hW1
 obtain⟨gm,hgmE⟩:∃ gm,w.heap.size=gm:=⟨_,rfl⟩
 have HGE:=Lib.hid hgmE
 rw [hgmE] at hszW HM ⊢
 clear hgmE
 go_loopw [5,6,7] (fun ov dv iv wr=>∃ pre post Q d,l=pre++post/\iv=I pre.length/\dv=.bool d/\OwnL wordT 71 wr w1.heap.size (fun b=>b < w1.heap.size) ov Q/\Q.length<=2 * pre.length/\Hid (Q++rpwF q d post=K)/\Ext w1 wr) (fun _ _ i _=>l.length - (intOf i).toNat)
 case atStart=>exact⟨[],l,[],false,rfl,rfl,rfl,OwnL.nil _ _,by simp,Lib.hid (by rw [List.nil_append];exact HK.out),Ext.refl _⟩
 case round =>
  obtain⟨pre,post,Q,d,hl,rfl,rfl,hown,hq,hk,hx⟩:=hrel
  obtain⟨C,cc,rfl,-,-⟩:=hown.form
  have HO:=Lib.hid hown
  have HX:=Lib.hid hx
  have hn2:=hx.size
  cases post with
  | nil =>
   rw [List.append_nil] at hl
   subst hl
   cases d with
   | true =>
    have HF:=Lib.hid (show Q=K by rw [<- hk.out];simp [rpwF])
    clear hown hx hk
    go_wp2_with fail
    go_ret
    exact⟨_,rfl,by rw [<- HF.out];exact (show OwnL wordT 71 _ _ (fun _=>False) _ _ from OwnL.flat_iff.2 (OwnL.flat_iff.1 HO.out)).sl (by decide) (fun _ _ h=>h.elim) (fun b hb _=>by have:=HGE.out;omega),HXB.out.trans HX.out⟩
   | false =>
    have HF:=Lib.hid (show Q++[q]=K by rw [<- hk.out];simp [rpwF])
    clear hk
    obtain⟨j0,j1,j2,j3,j4,j5,j6⟩:=HM.out _ HX.out
    clear hown hx
    go_wp2_with (at_builtin;refine wpList_append_OwnL rfl (.tmp 53) (.tmp 55) 46 rfl wordT w1.heap.size 71 72 (wordV ⟨[],0,[],0,false,0,false⟩) Tryz.underlying46 info_word rfl (by decide) (fun b=>b < w1.heap.size) (fun _ h=>h) _ Q rfl (HO.out.ext ((Ext.refl _).alloc _)) _ 1 q [St q.of,U q.has,St q.keeper,U q.round,.bool q.agreed,U q.cap,.bool q.pruned] rfl (Src.new rfl (by intro u hu;simp at hu;rcases hu with rfl | rfl | rfl | rfl | rfl | rfl | rfl <;> rfl)) rfl (by (try simp only [List.length_append,List.length_cons,List.length_nil]);omega) (by (try simp only [List.length_append,List.length_cons,List.length_nil]);omega) (by first | omega | (rw [World.size_alloc];omega)) ?_;intro v2 w2 hown2 hgr2)
    go_ret
    exact⟨_,rfl,by rw [<- HF.out];exact (show OwnL wordT 71 _ _ (fun _=>False) _ _ from OwnL.flat_iff.2 (OwnL.flat_iff.1 hown2)).sl (by decide) (fun _ _ h=>h.elim) (fun b hb _=>by have:=HGE.out;omega),HXB.out.trans (Ext.grewL (HX.out.alloc _) hgr2 (HO.out.ext ((Ext.refl _).alloc _)) (Nat.le_refl _))⟩
  | cons x post =>
   obtain⟨b,o,rfl,k0,k1,k2,k3,k4,k5,k6⟩:=HAT.out pre post x _ HX.out hl
   have hlt:pre.length < l.length:=by rw [hl];simp
   have HL:=Lib.hid hl
   have HC:=Lib.hid (fun W (he:Ext w1 W)=>show W.cell? ⟨b,o+pre.length * 7,none⟩=some (St x.of)/\W.cell? ⟨b,o+pre.length * 7+1,none⟩=some (U x.has)/\W.cell? ⟨b,o+pre.length * 7+2,none⟩=some (St x.keeper)/\W.cell? ⟨b,o+pre.length * 7+3,none⟩=some (U x.round)/\W.cell? ⟨b,o+pre.length * 7+4,none⟩=some (.bool x.agreed)/\W.cell? ⟨b,o+pre.length * 7+5,none⟩=some (U x.cap)/\W.cell? ⟨b,o+pre.length * 7+6,none⟩=some (.bool x.pruned) by
    obtain⟨b',o',he',h⟩:=HAT.out pre post x W he hl
    injection he' with he'
    injection he' with h1 h2
    subst h1
    subst h2
    exact h)
   have HCX:=Lib.hid (HCM.out x (by rw [hl];simp))
   have HSX:=Lib.hid (HSD.out x (by rw [hl];simp))
   have HKK:=Lib.hid hk.out
   obtain⟨Wd,hWd⟩:∃ Wd,wr.drew=Wd:=⟨_,rfl⟩
   have hdx:Ext wr Wd:=hWd ▸ (Ext.refl _).drew
   have HDX:=Lib.hid hdx
   have HWD:=Lib.hid hWd
   clear k0 k1 k2 k3 k4 k5 k6
   obtain⟨k0,-⟩:=HC.out _ (HX.out.trans HDX.out)
   obtain⟨j0,-⟩:=HM.out _ (HX.out.trans HDX.out)
   clear hl hown hx hk hdx hWd
   obtain⟨cz,hcz⟩:∃ cz,cmpPath q.of x.of=cz:=⟨_,rfl⟩
   rw [hcz] at HCX
   have HCZ:=Lib.hid hcz
   clear hcz
   go_wp2_with fail
   refine wp_region_still_tail 7 (by kernel_rfl) (by kernel_rfl) ?_
   simp only [List.take_succ_cons,List.take_zero,List.drop_succ_cons,List.drop_zero]
   change wpStill _ _ (wr).drew (fun a'=>wpList _ _ _ _ a' (wr).drew) _ _
   rw [HWD.out]
   generalize hA:Act.mk _ _=A0;repeat (refine wpStill_step (fun K2 hK2=>?_);subst hA;go_simp;generalize hA:Act.mk _ _=A0;refine hK2 A0 ?_;clear hK2 K2)
   refine wpStill_nil ?_
   subst hA
   go_wp2_with fail
   refine (HCX.out _).mono ?_
   rintro e w4 ⟨rfl,hx4⟩
   have HXV:=Lib.hid (HDX.out.trans hx4)
   have hn4:=(HX.out.trans HXV.out).size
   clear k0 j0 hx4
   by_cases hz:cz=0
   case pos =>
    have hqx:q.of=x.of:=cmpPath_eq.1 (HCZ.out.trans hz)
    have HF:=Lib.hid (show Q++[saidM x q]++rpwF q true post=K by rw [<- HKK.out,rpwF,if_pos hqx];simp)
    have e0:(cz == 0)=true:=by simpa using hz
    clear HKK hqx HWD
    obtain⟨Wd2,hWd2⟩:∃ Wd2,w4.drew=Wd2:=⟨_,rfl⟩
    go_wp2_with fail
    refine wp_region_facts ((fun v _=>v=.slice C Q.length cc) :: (fun v _=>v=.slice (some ⟨b,o,none⟩) l.length c) :: (fun v _=>v=I pre.length) :: (fun v _=>v=.pointer (some ⟨b,o+pre.length * 7,none⟩)) :: (fun v _=>v=.agg #[St x.of,U x.has,St x.keeper,U x.round,.bool x.agreed,U x.cap,.bool x.pruned]) :: (fun v _=>v=.agg #[St q.of,U q.has,St q.keeper,U q.round,.bool q.agreed,U q.cap,.bool q.pruned]) :: (fun v _=>v=.agg #[St (saidM x q).of,U (saidM x q).has,St (saidM x q).keeper,U (saidM x q).round,.bool (saidM x q).agreed,U (saidM x q).cap,.bool (saidM x q).pruned]) :: (fun v W=>∃ g,v=.slice (some ⟨g,0,none⟩) 1 1/\RowIs W g 71 [St (saidM x q).of,U (saidM x q).has,St (saidM x q).keeper,U (saidM x q).round,.bool (saidM x q).agreed,U (saidM x q).cap,.bool (saidM x q).pruned] []) :: []) rfl (by kernel_rfl) ?hR ?hstep ?hend
    case hR =>
     simp only [List.mem_cons,List.not_mem_nil,or_false,forall_eq_or_imp,forall_eq]
     exact⟨fun v _ _ h _=>h,fun v _ _ h _=>h,fun v _ _ h _=>h,fun v _ _ h _=>h,fun v _ _ h _=>h,fun v _ _ h _=>h,fun v _ _ h _=>h,fun v _ _ h he=>by obtain⟨g,h1,h2⟩:=h;exact⟨g,h1,h2.ext he⟩⟩
    case hstep =>
     simp only [List.length_cons,List.length_nil,Nat.reduceAdd,List.take_succ_cons,List.take_zero,stepsAll,and_true]
     refine ⟨?_,?_,?_,?_,?_,?_,?_,?_⟩
     ·intro z V he f
      have h0:z 5=.slice C Q.length cc:=f.1
      clear f
      go_wp
      exact stepQ_ok rfl (Ext.refl _)
     ·intro z V he f
      have h0:z 0=.slice (some ⟨b,o,none⟩) l.length c:=f.1
      clear f
      go_wp
      exact stepQ_ok rfl (Ext.refl _)
     ·intro z V he f
      have h0:z 7=I pre.length:=f.1
      clear f
      go_wp
      exact stepQ_ok rfl (Ext.refl _)
     ·intro z V he f
      have h0:z 26=.slice (some ⟨b,o,none⟩) l.length c:=f.1
      have h1:z 27=I pre.length:=f.2.1
      clear f
      go_wp
      exact stepQ_ok rfl (Ext.refl _)
     ·intro z V he f
      have h0:z 28=.pointer (some ⟨b,o+pre.length * 7,none⟩):=f.1
      obtain⟨k0,k1,k2,k3,k4,k5,k6⟩:=HC.out _ ((HX.out.trans HXV.out).trans he)
      clear f
      go_wp
      exact stepQ_ok rfl (Ext.refl _)
     ·intro z V he f
      have h0:z 3=.pointer (some ⟨gm,0,none⟩):=f.1
      obtain⟨j0,j1,j2,j3,j4,j5,j6⟩:=HM.out _ ((HX.out.trans HXV.out).trans he)
      clear f
      go_wp
      exact stepQ_ok rfl (Ext.refl _)
     ·intro z V he f
      have h0:z 29=.agg #[St x.of,U x.has,St x.keeper,U x.round,.bool x.agreed,U x.cap,.bool x.pruned]:=f.1
      have h1:z 30=.agg #[St q.of,U q.has,St q.keeper,U q.round,.bool q.agreed,U q.cap,.bool q.pruned]:=f.2.1
      clear f
      go_wp
      refine (HSX.out _).mono ?_
      rintro e w6 ⟨rfl,hb1⟩
      dsimp only
      go_wp
      refine stepQ_ok (v:=.agg #[St (saidM x q).of,U (saidM x q).has,St (saidM x q).keeper,U (saidM x q).round,.bool (saidM x q).agreed,U (saidM x q).cap,.bool (saidM x q).pruned]) ?_ hb1
      rfl
     ·intro z V he f
      have h0:z 31=.agg #[St (saidM x q).of,U (saidM x q).has,St (saidM x q).keeper,U (saidM x q).round,.bool (saidM x q).agreed,U (saidM x q).cap,.bool (saidM x q).pruned]:=f.1
      clear f
      go_wp
      exact stepQ_ok ⟨_,rfl,rowNew V 71 [St (saidM x q).of,U (saidM x q).has,St (saidM x q).keeper,U (saidM x q).round,.bool (saidM x q).agreed,U (saidM x q).cap,.bool (saidM x q).pruned]⟩ ((Ext.refl _).alloc _)
    case hend =>
     intro z V he f
     simp only [List.take_succ_cons,List.take_zero,List.drop_succ_cons,List.drop_zero,List.filterMap_cons,List.filterMap_nil,List.length_cons,List.length_nil,Nat.reduceAdd] at f ⊢
     have h25:z 25=.slice C Q.length cc:=f.1
     obtain⟨gw,h32,hrw⟩:∃ g,z 32=.slice (some ⟨g,0,none⟩) 1 1/\RowIs V g 71 [St (saidM x q).of,U (saidM x q).has,St (saidM x q).keeper,U (saidM x q).round,.bool (saidM x q).agreed,U (saidM x q).cap,.bool (saidM x q).pruned] []:=f.2.2.2.2.2.2.2.1
     clear f
     simp only [putAll]
     go_simp
     have hXW:=HXV.out.trans he
     have hn5:=(HX.out.trans hXW).size
     go_wp2_with (at_builtin;refine wpList_append_OwnL rfl (.tmp 25) (.tmp 32) 46 rfl wordT w1.heap.size 71 72 (wordV ⟨[],0,[],0,false,0,false⟩) Tryz.underlying46 info_word rfl (by decide) (fun b=>b < w1.heap.size) (fun _ h=>h) _ Q rfl (HO.out.ext hXW) _ 1 (saidM x q) [St (saidM x q).of,U (saidM x q).has,St (saidM x q).keeper,U (saidM x q).round,.bool (saidM x q).agreed,U (saidM x q).cap,.bool (saidM x q).pruned] rfl (Src.one (by have:=hrw;unfold RowIs at this;simpa using this) rfl (by intro u hu;simp at hu;rcases hu with rfl | rfl | rfl | rfl | rfl | rfl | rfl <;> rfl)) rfl (by (try simp only [List.length_append,List.length_cons,List.length_nil]);omega) (by (try simp only [List.length_append,List.length_cons,List.length_nil]);omega) (by first | omega | (rw [World.size_alloc];omega)) ?_;intro v3 w3 hown3 hgr3)
     go_roundw
     case rel=>exact⟨pre++[x],post,Q++[saidM x q],true,by rw [HL.out];simp,by simp,rfl,hown3,by simp only [List.length_append,List.length_cons,List.length_nil];omega,Lib.hid HF.out,Ext.grewL (HX.out.trans hXW) hgr3 (HO.out.ext hXW) (Nat.le_refl _)⟩
     case measure=>simp [intOf];omega
   case neg =>
    have hqx:¬ q.of=x.of:=fun h=>hz (HCZ.out.symm.trans (cmpPath_eq.2 h))
    have HQX:=Lib.hid hqx
    have e0:(cz == 0)=false:=by simpa using hz
    clear hqx hz HWD
    cases d with
    | true =>
     have HF:=Lib.hid (show Q++x :: rpwF q true post=K by rw [<- HKK.out,rpwF,if_neg HQX.out];simp)
     clear HKK
     have HO2:=Lib.hid (HO.out.ext HXV.out)
     have HX2:=Lib.hid (HX.out.trans HXV.out)
     have hn3:=HX2.out.size
     obtain⟨k0,k1,k2,k3,k4,k5,k6⟩:=HC.out _ HX2.out
     go_wp2_with (at_builtin;refine wpList_append_OwnL rfl (.tmp 44) (.tmp 49) 46 rfl wordT w1.heap.size 71 72 (wordV ⟨[],0,[],0,false,0,false⟩) Tryz.underlying46 info_word rfl (by decide) (fun b=>b < w1.heap.size) (fun _ h=>h) _ Q rfl (HO2.out.ext ((Ext.refl _).alloc _)) _ 1 x [St x.of,U x.has,St x.keeper,U x.round,.bool x.agreed,U x.cap,.bool x.pruned] rfl (Src.new rfl (by intro u hu;simp at hu;rcases hu with rfl | rfl | rfl | rfl | rfl | rfl | rfl <;> rfl)) rfl (by (try simp only [List.length_append,List.length_cons,List.length_nil]);omega) (by (try simp only [List.length_append,List.length_cons,List.length_nil]);omega) (by first | omega | (rw [World.size_alloc];omega)) ?_;intro v3 w3 hown3 hgr3)
     go_roundw
     case rel=>exact⟨pre++[x],post,Q++[x],true,by rw [HL.out];simp,by simp,rfl,hown3,by simp only [List.length_append,List.length_cons,List.length_nil];omega,Lib.hid (by rw [<- HF.out];simp),Ext.grewL (HX2.out.alloc _) hgr3 (HO2.out.ext ((Ext.refl _).alloc _)) (Nat.le_refl _)⟩
     case measure=>simp [intOf];omega
    | false =>
     by_cases hlt2:cz < 0
     case pos =>
      have HF:=Lib.hid (show Q++[q]++x :: rpwF q true post=K by rw [<- HKK.out,rpwF,if_neg HQX.out,HCZ.out,decide_eq_true hlt2];simp)
      have e9:decide (cz < 0)=true:=decide_eq_true hlt2
      clear HKK
      obtain⟨j0,j1,j2,j3,j4,j5,j6⟩:=HM.out _ (HX.out.trans HXV.out)
      go_upto_region 13 with (at_builtin;refine wpList_append_OwnL rfl (.tmp 40) (.tmp 42) 46 rfl wordT w1.heap.size 71 72 (wordV ⟨[],0,[],0,false,0,false⟩) Tryz.underlying46 info_word rfl (by decide) (fun b=>b < w1.heap.size) (fun _ h=>h) _ Q rfl (HO.out.ext (HXV.out.alloc _)) _ 1 q [St q.of,U q.has,St q.keeper,U q.round,.bool q.agreed,U q.cap,.bool q.pruned] rfl (Src.new rfl (by intro u hu;simp at hu;rcases hu with rfl | rfl | rfl | rfl | rfl | rfl | rfl <;> rfl)) rfl (by (try simp only [List.length_append,List.length_cons,List.length_nil]);omega) (by (try simp only [List.length_append,List.length_cons,List.length_nil]);omega) (by first | omega | (rw [World.size_alloc];omega)) ?_;intro v2 w2 hown2 hgr2)
      obtain⟨C2,cc2,rfl,-,-⟩:=hown2.form
      clear j0 j1 j2 j3 j4 j5 j6
      have HO2:=Lib.hid hown2
      have HX2:=Lib.hid (Ext.grewL ((HX.out.trans HXV.out).alloc _) hgr2 (HO.out.ext (HXV.out.alloc _)) (Nat.le_refl _))
      have hn3:=HX2.out.size
      obtain⟨k0,k1,k2,k3,k4,k5,k6⟩:=HC.out _ HX2.out
      go_wp2_with (at_builtin;refine wpList_append_OwnL rfl (.tmp 44) (.tmp 49) 46 rfl wordT w1.heap.size 71 72 (wordV ⟨[],0,[],0,false,0,false⟩) Tryz.underlying46 info_word rfl (by decide) (fun b=>b < w1.heap.size) (fun _ h=>h) _ (Q++[q]) rfl (HO2.out.ext ((Ext.refl _).alloc _)) _ 1 x [St x.of,U x.has,St x.keeper,U x.round,.bool x.agreed,U x.cap,.bool x.pruned] rfl (Src.new rfl (by intro u hu;simp at hu;rcases hu with rfl | rfl | rfl | rfl | rfl | rfl | rfl <;> rfl)) rfl (by (try simp only [List.length_append,List.length_cons,List.length_nil]);omega) (by (try simp only [List.length_append,List.length_cons,List.length_nil]);omega) (by first | omega | (rw [World.size_alloc];omega)) ?_;intro v3 w3 hown3 hgr3)
      go_roundw
      case rel=>exact⟨pre++[x],post,(Q++[q])++[x],true,by rw [HL.out];simp,by simp,rfl,hown3,by simp only [List.length_append,List.length_cons,List.length_nil];omega,Lib.hid (by rw [<- HF.out];simp),Ext.grewL (HX2.out.alloc _) hgr3 (HO2.out.ext ((Ext.refl _).alloc _)) (Nat.le_refl _)⟩
      case measure=>simp [intOf];omega
     case neg =>
      have HF:=Lib.hid (show Q++x :: rpwF q false post=K by rw [<- HKK.out,rpwF,if_neg HQX.out,HCZ.out,decide_eq_false hlt2];simp)
      have e9:decide (cz < 0)=false:=decide_eq_false hlt2
      clear HKK
      have HO2:=Lib.hid (HO.out.ext HXV.out)
      have HX2:=Lib.hid (HX.out.trans HXV.out)
      have hn3:=HX2.out.size
      obtain⟨k0,k1,k2,k3,k4,k5,k6⟩:=HC.out _ HX2.out
      go_wp2_with (at_builtin;refine wpList_append_OwnL rfl (.tmp 44) (.tmp 49) 46 rfl wordT w1.heap.size 71 72 (wordV ⟨[],0,[],0,false,0,false⟩) Tryz.underlying46 info_word rfl (by decide) (fun b=>b < w1.heap.size) (fun _ h=>h) _ Q rfl (HO2.out.ext ((Ext.refl _).alloc _)) _ 1 x [St x.of,U x.has,St x.keeper,U x.round,.bool x.agreed,U x.cap,.bool x.pruned] rfl (Src.new rfl (by intro u hu;simp at hu;rcases hu with rfl | rfl | rfl | rfl | rfl | rfl | rfl <;> rfl)) rfl (by (try simp only [List.length_append,List.length_cons,List.length_nil]);omega) (by (try simp only [List.length_append,List.length_cons,List.length_nil]);omega) (by first | omega | (rw [World.size_alloc];omega)) ?_;intro v3 w3 hown3 hgr3)
      go_roundw
      case rel=>exact⟨pre++[x],post,Q++[x],false,by rw [HL.out];simp,by simp,rfl,hown3,by simp only [List.length_append,List.length_cons,List.length_nil];omega,Lib.hid (by rw [<- HF.out];simp),Ext.grewL (HX2.out.alloc _) hgr3 (HO2.out.ext ((Ext.refl _).alloc _)) (Nat.le_refl _)⟩
      case measure=>simp [intOf];omega
end
end Go.Proofs.YtblkikjmocnllaaGreatDoor
