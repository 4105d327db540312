/- Laws. -/
import Derived.Test.YtblkikjmocnllaaGreatDoorQz27
import Derived.Test.YtblkikjmocnllaaGreatDoorQz11
import Derived.Test.YtblkikjmocnllaaGreatDoorQz31
import Derived.Test.YtblkikjmocnllaaGreatDoorQz13
set_option linter.unusedVariables false
set_option linter.unusedSimpArgs false
set_option maxRecDepth 100000
set_option maxHeartbeats 40000000
namespace Go.Proofs.YtblkikjmocnllaaGreatDoor
section
open Go.RowKit Go.Shelf Go.Sort
abbrev PStr:={s:Str // s.length < 4294967296}
instance:Inhabited PStr:=⟨⟨[],by decide⟩⟩
def encP (s:PStr):Value:=St s.1
def cmpPS (a b:PStr):Int:=cmpPath a.1 b.1
theorem ltPS (a b:PStr):ltOf cmpPS a b=ltP a.1 b.1:=rfl
theorem cmpPS_swo:SWO (ltOf cmpPS):=⟨fun x=>ltP_swo.irrefl x.1,fun x y z=>ltP_swo.trans x.1 y.1 z.1,fun x y z=>ltP_swo.ntrans x.1 y.1 z.1⟩
theorem cmpPS_anti (a b:PStr) (h1:ltOf cmpPS a b=false) (h2:ltOf cmpPS b a=false):a=b:=Subtype.ext (ltP_anti a.1 b.1 h1 h2)
theorem insBy_val (x:PStr):∀ l:List PStr,(insBy (ltOf cmpPS) x l).map (·.1)=insBy ltP x.1 (l.map (·.1))
 | []=>rfl
 | y :: l=>by
  simp only [insBy,List.map_cons]
  rw [ltPS]
  split
  ·rw [List.map_cons,insBy_val x l]
  ·rfl
theorem isort_val:∀ l:List PStr,(isort (ltOf cmpPS) l).map (·.1)=isort ltP (l.map (·.1))
 | []=>rfl
 | x :: l=>by
  simp only [isort,List.map_cons]
  rw [insBy_val,isort_val l]
theorem putRow_enc {α:Type} [Inhabited α] (enc:α->Value) (w:World) (g:Nat) (d:Array α):putRow enc w g 0 d=putRow id w g 0 (d.map enc):=by
 unfold putRow
 congr 1
 funext cs
 unfold putCells
 apply Array.ext_getElem?
 intro i
 rw [Array.getElem?_mapIdx,Array.getElem?_mapIdx]
 cases cs[i]? with
 | none=>rfl
 | some u =>
  by_cases hi:i < d.size
  ·simp [hi,getElem!_pos d i hi,getElem!_pos (d.map enc) i (by simpa using hi)]
  ·simp [hi]
theorem encP_map (l:List PStr):l.map encP=(l.map (·.1)).map St:=by rw [List.map_map];rfl
theorem sort_path {v:Value} {l:List Str} {w:World} {base:Nat} (hv:Own w base 9 1 v l.length (l.flatMap strC)) (hs:∀ s ∈ l,s.length < 4294967296) (hl:l.length<=1099511627776) :
  Calls Tryz.prog 137 #[v,.func (.func 48) #[] #[]] w fun e w'=>e=.returned (.tuple #[])/\Own w' base 9 1 v (isort ltP l).length ((isort ltP l).flatMap strC)/\Go.RowKit.Below base w w':=by
 rcases Nat.eq_zero_or_pos l.length with h0 | h0
 ·obtain rfl:l = []:=List.eq_nil_of_length_eq_zero h0
  obtain⟨A,c,rfl,-,-⟩:=hv.form
  have hcon:=AnyF.slices_SortFunc_none (P:=Tryz.prog) { Tryz.sortStr with } A c (.func (.func 48) #[] #[]) w
  exact Calls.mono hcon fun e w' ⟨he,hw⟩=>⟨he,by rw [hw];simpa [isort] using hv,by rw [hw];exact Below.refl _ _⟩
 ·obtain⟨gb,cap,tail,rfl,hgb,hrow,hnc,hcm,hcl⟩:=hv.row h0
  obtain⟨lP,hlP⟩:∃ lP:List PStr,lP.map (·.1)=l:=⟨l.pmap (fun s h=>⟨s,h⟩) hs,by rw [List.map_pmap];simp⟩
  have hlen:lP.length=l.length:=by rw [<- hlP,List.length_map]
  have hrow1:RowIs w gb 9 (lP.toArray.map encP).toList tail:=by
   have:(lP.toArray.map encP).toList=l.flatMap strC:=by rw [strC_flat,<- hlP,<- encP_map];simp
   rw [this];exact hrow
  have hH0:=holds_row hrow1
  have hH:Holds encP w gb 0 lP.toArray:=fun j hj=>by
   have:=hH0 j (by simpa using hj)
   rw [getElem!_pos (lP.toArray.map encP) j (by simpa using hj)] at this
   rw [getElem!_pos lP.toArray j hj]
   simpa using this
  have eg:∀ args w,(callFunc 48 args).run Tryz.prog w=.ok (.enter 48 args) w:=enters_of Tryz.func48 (by kernel_rfl) rfl
  have hcon:=Any.slices_SortFunc Tryz.sortStr encP (fun _=>rfl) cmpPS cmpPS_swo 48 #[] gb 0 cap lP.toArray w eg
   (fun _ _ _ _ x y=>(pcmp_anyD x.1 y.1 (by have:=x.2;omega) (by have:=y.2;omega) _).mono (by
    rintro e w' ⟨rfl,hx,hd⟩
    exact⟨rfl,grow_of hx hd⟩)) hH hrow.lt (by simp;omega)
  rw [show lP.toArray.size=l.length by simp [hlen]] at hcon
  refine Calls.mono hcon ?_
  rintro e w' ⟨rfl,d',n,os,hp,hst,rfl⟩
  have hd:d'.toList=isort (ltOf cmpPS) lP:=sort_is cmpPS_swo cmpPS_anti (by rw [show lP.toArray.size=l.length by simp [hlen]];exact hp) (by rw [show lP.toArray.size=l.length by simp [hlen]];exact hst)
  have hdv:d'.toList.map (·.1)=isort ltP l:=by rw [hd,isort_val,hlP]
  have hsz:d'.size=l.length:=by have:=hp.1;simpa [hlen] using this
  have hil:(isort ltP l).length=l.length:=(isort_perm l).length_eq
  have h1:RowIs (putRow id (Sort.ahead w n) gb 0 (d'.map encP)) gb 9 (d'.map encP).toList tail:=putRow_row (w:=Sort.ahead w n) hrow1 _ (by simp [hsz,hlen])
  have hgs:gb < (putRow id (Sort.ahead w n) gb 0 (d'.map encP)).heap.size:=h1.lt
  unfold sortWorld
  rw [putRow_enc]
  have hfl:(d'.map encP).toList=(isort ltP l).flatMap strC:=by rw [strC_flat,<- hdv,<- encP_map];simp
  rw [hfl] at h1
  have h2:RowIs (grow (putRow id (Sort.ahead w n) gb 0 (d'.map encP)) os) gb 9 ((isort ltP l).flatMap strC) tail:=by
   unfold RowIs at h1 ⊢
   unfold grow
   rw [Array.getElem?_append_left hgs,h1]
  refine ⟨rfl,?_,?_⟩
  ·rw [hil]
   refine h2.own hgb hnc hcm ?_ ?_ ?_
   ·simp [strC_flat,hil] at hcl ⊢;omega
   ·rw [strC_flat,List.take_of_length_le (by simp [hil])]
   ·simp [strC_flat,hil]
  ·have h3:=below_putRow (w:=Sort.ahead w n) hgb (d'.map encP)
   exact⟨h3.os,h3.tape,h3.output,Nat.le_trans h3.size (by simp),fun j hj=>by
    unfold grow
    rw [Array.getElem?_append_left (by have:=hrow.lt;simp [Sort.ahead];omega)]
    exact h3.block j hj⟩
end
section
open Go.RowKit Go.Shelf
theorem isort_perm_eq {α:Type} {lt:α->α->Bool} (hO:Go.Sort.SWO lt) (anti:∀ a b,lt a b=false->lt b a=false->a=b) {A B:List α} (h:A.Perm B):isort lt A=isort lt B :=
 sorted_unique anti ((isort_perm A).trans (h.trans (isort_perm B).symm)) (isort_sorted hO A) (isort_sorted hO B)
theorem sortedW_any {p B:Nat} {L:List (Str × Word)} {w:World} (hB:w.cell? ⟨B,0,none⟩=some (.map (some p))) (hm:MapIs St wordV w p L) (hk:∀ k ∈ L.map Prod.fst,k.length < 4294967296) (hL:L.length<=1099511627776) :
  Calls Tryz.prog 104 #[.func (.func 173) #[] #[.pointer (some ⟨B,0,none⟩)],.func (.func 48) #[] #[]] w fun e w' =>
   ∃ v',e=.returned v'/\Own w' w.heap.size 9 1 v' (isort ltP (L.map Prod.fst)).length ((isort ltP (L.map Prod.fst)).flatMap strC)/\Ext w w':=by
 have H:=Lib.hid (collectS_anyW hB hm hL)
 have HK:=Lib.hid hk
 clear hB hm hk
 go_enter Tryz.func104,Tryz.ntmps104
 go_wp2_with fail
 refine H.out.mono ?_
 rintro e w1 ⟨v',ys,rfl,hp,hv,hx⟩
 have H2:=Lib.hid (sort_path hv (fun s hs=>HK.out s (hp.subset hs)) (by have:=hp.length_eq;rw [List.length_map] at this;omega))
 have HP:=Lib.hid hp
 clear hv hp
 go_wp2_with fail
 refine H2.out.mono ?_
 rintro e w2 ⟨rfl,hv2,hx2⟩
 rw [isort_perm_eq ltP_swo ltP_anti HP.out] at hv2
 have HV:=Lib.hid hv2
 clear hv2
 go_wp2_with fail
 go_ret
 exact⟨_,rfl,HV.out,Below.trans hx hx2⟩
theorem sortedM_any {p B:Nat} {L:List (Str × MP)} {w:World} (hB:w.cell? ⟨B,0,none⟩=some (.map (some p))) (hm:MapIs St mpV w p L) (hk:∀ k ∈ L.map Prod.fst,k.length < 4294967296) (hL:L.length<=1099511627776) :
  Calls Tryz.prog 104 #[.func (.func 138) #[] #[.pointer (some ⟨B,0,none⟩)],.func (.func 48) #[] #[]] w fun e w' =>
   ∃ v',e=.returned v'/\Own w' w.heap.size 9 1 v' (isort ltP (L.map Prod.fst)).length ((isort ltP (L.map Prod.fst)).flatMap strC)/\Ext w w':=by
 have H:=Lib.hid (collectS_anyM hB hm hL)
 have HK:=Lib.hid hk
 clear hB hm hk
 go_enter Tryz.func104,Tryz.ntmps104
 go_wp2_with fail
 refine H.out.mono ?_
 rintro e w1 ⟨v',ys,rfl,hp,hv,hx⟩
 have H2:=Lib.hid (sort_path hv (fun s hs=>HK.out s (hp.subset hs)) (by have:=hp.length_eq;rw [List.length_map] at this;omega))
 have HP:=Lib.hid hp
 clear hv hp
 go_wp2_with fail
 refine H2.out.mono ?_
 rintro e w2 ⟨rfl,hv2,hx2⟩
 rw [isort_perm_eq ltP_swo ltP_anti HP.out] at hv2
 have HV:=Lib.hid hv2
 clear hv2
 go_wp2_with fail
 go_ret
 exact⟨_,rfl,HV.out,Below.trans hx hx2⟩
theorem lookS {ν:Type} (z:ν) (L:List (Str × ν)) (k:Str):getL z L k=(L.lookup k).getD z:=by
 unfold getL
 rw [lookup_beq (@instBEqOfDecidableEq Str _) (inferInstance:BEq Str) (fun a b=>by simp [BEq.beq]) (fun a b=>beq_iff_eq) k L]
theorem memS {ν:Type} {L:List (Str × ν)} {k:Str}:k ∈ L.map Prod.fst↔(L.lookup k).isSome=true:=by
 induction L with
 | nil=>simp
 | cons q L ih =>
  obtain⟨a,b⟩:=q
  by_cases h:k=a
  ·subst h;simp [List.lookup_cons]
  ·have:(k == a)=false:=by simpa using h
   rw [List.lookup_cons,this]
   simp only [List.map_cons,List.mem_cons,h,false_or]
   exact ih
theorem putS_new {ν:Type} {L:List (Str × ν)} {k:Str} {n:ν} (h:k ∉ L.map Prod.fst):putL L k n=L++[(k,n)]:=by unfold putL;rw [if_neg h]
theorem lookS_none {ν:Type} {L:List (Str × ν)} {k:Str} (h:k ∉ L.map Prod.fst):L.lookup k=none:=by
 cases hl:L.lookup k with
 | none=>rfl
 | some v=>exact absurd (memS.2 (by rw [hl];rfl)) h
theorem setS_ne {ν:Type} {j k:Str} (h:¬ j=k) (v:ν):∀ L:List (Str × ν),(L.map fun p=>if p.1=k then (k,v) else p).lookup j=L.lookup j
 | []=>rfl
 | (a,b) :: L=>by
  rw [List.map_cons]
  by_cases ha:a=k
  ·have e1:(j == a)=false:=by rw [ha];simpa using h
   have e2:(j == k)=false:=by simpa using h
   simp only [ha,if_true]
   rw [List.lookup_cons,e2,List.lookup_cons,e2]
   exact setS_ne h v L
  ·simp only [ha,if_false]
   rw [List.lookup_cons,List.lookup_cons,setS_ne h v L]
theorem setS_eq {ν:Type} {k:Str} (v:ν):∀ L:List (Str × ν),k ∈ L.map Prod.fst->(L.map fun p=>if p.1=k then (k,v) else p).lookup k=some v
 | [],h=>by simp at h
 | (a,b) :: L,h=>by
  rw [List.map_cons]
  by_cases ha:a=k
  ·simp only [ha,if_true]
   rw [List.lookup_cons]
   simp
  ·have e:(k == a)=false:=by simpa using fun e=>ha e.symm
   simp only [ha,if_false]
   rw [List.lookup_cons,e]
   exact setS_eq v L ((List.mem_cons.1 h).resolve_left fun e=>ha e.symm)
theorem putS_look {ν:Type} (L:List (Str × ν)) (k:Str) (v:ν) (j:Str):(putL L k v).lookup j=if j=k then some v else L.lookup j:=by
 unfold putL
 by_cases hjk:j=k
 ·subst hjk
  rw [if_pos rfl]
  split
  ·rename_i hk
   exact setS_eq v L hk
  ·rename_i hk
   rw [List.lookup_append,lookS_none hk]
   simp [List.lookup_cons]
 ·rw [if_neg hjk]
  split
  ·exact setS_ne hjk v L
  ·have:(j == k)=false:=by simpa using hjk
   rw [List.lookup_append]
   simp [List.lookup_cons,this]
def onceK (ks:List Str) (k:Str):List Str:=if k ∈ ks then ks else ks++[k]
def onceL (l:List Str):List Str:=l.foldl onceK []
theorem onceF_in:∀ (l ks:List Str) (x:Str),x ∈ l.foldl onceK ks↔x ∈ ks ∨ x ∈ l
 | [],ks,x=>by simp
 | k :: l,ks,x=>by
  rw [List.foldl_cons,onceF_in l]
  unfold onceK
  split
  ·rename_i h
   simp only [List.mem_cons]
   constructor
   ·rintro (h1 | h1)
    ·exact .inl h1
    ·exact .inr (.inr h1)
   ·rintro (h1 | rfl | h1)
    ·exact .inl h1
    ·exact .inl h
    ·exact .inr h1
  ·simp [or_assoc]
theorem onceF_nodup:∀ (l ks:List Str),ks.Nodup->(l.foldl onceK ks).Nodup
 | [],ks,h=>h
 | k :: l,ks,h=>by
  rw [List.foldl_cons]
  refine onceF_nodup l _ ?_
  unfold onceK
  split
  ·exact h
  ·rename_i hk
   rw [List.nodup_append]
   refine ⟨h,by simp,?_⟩
   intro a ha b hb
   rw [List.mem_singleton] at hb
   subst hb
   exact fun e=>hk (e ▸ ha)
theorem onceL_in {l:List Str} {x:Str}:x ∈ onceL l↔x ∈ l:=by unfold onceL;rw [onceF_in];simp
theorem onceL_nodup (l:List Str):(onceL l).Nodup:=onceF_nodup l [] .nil
theorem once_perm {a b:List Str} (ha:a.Nodup) (hb:b.Nodup) (h:∀ x,x ∈ a↔x ∈ b):a.Perm b:=(List.perm_ext_iff_of_nodup ha hb).2 h
section
variable {ν:Type} (name:ν->Str)
def firstS (L:List (Str × ν)) (x:ν):List (Str × ν):=if name x ∈ L.map Prod.fst then L else putL L (name x) x
def firstsL (l:List ν):List (Str × ν):=l.foldl (firstS name) []
theorem firstsL_snoc (l:List ν) (x:ν):firstsL name (l++[x])=if name x ∈ (firstsL name l).map Prod.fst then firstsL name l else putL (firstsL name l) (name x) x:=by
 unfold firstsL
 rw [List.foldl_append]
 rfl
theorem firstsF_look (k:Str):∀ (l:List ν) (L:List (Str × ν)),(l.foldl (firstS name) L).lookup k=(L.lookup k).or (l.find? fun x=>decide (name x=k))
 | [],L=>by simp
 | x :: l,L=>by
  rw [List.foldl_cons,firstsF_look k l,List.find?_cons]
  unfold firstS
  by_cases hx:name x=k
  ·subst hx
   simp only [decide_true]
   split
   ·rename_i h
    obtain⟨v,hv⟩:=Option.isSome_iff_exists.1 (memS.1 h)
    rw [hv];rfl
   ·rename_i h
    rw [putS_look,if_pos rfl,lookS_none h];rfl
  ·simp only [hx,decide_false]
   split
   ·rfl
   ·rw [putS_look,if_neg (fun e=>hx e.symm)]
theorem firstsL_look (l:List ν) (k:Str):(firstsL name l).lookup k=l.find? fun x=>decide (name x=k):=by
 unfold firstsL
 rw [firstsF_look]
 simp
theorem firstsF_in:∀ (l:List ν) (L:List (Str × ν)),∀ q ∈ l.foldl (firstS name) L,q ∈ L ∨ (q.2 ∈ l/\q.1=name q.2)
 | [],L,q,h=>.inl h
 | x :: l,L,q,h=>by
  rw [List.foldl_cons] at h
  rcases firstsF_in l _ q h with h | ⟨h1,h2⟩
  ·unfold firstS at h
   split at h
   ·exact .inl h
   ·rename_i hn
    rw [putS_new hn] at h
    rcases List.mem_append.1 h with h | h
    ·exact .inl h
    ·rw [List.mem_singleton] at h
     subst h
     exact .inr ⟨by simp,rfl⟩
  ·exact .inr ⟨List.mem_cons_of_mem _ h1,h2⟩
theorem firstsL_in {l:List ν} {q:Str × ν} (h:q ∈ firstsL name l):q.2 ∈ l/\q.1=name q.2:=by
 rcases firstsF_in name l [] q h with h | h
 ·simp at h
 ·exact h
variable (both:ν->ν->ν)
def mrgO:Option ν->Option ν->Option ν
 | some x,some y=>some (both x y)
 | none,some y=>some y
 | o,none=>o
def mergeL (a b:List ν):List ν:=(isort ltP (onceL (a.map name++b.map name))).filterMap fun k=>mrgO both (a.find? fun x=>decide (name x=k)) (b.find? fun x=>decide (name x=k))
theorem mrgO_some {x y:Option ν}:(mrgO both x y).isSome=(x.isSome || y.isSome):=by cases x <;> cases y <;> rfl
theorem find_mem {l:List ν} {k:Str}:(l.find? fun x=>decide (name x=k)).isSome=true↔k ∈ l.map name:=by
 rw [List.find?_isSome]
 simp
theorem merge_keys {a b:List ν} {L:List (Str × ν)} (hl:∀ k,L.lookup k=mrgO both (a.find? fun x=>decide (name x=k)) (b.find? fun x=>decide (name x=k))) (k:Str):k ∈ L.map Prod.fst↔k ∈ a.map name ∨ k ∈ b.map name:=by
 rw [memS,hl,mrgO_some,Bool.or_eq_true,find_mem,find_mem]
theorem merge_order {a b:List ν} {L:List (Str × ν)} (hn:(L.map Prod.fst).Nodup) (hl:∀ k,L.lookup k=mrgO both (a.find? fun x=>decide (name x=k)) (b.find? fun x=>decide (name x=k))):isort ltP (L.map Prod.fst)=isort ltP (onceL (a.map name++b.map name)) :=
 isort_perm_eq ltP_swo ltP_anti (once_perm hn (onceL_nodup _) fun k=>by rw [merge_keys name both hl,onceL_in,List.mem_append])
theorem onceF_len:∀ (l ks:List Str),(l.foldl onceK ks).length<=ks.length+l.length
 | [],ks=>by simp
 | k :: l,ks=>by
  rw [List.foldl_cons]
  refine Nat.le_trans (onceF_len l _) ?_
  unfold onceK
  split <;> simp <;> omega
theorem merge_len {a b:List ν} {L:List (Str × ν)} (hn:(L.map Prod.fst).Nodup) (hl:∀ k,L.lookup k=mrgO both (a.find? fun x=>decide (name x=k)) (b.find? fun x=>decide (name x=k))):L.length<=a.length+b.length:=by
 have h:=(once_perm hn (onceL_nodup (a.map name++b.map name)) fun k=>by rw [merge_keys name both hl,onceL_in,List.mem_append]).length_eq
 have h2:=onceF_len (a.map name++b.map name) []
 rw [List.length_map] at h
 unfold onceL at h
 simp only [List.length_append,List.length_map,List.length_nil,Nat.zero_add] at h2
 omega
theorem merge_is (z:ν) {a b:List ν} {L:List (Str × ν)} (hn:(L.map Prod.fst).Nodup) (hl:∀ k,L.lookup k=mrgO both (a.find? fun x=>decide (name x=k)) (b.find? fun x=>decide (name x=k))) :
  (isort ltP (L.map Prod.fst)).map (getL z L)=mergeL name both a b:=by
 unfold mergeL
 rw [<- merge_order name both hn hl]
 have:∀ ks:List Str,(∀ k ∈ ks,k ∈ L.map Prod.fst)->ks.map (getL z L)=ks.filterMap fun k=>mrgO both (a.find? fun x=>decide (name x=k)) (b.find? fun x=>decide (name x=k)):=by
  intro ks hk
  induction ks with
  | nil=>rfl
  | cons k ks ih =>
   obtain⟨v,hv⟩:=Option.isSome_iff_exists.1 (memS.1 (hk k (by simp)))
   rw [List.map_cons,List.filterMap_cons,<- hl k,hv,ih (fun j hj=>hk j (List.mem_cons_of_mem _ hj)),lookS,hv]
   rfl
 exact this _ fun k hk=>(isort_perm (lt:=ltP) _).subset hk
theorem merge_step {La done:List (Str × ν)} {L:List (Str × ν)} {k:Str} {y:ν} (hd:k ∉ done.map Prod.fst) (hl:∀ j,L.lookup j=mrgO both (La.lookup j) (done.lookup j)) (v:ν) (hv:v=match La.lookup k with | some x=>both x y | none=>y) :
  ∀ j,(putL L k v).lookup j=mrgO both (La.lookup j) ((done++[(k,y)]).lookup j):=by
 intro j
 rw [putS_look,List.lookup_append]
 by_cases hj:j=k
 ·subst hj
  rw [if_pos rfl,lookS_none hd,hv]
  simp only [Option.none_or,List.lookup_cons,beq_self_eq_true]
  cases La.lookup j <;> rfl
 ·have:(j == k)=false:=by simpa using hj
  rw [if_neg hj,hl j]
  simp [List.lookup_cons,this]
theorem merge_at {La done:List (Str × ν)} {L:List (Str × ν)} {k:Str} (hd:k ∉ done.map Prod.fst) (hl:∀ j,L.lookup j=mrgO both (La.lookup j) (done.lookup j)):L.lookup k=La.lookup k:=by
 rw [hl k,lookS_none hd]
 cases La.lookup k <;> rfl
theorem perm_lookS {A B:List (Str × ν)} (hA:(A.map Prod.fst).Nodup) (h:A.Perm B) (k:Str):A.lookup k=B.lookup k:=by
 induction h with
 | nil=>rfl
 | cons x h ih =>
  obtain⟨a,v⟩:=x
  rw [List.lookup_cons,List.lookup_cons]
  rw [List.map_cons,List.nodup_cons] at hA
  split
  ·rfl
  ·exact ih hA.2
 | swap x y l =>
  obtain⟨a,v⟩:=x
  obtain⟨b,u⟩:=y
  simp only [List.map_cons,List.nodup_cons,List.mem_cons,not_or] at hA
  simp only [List.lookup_cons]
  by_cases h1:k=b <;> by_cases h2:k=a
  ·subst h1;exact absurd h2 hA.1.1
  ·have e1:(k == b)=true:=by simpa using h1
   have e2:(k == a)=false:=by simpa using h2
   rw [e1,e2]
  ·have e1:(k == b)=false:=by simpa using h1
   have e2:(k == a)=true:=by simpa using h2
   rw [e1,e2]
  ·have e1:(k == b)=false:=by simpa using h1
   have e2:(k == a)=false:=by simpa using h2
   rw [e1,e2]
 | trans h1 h2 ih1 ih2=>rw [ih1 hA,ih2 ((h1.map Prod.fst).nodup_iff.1 hA)]
end
end
end Go.Proofs.YtblkikjmocnllaaGreatDoor
