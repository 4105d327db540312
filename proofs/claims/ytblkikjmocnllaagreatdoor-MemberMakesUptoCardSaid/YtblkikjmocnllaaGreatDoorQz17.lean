/- Maps as lists of entries: made, read, written, deleted from. No program in sight. -/
import Derived.Test.YtblkikjmocnllaaGreatDoorQz01
import Derived.MapKept
import Derived.Carry
import Derived.RangeFuncRecord
set_option linter.unusedVariables false
set_option linter.unusedSimpArgs false
set_option maxRecDepth 100000
set_option maxHeartbeats 40000000
set_option linter.unusedSectionVars false
namespace Go.Proofs.YtblkikjmocnllaaGreatDoor
open Go.RowKit
def MapIs {κ ν:Type} (K:κ->Value) (V:ν->Value) (w:World) (b:Nat) (L:List (κ × ν)):Prop :=
 ∃ es clock,w.heap[b]? = some (.map es clock)/\es.toList.map (fun e=>(e.key,e.val))=L.map (fun p=>(K p.1,V p.2))/\(L.map Prod.fst).Nodup/\(∀ e ∈ es.toList,e.born < clock)/\(es.toList.map (·.born)).Nodup
section
variable {κ ν:Type} [DecidableEq κ] {K:κ->Value} {V:ν->Value} {w w':World} {b:Nat} {L:List (κ × ν)}
def getL (z:ν) (L:List (κ × ν)) (k:κ):ν:=(L.lookup k).getD z
def putL (L:List (κ × ν)) (k:κ) (v:ν):List (κ × ν):=if k ∈ L.map Prod.fst then L.map (fun p=>if p.1=k then (k,v) else p) else L++[(k,v)]
theorem MapIs.lt (h:MapIs K V w b L):b < w.heap.size:=by obtain⟨_,_,h,_⟩:=h;exact (Array.getElem?_eq_some_iff.1 h).1
theorem MapIs.keep (h:MapIs K V w b L) (hs:w'.heap[b]? = w.heap[b]?):MapIs K V w' b L:=by
 obtain⟨es,c,h1,h2⟩:=h
 exact⟨es,c,hs.trans h1,h2⟩
theorem MapIs.ext (h:MapIs K V w b L) (he:Ext w w'):MapIs K V w' b L:=h.keep (he.block b h.lt)
theorem MapIs.new (w:World):MapIs K V (w.alloc (.map #[] 0)) w.heap.size ([]:List (κ × ν)) :=
 ⟨#[],0,Go.heap_alloc_new w _,rfl,by simp,by simp,by simp⟩
theorem MapIs.nodup (h:MapIs K V w b L):(L.map Prod.fst).Nodup:=by obtain⟨_,_,_,_,h,_⟩:=h;exact h
structure KeyOk (P:Program) (kt:TypeId) (K:κ->Value):Prop where
 check:∀ e x w,(Instr.checkKey e 10000 kt (K x)).run P w=.ok () w
 find:∀ x (es:List MapEntry) (ks:List κ) w,es.map (·.key)=ks.map K->(Instr.findKey kt (K x) es).run P w=.ok ((ks.findIdx? (fun y=>decide (y=x))).bind fun i=>(es[i]?).map fun e=>(i,e.val)) w
 same:∀ x,Instr.sameBits 10000 (K x) (K x)=true
omit [DecidableEq κ] in
theorem find_idx (L:List (κ × ν)) [DecidableEq κ] (x:κ):((L.map Prod.fst).findIdx? (fun y=>decide (y=x)))=L.findIdx? (fun p=>decide (p.1=x)):=by
 rw [List.findIdx?_map];rfl
theorem bytes_mk_beq (a b:Str):((⟨a.toArray⟩:ByteArray) == ⟨b.toArray⟩)=decide (b=a):=by
 by_cases h:b=a
 ·subst h;rw [decide_eq_true rfl];exact (MapKept.bytes_beq _ _).2 rfl
 ·rw [decide_eq_false h]
  cases hb:((⟨a.toArray⟩:ByteArray) == ⟨b.toArray⟩) with
  | false=>rfl
  | true =>
   have:=(MapKept.bytes_beq _ _).1 hb
   injection this with e
   have e':=congrArg Array.toList e
   exact absurd e'.symm h
theorem findNow_str (x:Str):∀ (es:List MapEntry) (ks:List Str) (i:Nat),es.map (·.key)=ks.map St ->
  Instr.findNow .string (St x) es i=some ((ks.findIdx? (fun y=>decide (y=x))).bind fun j=>(es[j]?).map fun e=>(i+j,e.val))
 | [],[],_,_=>rfl
 | [],_ :: _,_,h=>by simp at h
 | _ :: _,[],_,h=>by simp at h
 | e :: es,k :: ks,i,h=>by
  simp only [List.map_cons,List.cons.injEq] at h
  obtain⟨h1,h2⟩:=h
  unfold Instr.findNow
  rw [h1]
  simp only [Instr.sameNow,bytes_mk_beq]
  by_cases hk:k=x
  ·subst hk
   simp [List.findIdx?_cons]
  ·simp only [findNow_str x es ks (i+1) h2,List.findIdx?_cons,hk,decide_false,Bool.false_eq_true,if_false]
   cases hf:ks.findIdx? (fun y=>decide (y=x)) with
   | none=>rfl
   | some j =>
    simp only [Option.bind_some,Option.map_some,List.getElem?_cons_succ,Option.some.injEq]
    congr 1
    funext e
    simp
    omega
theorem keyOk_str {P:Program} {kt:TypeId} (hk:P.underlying kt=some .string):KeyOk P kt St where
 check e x w:=by
  unfold Instr.checkKey
  simp [run_underlying hk]
 find x es ks w h:=by
  refine Go.MapKept.run_findKey hk ?_
  rw [findNow_str x es ks 0 h]
  simp
 same x:=by
  unfold Instr.sameBits
  simp [bytes_mk_beq]
theorem lookup_of_idx {L:List (κ × ν)} {k:κ}:L.lookup k=(L.findIdx? (fun p=>decide (p.1=k))).bind fun i=>(L[i]?).map Prod.snd:=by
 induction L with
 | nil=>rfl
 | cons p r ih =>
  obtain⟨a,v⟩:=p
  by_cases h:a=k
  ·subst h;simp [List.lookup_cons,List.findIdx?_cons]
  ·have h':(k == a)=false:=by rw [beq_eq_false_iff_ne];exact fun e=>h e.symm
   rw [List.lookup_cons,h',List.findIdx?_cons]
   simp only [h,decide_false,Bool.false_eq_true,if_false,ih]
   cases r.findIdx? (fun p=>decide (p.1=k)) <;> simp
theorem MapIs.find {P:Program} {kt:TypeId} (KO:KeyOk P kt K) {es:Array MapEntry} (h:es.toList.map (fun e=>(e.key,e.val))=L.map (fun p=>(K p.1,V p.2))) (k:κ) (w:World) :
  (Instr.findKey kt (K k) es.toList).run P w=.ok ((L.findIdx? (fun p=>decide (p.1=k))).bind fun i=>(L[i]?).map fun p=>(i,V p.2)) w:=by
 have h1:es.toList.map (·.key)=(L.map Prod.fst).map K:=by
  have:=congrArg (List.map Prod.fst) h
  rw [List.map_map,List.map_map] at this
  rw [List.map_map]
  exact this
 rw [KO.find k es.toList (L.map Prod.fst) w h1,find_idx]
 congr 1
 cases hf:L.findIdx? (fun p=>decide (p.1=k)) with
 | none=>rfl
 | some i =>
  simp only [Option.bind_some]
  have:=congrArg (fun l=>l[i]?) h
  simp only [List.getElem?_map] at this
  cases he:es.toList[i]? with
  | none =>
   rw [he] at this
   cases hl:L[i]? with
   | none=>rfl
   | some p=>rw [hl] at this;simp at this
  | some e =>
   rw [he] at this
   cases hl:L[i]? with
   | none=>rw [hl] at this;simp at this
   | some p=>rw [hl] at this;simp at this;simp [this.2]
theorem run_lookup_MapIs {P:Program} {t kt et:TypeId} (ht:P.underlying t=some (.map kt et)) (KO:KeyOk P kt K) {z:ν} (hz:∀ w,(zeroValue et).run P w=.ok (V z) w) (h:MapIs K V w b L) (k:κ) :
  (Instr.lookup t (.map (some b)) (K k) false).run P w=.ok (V (getL z L k)) w/\(Instr.lookup t (.map (some b)) (K k) true).run P w=.ok (.tuple #[V (getL z L k),.bool (decide (k ∈ L.map Prod.fst))]) w:=by
 obtain⟨es,c,h1,h2,h3,-⟩:=h
 have hf:=MapIs.find KO h2 k w
 have hg:(getObj b).run P w=.ok (.map es c) w:=MapKept.run_getObj_map h1
 have hmem:decide (k ∈ L.map Prod.fst)=(L.findIdx? (fun p=>decide (p.1=k))).isSome:=by
  rw [List.findIdx?_isSome]
  by_cases hk:k ∈ L.map Prod.fst
  ·rw [decide_eq_true hk]
   obtain⟨p,hp,rfl⟩:=List.mem_map.1 hk
   symm
   rw [List.any_eq_true]
   exact⟨p,hp,by simp⟩
  ·rw [decide_eq_false hk]
   symm
   rw [List.any_eq_false]
   intro p hp
   simp
   intro e
   exact hk (List.mem_map.2 ⟨p,hp,e⟩)
 rw [hmem]
 unfold getL
 rw [lookup_of_idx]
 cases hi:L.findIdx? (fun p=>decide (p.1=k)) with
 | none =>
  rw [hi] at hf
  simp only [Option.bind_none] at hf
  constructor <;> simp [Instr.lookup,run_underlying ht,hg,KO.check,hf,hz]
 | some i =>
  rw [hi] at hf
  have hil:i < L.length:=by
   have:=List.findIdx?_eq_some_iff_getElem.1 hi
   exact this.1
  simp only [Option.bind_some,List.getElem?_eq_getElem hil,Option.map_some] at hf
  constructor <;> simp [Instr.lookup,run_underlying ht,hg,KO.check,hf,List.getElem?_eq_getElem hil]
theorem mem_idx {k:κ}:(k ∈ L.map Prod.fst)↔(L.findIdx? (fun p=>decide (p.1=k))).isSome=true:=by
 rw [List.findIdx?_isSome,List.any_eq_true]
 constructor
 ·intro hk
  obtain⟨p,hp,rfl⟩:=List.mem_map.1 hk
  exact⟨p,hp,by simp⟩
 ·rintro⟨p,hp,e⟩
  exact List.mem_map.2 ⟨p,hp,by simpa using e⟩
theorem putL_keys (L:List (κ × ν)) (k:κ) (v:ν):(putL L k v).map Prod.fst=if k ∈ L.map Prod.fst then L.map Prod.fst else L.map Prod.fst++[k]:=by
 unfold putL
 split
 ·rw [List.map_map]
  apply List.map_congr_left
  intro p _
  simp only [Function.comp]
  split
  ·rename_i h;exact h.symm
  ·rfl
 ·simp
theorem putL_nodup (h:(L.map Prod.fst).Nodup) (k:κ) (v:ν):((putL L k v).map Prod.fst).Nodup:=by
 rw [putL_keys]
 split
 ·exact h
 ·rename_i hk
  rw [List.nodup_append]
  exact⟨h,by simp,fun a ha b hb=>by simp at hb;subst hb;rintro rfl;exact hk ha⟩
structure Turned (w w':World) (b:Nat):Prop where
 os:w'.os=w.os
 tape:w'.tape=w.tape
 output:w'.output=w.output
 size:w'.heap.size=w.heap.size
 other:∀ j,j ≠ b->w'.heap[j]? = w.heap[j]?
theorem Turned.put (w:World) (b:Nat) (o:Obj):Turned w (w.putObj b o) b:=⟨rfl,rfl,rfl,World.putObj_size,fun _ h=>World.putObj_heap_other h⟩
theorem Ext.turned {w0:World} (h:Ext w0 w) (t:Turned w w' b) (hb:w0.heap.size<=b):Ext w0 w' :=
 ⟨t.os.trans h.os,t.tape.trans h.tape,t.output.trans h.output,by rw [t.size];exact h.size,fun k hk=>(t.other k (by omega)).trans (h.block k hk)⟩
theorem MapIs.turned {κ' ν':Type} [DecidableEq κ'] {K':κ'->Value} {V':ν'->Value} {b':Nat} {L':List (κ' × ν')} (h:MapIs K' V' w b' L') (t:Turned w w' b) (hb:b' ≠ b):MapIs K' V' w' b' L':=h.keep (t.other b' hb)
theorem nodup_idx {l:List κ} (h:l.Nodup) {i j:Nat} {x:κ} (hi:l[i]? = some x) (hj:l[j]? = some x):i=j:=by
 obtain⟨hi1,hi2⟩:=List.getElem?_eq_some_iff.1 hi
 obtain⟨hj1,hj2⟩:=List.getElem?_eq_some_iff.1 hj
 have hp:=List.pairwise_iff_getElem.1 h
 rcases Nat.lt_trichotomy i j with h1 | h1 | h1
 ·exact absurd (hi2.trans hj2.symm) (hp i j hi1 hj1 h1)
 ·exact h1
 ·exact absurd (hj2.trans hi2.symm) (hp j i hj1 hi1 h1)
omit [DecidableEq κ] in
theorem modify_born (es:Array MapEntry) (i:Nat) (k v:Value):(es.modify i fun e=>{ e with key:=k,val:=v }).toList.map (·.born)=es.toList.map (·.born):=by
 apply List.ext_getElem?
 intro j
 simp only [List.getElem?_map,Array.getElem?_toList,Array.getElem?_modify]
 split
 ·cases es[j]? <;> rfl
 ·rfl
theorem run_update_obj {P:Program} {t kt et:TypeId} (ht:P.underlying t=some (.map kt et)) (KO:KeyOk P kt K) (h:MapIs K V w b L) (k:κ) (v:ν) :
  ∃ o,∀ W:World,W.heap[b]? = w.heap[b]?->(Instr.mapUpdate t (.map (some b)) (K k) (V v)).run P W=.ok () (W.putObj b o)/\MapIs K V (W.putObj b o) b (putL L k v):=by
 obtain⟨es,c,h1,h2,h3,h4,h5⟩:=h
 have hf:=fun W=>MapIs.find (P:=P) KO h2 k W
 have hg:∀ W:World,W.heap[b]? = w.heap[b]?->(getObj b).run P W=.ok (.map es c) W:=fun W hW=>MapKept.run_getObj_map (hW.trans h1)
 have hset:∀ W:World,W.heap[b]? = w.heap[b]?->∀ o,(setObj b o).run P W=.ok () (W.putObj b o):=fun W hW o=>MapKept.run_setObj_map o (hW.trans h1)
 have hlen:es.size=L.length:=by
  have:=congrArg List.length h2
  simpa using this
 have hbW:∀ W:World,W.heap[b]? = w.heap[b]?->b < W.heap.size:=fun W hW=>(Array.getElem?_eq_some_iff.1 (hW.trans h1)).1
 cases hi:L.findIdx? (fun p=>decide (p.1=k)) with
 | none =>
  rw [hi] at hf
  simp only [Option.bind_none] at hf
  have hk:k ∉ L.map Prod.fst:=fun hk=>by rw [mem_idx,hi] at hk;cases hk
  refine ⟨.map (es.push { key:=K k,val:=V v,born:=c }) (c+1),fun W hW=>⟨?_,es.push { key:=K k,val:=V v,born:=c },c+1,World.putObj_heap_same (hbW W hW),?_,putL_nodup h3 k v,?_,?_⟩⟩
  ·simp [Instr.mapUpdate,run_underlying ht,hg W hW,KO.check,hf,hset W hW]
  ·unfold putL
   rw [if_neg hk,Array.toList_push,List.map_append,h2,List.map_append]
   rfl
  ·intro e he
   rw [Array.toList_push,List.mem_append] at he
   rcases he with he | he
   ·exact Nat.lt_succ_of_lt (h4 e he)
   ·simp at he;subst he;exact Nat.lt_succ_self _
  ·rw [Array.toList_push,List.map_append,List.nodup_append]
   refine ⟨h5,by simp,fun x hx y hy=>?_⟩
   simp at hy
   subst hy
   obtain⟨e,he,rfl⟩:=List.mem_map.1 hx
   have:=h4 e he
   omega
 | some i =>
  rw [hi] at hf
  obtain⟨hil,hik,-⟩:=List.findIdx?_eq_some_iff_getElem.1 hi
  have hik':(L[i]'hil).1=k:=by simpa using hik
  have hk:k ∈ L.map Prod.fst:=List.mem_map.2 ⟨L[i],List.getElem_mem hil,hik'⟩
  simp only [Option.bind_some,List.getElem?_eq_getElem hil,Option.map_some] at hf
  have hie:i < es.size:=by omega
  have hkey:(es[i]'hie).key=K k:=by
   have:=congrArg (fun l=>l[i]?) h2
   simp only [List.getElem?_map,List.getElem?_eq_getElem hil,Option.map_some] at this
   rw [List.getElem?_eq_getElem (by simpa using hie)] at this
   simp at this
   rw [this.1,hik']
  refine ⟨.map (es.modify i fun e=>{ e with key:=K k,val:=V v }) c,fun W hW=>⟨?_,es.modify i fun e=>{ e with key:=K k,val:=V v },c,World.putObj_heap_same (hbW W hW),?_,putL_nodup h3 k v,?_,?_⟩⟩
  ·simp [Instr.mapUpdate,run_underlying ht,hg W hW,KO.check,hf,hset W hW,Instr.keyThatStays,hie,hkey,KO.same]
  ·unfold putL
   rw [if_pos hk]
   apply List.ext_getElem?
   intro j
   have hj:=congrArg (fun l=>l[j]?) h2
   simp only [List.getElem?_map,Array.getElem?_toList] at hj ⊢
   rw [Array.getElem?_modify]
   by_cases hij:i=j
   ·subst hij
    simp [hie,hil,hik']
   ·rw [if_neg hij,hj]
    cases hl:L[j]? with
    | none=>rfl
    | some p =>
     have hjl:=(List.getElem?_eq_some_iff.1 hl).1
     have hne:p.1 ≠ k:=fun e=>by
      exact hij (nodup_idx h3 (x:=k) (by simp only [List.getElem?_map,List.getElem?_eq_getElem hil,Option.map_some,hik']) (by simp only [List.getElem?_map,hl,Option.map_some,e]))
     simp [hne]
  ·intro e he
   have hm:e.born ∈ (es.modify i fun e=>{ e with key:=K k,val:=V v }).toList.map (·.born):=List.mem_map.2 ⟨e,he,rfl⟩
   rw [modify_born] at hm
   obtain⟨e',he',hb'⟩:=List.mem_map.1 hm
   rw [<- hb']
   exact h4 e' he'
  ·rw [modify_born]
   exact h5
theorem run_update_MapIs {P:Program} {t kt et:TypeId} (ht:P.underlying t=some (.map kt et)) (KO:KeyOk P kt K) (h:MapIs K V w b L) (k:κ) (v:ν) :
  ∃ w',(Instr.mapUpdate t (.map (some b)) (K k) (V v)).run P w=.ok () w'/\MapIs K V w' b (putL L k v)/\Turned w w' b:=by
 obtain⟨o,ho⟩:=run_update_obj ht KO h k v
 exact⟨_,(ho w rfl).1,(ho w rfl).2,Turned.put _ _ _⟩
end
end Go.Proofs.YtblkikjmocnllaaGreatDoor
