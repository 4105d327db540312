/- Laws. -/
import Derived.Test.YtblkikjmocnllaaGreatDoorQz20
import Derived.Test.YtblkikjmocnllaaGreatDoorQz22
import Derived.Test.YtblkikjmocnllaaGreatDoorQz23
import Derived.Deep.OwnRows
import Derived.Test.YtblkikjmocnllaaGreatDoorQz24
import Derived.Test.YtblkikjmocnllaaGreatDoorQz15
import Derived.Test.YtblkikjmocnllaaGreatDoorQz10
import Derived.Test.YtblkikjmocnllaaGreatDoorQz13
set_option linter.unusedVariables false
set_option linter.unusedSimpArgs false
set_option maxRecDepth 100000
set_option maxHeartbeats 40000000
namespace Go.Proofs.YtblkikjmocnllaaGreatDoor
section
open Go.RowKit Go.Shelf
theorem info_int:(Tryz.prog.info? 3).map (fun i=>(i.zero,i.size,i.bytes))=some (some (I 0),1,8):=by kernel_rfl
theorem rowM_upd {w:World} {base g T i j:Nat} {val:Value} {x x':Mbr} {l:List Mbr} {us:List (Value × Value)} {tail:List Value} (hrow:RowIs w g T (cellsM l us) tail) (ho:OwnM w base g l us) (hx:l[i]? = some x) (hg:x'.gone=x.gone) (hw:x'.words=x.words)
  (hset:∀ u1 u2,mbrC x' u1 u2=(mbrC x u1 u2).set j val) (hj:j < 15):RowIs (w.setCell ⟨g,i * 15+j,none⟩ val) g T (cellsM (l.set i x') us) tail/\OwnM (w.setCell ⟨g,i * 15+j,none⟩ val) base g (l.set i x') us:=by
 have hil:=(List.getElem?_eq_some_iff.1 hx).1
 have hlt:i < us.length:=by rw [ho.len];exact hil
 obtain⟨u,hu⟩:∃ u,us[i]? = some u:=⟨_,List.getElem?_eq_getElem hlt⟩
 have hl:l=l.take i++x :: l.drop (i+1):=by rw [<- (List.getElem?_eq_some_iff.1 hx).2,List.getElem_cons_drop,List.take_append_drop]
 have hus:us=us.take i++u :: us.drop (i+1):=by rw [<- (List.getElem?_eq_some_iff.1 hu).2,List.getElem_cons_drop,List.take_append_drop]
 have hlen:(us.take i).length=(l.take i).length:=by rw [List.length_take,List.length_take,ho.len]
 have hti:(l.take i).length=i:=by rw [List.length_take];omega
 have hcl:=cellsM_len (l:=l.take i) (us:=us.take i) hlen
 rw [hti] at hcl
 have e0:cellsM l us=cellsM (l.take i) (us.take i)++(mbrC x u.1 u.2++cellsM (l.drop (i+1)) (us.drop (i+1))):=by
  conv=>lhs;rw [hl,hus]
  rw [cellsM_append hlen,cellsM_one]
 have e1:cellsM (l.set i x') us=cellsM (l.take i) (us.take i)++(mbrC x' u.1 u.2++cellsM (l.drop (i+1)) (us.drop (i+1))):=by
  have:l.set i x'=l.take i++x' :: l.drop (i+1):=by rw [List.set_eq_take_append_cons_drop,if_pos hil]
  conv=>lhs;rw [this,hus]
  rw [cellsM_append hlen,cellsM_one]
 have hrs:(cellsM l us).set (i * 15+j) val=cellsM (l.set i x') us:=by
  rw [e0,e1,hset,<- hcl,List.set_append_right _ _ (Nat.le_add_right _ _),Nat.add_sub_cancel_left,List.set_append_left _ _ (by simp [mbrC];omega)]
 have hlc:=cellsM_len ho.len
 have hr:=hrow.set (j:=i * 15+j) (by omega) val
 rw [hrs] at hr
 refine ⟨hr,by rw [List.length_set];exact ho.len,fun k y v hy hv=>?_,ho.row,ho.apart⟩
 have hkp:∀ b,ownBlk v.1 b ∨ ownBlk v.2 b->b < w.heap.size->(w.setCell ⟨g,i * 15+j,none⟩ val).heap[b]? = w.heap[b]?:=fun b hb _=>Below.heap_setCell _ _ _ b (by
  rintro rfl
  have:=ho.row v (List.mem_of_getElem? hv)
  rcases hb with hb | hb
  ·exact this.1 hb
  ·exact this.2 hb)
 rw [List.getElem?_set] at hy
 split at hy
 ·rename_i hk
  subst hk
  cases hy
  have h2:=(ho.each i x v hx hv).keep hkp
  exact⟨by rw [hg];exact h2.gone,by rw [hw];exact h2.words,h2.apart⟩
 ·exact (ho.each k y v hy hv).keep hkp
structure RowB (l0:List Mbr) (base g c tb mb q:Nat) (us:List (Value × Value)) (tail:List Value) (w:World) (cur:List Mbr) (W:World):Prop where
 row:RowIs W g 48 (cellsM cur us) tail
 own:OwnM W base g cur us
 tb:W.cell? ⟨tb,0,none⟩=some (.slice (some ⟨g,0,none⟩) l0.length c)
 mbf:W.frozen? ⟨mb,0,none⟩=false
 mb:W.cell? ⟨mb,0,none⟩=some (.map (some q))
 map:MapIs St (fun n:Nat=>I n) W q (placesL l0)
 ext:Ext w W
section
variable {l0 cur:List Mbr} {base g c tb mb q:Nat} {us:List (Value × Value)} {tail:List Value} {w W W':World}
theorem RowB.ext' (h:RowB l0 base g c tb mb q us tail w cur W) (he:Ext W W'):RowB l0 base g c tb mb q us tail w cur W' :=
 ⟨h.row.ext he,h.own.ext he,he.cell h.tb,(he.frozen (blk_of_cell h.mb)).trans h.mbf,he.cell h.mb,h.map.ext he,h.ext.trans he⟩
theorem RowB.copy (h:RowB l0 base g c tb mb q us tail w cur W) (hl:cur.length=l0.length) (hct:l0.length * 15+tail.length=c * 15) (hcm:c<=9223372036854775807) (hg:base<=g):CopyM W base (.slice (some ⟨g,0,none⟩) l0.length c) cur :=
 .inr ⟨g,c,us,tail,by rw [hl],by rw [hl];exact hct,hcm,hg,h.row,h.own⟩
theorem RowB.upd {i j:Nat} {val:Value} {x x':Mbr} (h:RowB l0 base g c tb mb q us tail w cur W) (hx:cur[i]? = some x) (hg:x'.gone=x.gone) (hw:x'.words=x.words) (hset:∀ u1 u2,mbrC x' u1 u2=(mbrC x u1 u2).set j val) (hj:j < 15) (hgt:g ≠ tb) (hgm:g ≠ mb) (hgq:g ≠ q) (hwg:w.heap.size<=g) :
  RowB l0 base g c tb mb q us tail w (cur.set i x') (W.setCell ⟨g,i * 15+j,none⟩ val):=by
 obtain⟨h1,h2⟩:=rowM_upd h.row h.own hx hg hw hset hj
 have hk:∀ b,b ≠ g->(W.setCell ⟨g,i * 15+j,none⟩ val).heap[b]? = W.heap[b]?:=fun b hb=>Below.heap_setCell _ _ _ b hb
 exact⟨h1,h2,(World.cell?_of_block (a:=⟨tb,0,none⟩) (hk tb hgt.symm)).trans h.tb,(World.frozen?_of_block (a:=⟨mb,0,none⟩) (hk mb hgm.symm)).trans h.mbf,(World.cell?_of_block (a:=⟨mb,0,none⟩) (hk mb hgm.symm)).trans h.mb,h.map.keep (hk q hgq.symm),h.ext.set hwg _⟩
theorem RowB.drew (h:RowB l0 base g c tb mb q us tail w cur W):RowB l0 base g c tb mb q us tail w cur W.drew:=h.ext' (Ext.refl W).drew
end
theorem placesF_congr:∀ (a b:List Mbr) (i:Nat) (L:List (Str × Nat)),a.map (·.path)=b.map (·.path)->placesF i a L=placesF i b L
 | [],[],_,_,_=>rfl
 | [],_ :: _,_,_,h=>by simp at h
 | _ :: _,[],_,_,h=>by simp at h
 | x :: a,y :: b,i,L,h=>by
  simp only [List.map_cons,List.cons.injEq] at h
  unfold placesF
  rw [h.1]
  exact placesF_congr a b _ _ h.2
theorem places_part (l:List Mbr) (S:List Int):placesL (partV l S)=placesL l:=by
 refine placesF_congr _ _ _ _ ?_
 apply List.ext_getElem?
 intro i
 rw [List.getElem?_map,List.getElem?_map]
 by_cases h:i < l.length
 ·rw [partV_at (List.getElem?_eq_getElem h),List.getElem?_eq_getElem h]
  simp only [Option.map_some]
  split
  ·rw [vset_path]
  ·rfl
 ·rw [List.getElem?_eq_none (by rw [partV_len];omega),List.getElem?_eq_none (by omega)]
theorem rowM_words {w:World} {g T i:Nat} {x:Mbr} {ws:List Word} {u1 u2 v':Value} {l:List Mbr} {us:List (Value × Value)} {tail:List Value} (hrow:RowIs w g T (cellsM l us) tail) (hlen0:us.length=l.length) (hx:l[i]? = some x) (hu:us[i]? = some (u1,u2)) :
  RowIs (w.setCell ⟨g,i * 15+14,none⟩ v') g T (cellsM (l.set i { x with words:=ws }) (us.set i (u1,v'))) tail:=by
 have hil:=(List.getElem?_eq_some_iff.1 hx).1
 have hl:l=l.take i++x :: l.drop (i+1):=by rw [<- (List.getElem?_eq_some_iff.1 hx).2,List.getElem_cons_drop,List.take_append_drop]
 have hus:us=us.take i++(u1,u2) :: us.drop (i+1):=by rw [<- (List.getElem?_eq_some_iff.1 hu).2,List.getElem_cons_drop,List.take_append_drop]
 have hlen:(us.take i).length=(l.take i).length:=by rw [List.length_take,List.length_take,hlen0]
 have hti:(l.take i).length=i:=by rw [List.length_take];omega
 have hcl:=cellsM_len (l:=l.take i) (us:=us.take i) hlen
 rw [hti] at hcl
 have e0:cellsM l us=cellsM (l.take i) (us.take i)++(mbrC x u1 u2++cellsM (l.drop (i+1)) (us.drop (i+1))):=by
  conv=>lhs;rw [hl,hus]
  rw [cellsM_append hlen,cellsM_one]
 have e1:cellsM (l.set i { x with words:=ws }) (us.set i (u1,v'))=cellsM (l.take i) (us.take i)++(mbrC x u1 v'++cellsM (l.drop (i+1)) (us.drop (i+1))):=by
  have h1:l.set i { x with words:=ws }=l.take i++{ x with words:=ws } :: l.drop (i+1):=by rw [List.set_eq_take_append_cons_drop,if_pos hil]
  have h2:us.set i (u1,v')=us.take i++(u1,v') :: us.drop (i+1):=by rw [List.set_eq_take_append_cons_drop,if_pos (by omega)]
  rw [h1,h2,cellsM_append hlen,cellsM_one]
  rfl
 have hlc:=cellsM_len hlen0
 have hr:=hrow.set (j:=i * 15+14) (by omega) v'
 have hrs:(cellsM l us).set (i * 15+14) v'=cellsM (l.set i { x with words:=ws }) (us.set i (u1,v')):=by
  rw [e0,e1,<- hcl,List.set_append_right _ _ (Nat.le_add_right _ _),Nat.add_sub_cancel_left,List.set_append_left _ _ (by simp [mbrC])]
  rfl
 rw [hrs] at hr
 exact hr
structure NxB (K:List Mbr) (base gn n c nb mb q:Nat) (bd:Nat) (tail:List Value) (w:World) (cur:List Mbr) (us:List (Value × Value)) (W:World):Prop where
 row:RowIs W gn 48 (cellsM cur us) tail
 own:OwnM W base gn cur us
 blk:∀ u ∈ us,∀ b,ownBlk u.1 b ∨ ownBlk u.2 b->b < bd
 nb:W.cell? ⟨nb,0,none⟩=some (.slice (some ⟨gn,0,none⟩) n c)
 mb:W.cell? ⟨mb,0,none⟩=some (.map (some q))
 map:MapIs St (fun n:Nat=>I n) W q (placesL K)
 ext:Ext w W
theorem NxB.step {K:List Mbr} {base gn n c nb mb q bd i:Nat} {tail:List Value} {w W W1:World} {cur:List Mbr} {us:List (Value × Value)} {x:Mbr} {ws:List Word} {u1 u2 v':Value} (h:NxB K base gn n c nb mb q bd tail w cur us W) (hx:cur[i]? = some x) (hu:us[i]? = some (u1,u2))
  (hb:ButV u2 W W1) (ho:Own W1 base 71 7 v' ws.length (ws.flatMap wordC)) (hbl:∀ b,ownBlk v' b->ownBlk u2 b) (hgn:bd<=gn) (hnb:bd<=nb) (hnb2:nb ≠ gn) (hmb:bd<=mb) (hmb2:mb ≠ gn) (hq:bd<=q) (hq2:q ≠ gn) (hw:w.heap.size<=gn) (hbw:base=w.heap.size) :
  NxB K base gn n c nb mb q bd tail w (cur.set i { x with words:=ws }) (us.set i (u1,v')) (W1.setCell ⟨gn,i * 15+14,none⟩ v'):=by
 have hmu:=List.mem_of_getElem? hu
 have hbu:=h.blk _ hmu
 have hno:∀ b,bd<=b->¬ ownBlk u2 b:=fun b hb' ho'=>by have:=hbu b (.inr ho');omega
 have hsz:∀ {b o:Nat} {u:Value},W.cell? ⟨b,o,none⟩=some u->b < W.heap.size:=fun hc=>blk_of_cell hc
 have hk:∀ b,b < W.heap.size->bd<=b->b ≠ gn->(W1.setCell ⟨gn,i * 15+14,none⟩ v').heap[b]? = W.heap[b]?:=fun b h1 h2 h3=>(Below.heap_setCell _ _ _ b h3).trans (hb.same b h1 (hno b h2))
 have hgl:=h.row.lt
 refine ⟨rowM_words (h.row.keep (hb.same gn hgl (hno gn hgn))) h.own.len hx hu,⟨by rw [List.length_set,List.length_set];exact h.own.len,fun j y vv hy hv=>?_,fun u hu'=>?_,?_⟩,fun u hu' b hb'=>?_,?_,?_,h.map.keep (hk q h.map.lt hq hq2),?_⟩
 ·have hkb:∀ {j:Nat} {vv:Value × Value},us[j]? = some vv->∀ b,ownBlk vv.1 b ∨ ownBlk vv.2 b->b ≠ gn:=fun {j vv} hv b hb' e=>by
   have:=h.blk _ (List.mem_of_getElem? hv) b hb'
   omega
  rw [List.getElem?_set] at hy hv
  by_cases hij:i=j
  ·subst hij
   rw [if_pos rfl,if_pos (List.getElem?_eq_some_iff.1 hx).1] at hy
   rw [if_pos rfl,if_pos (List.getElem?_eq_some_iff.1 hu).1] at hv
   cases hy
   cases hv
   have h2:=h.own.each i x _ hx hu
   refine ⟨h2.gone.keep fun b hb' hlt=>(Below.heap_setCell _ _ _ b (hkb hu b (.inl hb'))).trans (hb.same b hlt (h2.apart b hb')),ho.keep fun b hb' _=>Below.heap_setCell _ _ _ b (hkb hu b (.inr (hbl b hb'))),fun b h1 h3=>h2.apart b h1 (hbl b h3)⟩
  ·rw [if_neg hij] at hy hv
   refine (h.own.each j y vv hy hv).keep fun b hb' hlt=>(Below.heap_setCell _ _ _ b (hkb hv b hb')).trans (hb.same b hlt fun h3=>?_)
   exact pairwise_apart h.own.apart hu hv hij b (.inr h3) hb'
 ·rcases List.mem_or_eq_of_mem_set hu' with h1 | h1
  ·exact h.own.row u h1
  ·subst h1
   exact⟨(h.own.row _ hmu).1,fun h3=>(h.own.row _ hmu).2 (hbl _ h3)⟩
 ·exact pairwise_set h.own.apart hu fun b hb'=>by
   rcases hb' with h1 | h1
   ·exact .inl h1
   ·exact .inr (hbl b h1)
 ·rcases List.mem_or_eq_of_mem_set hu' with h1 | h1
  ·exact h.blk u h1 b hb'
  ·subst h1
   exact hbu b (by rcases hb' with h2 | h2;exact .inl h2;exact .inr (hbl b h2))
 ·exact (World.cell?_of_block (a:=⟨nb,0,none⟩) (hk nb (hsz h.nb) hnb hnb2)).trans h.nb
 ·exact (World.cell?_of_block (a:=⟨mb,0,none⟩) (hk mb (hsz h.mb) hmb hmb2)).trans h.mb
 ·have h1:=hb.below (base:=base) (fun b hb'=>(h.own.blk hmu (.inr hb')).1) (by have:=h.ext.size;omega)
  rw [hbw] at h1
  exact (Below.trans h.ext h1).setCell hw v'
where
 pairwise_apart {us:List (Value × Value)} {i j:Nat} {a b:Value × Value} (h:us.Pairwise fun a b=>∀ k,ownBlk a.1 k ∨ ownBlk a.2 k->¬ (ownBlk b.1 k ∨ ownBlk b.2 k)) (ha:us[i]? = some a) (hb:us[j]? = some b) (hij:i ≠ j) (k:Nat) (h1:ownBlk a.1 k ∨ ownBlk a.2 k) (h2:ownBlk b.1 k ∨ ownBlk b.2 k):False:=by
  obtain⟨hi,rfl⟩:=List.getElem?_eq_some_iff.1 ha
  obtain⟨hj,rfl⟩:=List.getElem?_eq_some_iff.1 hb
  rcases Nat.lt_or_gt_of_ne hij with h3 | h3
  ·exact List.pairwise_iff_getElem.1 h i j hi hj h3 k h1 h2
  ·exact List.pairwise_iff_getElem.1 h j i hj hi h3 k h2 h1
 pairwise_set {us:List (Value × Value)} {i:Nat} {a a':Value × Value} (h:us.Pairwise fun a b=>∀ k,ownBlk a.1 k ∨ ownBlk a.2 k->¬ (ownBlk b.1 k ∨ ownBlk b.2 k)) (ha:us[i]? = some a) (hs:∀ k,ownBlk a'.1 k ∨ ownBlk a'.2 k->ownBlk a.1 k ∨ ownBlk a.2 k):(us.set i a').Pairwise fun a b=>∀ k,ownBlk a.1 k ∨ ownBlk a.2 k->¬ (ownBlk b.1 k ∨ ownBlk b.2 k):=by
  obtain⟨hi,rfl⟩:=List.getElem?_eq_some_iff.1 ha
  rw [List.pairwise_iff_getElem] at h ⊢
  intro j k hj hk hjk b h1 h2
  rw [List.length_set] at hj hk
  rw [List.getElem_set] at h1 h2
  split at h1
  ·rename_i e
   subst e
   rw [if_neg (by omega)] at h2
   exact h _ _ hj hk hjk b (hs b h1) h2
  ·split at h2
   ·rename_i e
    subst e
    exact h _ _ hj hk hjk b h1 (hs b h2)
   ·exact h _ _ hj hk hjk b h1 h2
theorem zip_left {cur:List Mbr} {us:List (Value × Value)} (h:us.length=cur.length):((cur.zip us).filter fun e=>!forgottenM cur e.1.path).map (·.1)=leftM cur:=by
 unfold leftM
 have e:=List.filter_map (f:=fun e:MP=>e.1) (p:=fun m:Mbr=>!forgottenM cur m.path) (l:=cur.zip us)
 have e2:(cur.zip us).map (fun e:MP=>e.1)=cur:=List.map_fst_zip (by omega)
 rw [e2] at e
 exact e.symm
theorem zip_back:∀ L:List MP,L=(L.map (·.1)).zip (L.map (·.2))
 | []=>rfl
 | e :: L=>by simp only [List.map_cons,List.zip_cons_cons];rw [<- zip_back L]
theorem OwnM.left {W:World} {base g gn bd:Nat} {cur:List Mbr} {us:List (Value × Value)} (h:OwnM W base g cur us) (p:MP->Bool) (hb:∀ u ∈ us,∀ b,ownBlk u.1 b ∨ ownBlk u.2 b->b < bd) (hg:bd<=gn) :
  OwnM W base gn (((cur.zip us).filter p).map (·.1)) (((cur.zip us).filter p).map (·.2))/\∀ u ∈ ((cur.zip us).filter p).map (·.2),∀ b,ownBlk u.1 b ∨ ownBlk u.2 b->b < bd:=by
 have hmem:∀ u ∈ ((cur.zip us).filter p).map (fun e:MP=>e.2),u ∈ us:=fun u hu=>by
  obtain⟨e,he,rfl⟩:=List.mem_map.1 hu
  exact (List.of_mem_zip (List.mem_filter.1 he).1).2
 have hbl:∀ u ∈ ((cur.zip us).filter p).map (fun e:MP=>e.2),∀ b,ownBlk u.1 b ∨ ownBlk u.2 b->b < bd:=fun u hu=>hb u (hmem u hu)
 refine ⟨⟨by simp,fun i x u hx hu=>?_,fun u hu=>⟨fun h1=>by have:=hbl u hu gn (.inl h1);omega,fun h1=>by have:=hbl u hu gn (.inr h1);omega⟩,?_⟩,hbl⟩
 ·rw [List.getElem?_map,Option.map_eq_some_iff] at hx hu
  obtain⟨e,he,rfl⟩:=hx
  obtain⟨e',he',rfl⟩:=hu
  rw [he] at he'
  cases he'
  obtain⟨j,hj⟩:=List.getElem?_of_mem (List.mem_filter.1 (List.mem_of_getElem? he)).1
  have:=List.getElem?_zip_eq_some.1 hj
  exact h.each j _ _ this.1 this.2
 ·have h1:(cur.zip us).map (fun e:MP=>e.2)=us:=List.map_snd_zip (by rw [h.len];exact Nat.le_refl _)
  have h2:=h.apart
  rw [<- h1] at h2
  exact h2.sublist (List.filter_sublist.map _)
theorem row_cell {W:World} {g T i j:Nat} {x:Mbr} {u:Value × Value} {v:Value} {l:List Mbr} {us:List (Value × Value)} {tail:List Value} (hrow:RowIs W g T (cellsM l us) tail) (hlen0:us.length=l.length) (hx:l[i]? = some x) (hu:us[i]? = some u) (hv:(mbrC x u.1 u.2)[j]? = some v):W.cell? ⟨g,i * 15+j,none⟩=some v:=by
 have hil:=(List.getElem?_eq_some_iff.1 hx).1
 have hl:l=l.take i++x :: l.drop (i+1):=by rw [<- (List.getElem?_eq_some_iff.1 hx).2,List.getElem_cons_drop,List.take_append_drop]
 have hus:us=us.take i++u :: us.drop (i+1):=by rw [<- (List.getElem?_eq_some_iff.1 hu).2,List.getElem_cons_drop,List.take_append_drop]
 have hlen:(us.take i).length=(l.take i).length:=by rw [List.length_take,List.length_take,hlen0]
 have hcl:=cellsM_len (l:=l.take i) (us:=us.take i) hlen
 rw [show (l.take i).length=i by rw [List.length_take];omega] at hcl
 refine hrow.cell ?_
 rw [hl,hus,cellsM_append hlen,cellsM_one,List.getElem?_append_right (by omega),hcl,Nat.add_sub_cancel_left,List.getElem?_append_left (by have:=(List.getElem?_eq_some_iff.1 hv).1;omega)]
 exact hv
theorem wordsM_filter (K:List Mbr) (x:Mbr):x.words.filter (fun m=>keepB K m.of)=(wordsM K x).words:=by
 unfold wordsM keepW keepB atP
 simp only
 congr 1
 funext m
 cases idxP K m.of with
 | none=>rfl
 | some j=>cases h:K[j]? <;> simp [h]
theorem cop_cell {w:World} {base g n c i:Nat} {x:Mbr} {l:List Mbr} (h:CopyM w base (.slice (some ⟨g,0,none⟩) n c) l) (hx:l[i]? = some x) (j:Nat) (hj:j < 5) :
  w.cell? ⟨g,i * 15+j,none⟩=(mbrC x (.slice none 0 0) (.slice none 0 0))[j]?:=by
 have hil:=(List.getElem?_eq_some_iff.1 hx).1
 have hl:l=l.take i++x :: l.drop (i+1):=by rw [<- (List.getElem?_eq_some_iff.1 hx).2,List.getElem_cons_drop,List.take_append_drop]
 have hti:(l.take i).length=i:=by rw [List.length_take];omega
 have hsl:=h.sl
 obtain⟨A,c',e,-,-⟩:=hsl.form
 injection e with e1 e2 e3
 subst e1 e2 e3
 obtain⟨b,o,B1,d1,B2,d2,e,-,-,-,hc⟩:=mbr_at (wr:=w) hsl (fun _ _ _=>rfl) hl
 simp only [Option.some.injEq,Addr.mk.injEq,and_true] at e
 obtain⟨rfl,rfl⟩:=e
 rw [hti,Nat.zero_add] at hc
 rcases (show j=0 ∨ j=1 ∨ j=2 ∨ j=3 ∨ j=4 by omega) with rfl | rfl | rfl | rfl | rfl
 all_goals exact hc _ _ rfl
theorem bare_any {S:Nat->Prop} {v:Value} {l:List Mbr} {w:World} (hv:Sl mbrT w S v l) (sm:SmallL l) (h0:0 < l.length) (hp:∀ x ∈ l,x.path.length < 4294967296) :
  Calls Tryz.prog 32 #[v] w fun e w'=>∃ v',e=.returned v'/\Sl mbrT w' (fun b=>w.heap.size<=b) v' (bareM l)/\Ext w w':=by
 have HC:=Lib.hid (copyM_any hv sm)
 have hl32:=sm.len
 have hmk:=run_make_row' (P:=Tryz.prog) 98 3 (I 0) 8 Tryz.underlying98 info_int rfl .i64 .i64 l.length (by omega) (by omega)
 have HMK:=Lib.hid hmk
 clear hv hmk
 go_enter Tryz.func32,Tryz.ntmps32
 go_wp2_with fail
 refine HC.out.mono ?_
 rintro e w1 ⟨v1,rfl,hcp,hx1⟩
 rcases hcp with ⟨rfl,-⟩ | ⟨g,c,us,tail,rfl,hct,hcm,hbg,hrow,hom⟩
 ·simp at h0
 have hcpm:CopyM w1 w.heap.size (.slice (some ⟨g,0,none⟩) l.length c) l:=.inr ⟨g,c,us,tail,rfl,hct,hcm,hbg,hrow,hom⟩
 have hsl:=hcpm.sl
 have HPL:=Lib.hid (fun W (h:Ext w1 W)=>places_any (hsl.ext (by decide) h))
 clear HC
 go_wp2_with fail
 refine (HPL.out _ ((Ext.refl w1).alloc _)).mono ?_
 rintro e w2 ⟨q,rfl,hq,hm,hx2⟩
 have hx12:=((Ext.refl w1).alloc (.cells #[.slice (some ⟨g,0,none⟩) l.length c] 22)).trans hx2
 have htb:w2.cell? ⟨w1.heap.size,0,none⟩=some (.slice (some ⟨g,0,none⟩) l.length c):=hx2.cell (by simp [go_sem])
 have hx3:=(Ext.refl w2).alloc (.cells #[.map (some q)] 78)
 have hmb:(w2.alloc (.cells #[.map (some q)] 78)).cell? ⟨w2.heap.size,0,none⟩=some (.map (some q)):=by simp [go_sem]
 have htb3:=hx3.cell htb
 have hmbf:(w2.alloc (.cells #[.map (some q)] 78)).frozen? ⟨w2.heap.size,0,none⟩=false:=(box_new w2 _ _).2
 have hmk3:=HMK.out (w2.alloc (.cells #[.map (some q)] 78))
 simp only [World.size_alloc] at hq hmk3
 have hgw:=hrow.lt
 have hgt:g < w1.heap.size:=hrow.lt
 have hrow4:RowI ((w2.alloc (.cells #[.map (some q)] 78)).alloc (.cells (madeCells #[I 0] l.length) 3)) (w2.heap.size+1) (List.replicate l.length 0) []:=by
  have h:=rowNew (w2.alloc (.cells #[.map (some q)] 78)) 3 ((List.replicate l.length (0:Int)).map I)
  rw [World.size_alloc] at h
  rw [show madeCells #[I 0] l.length=((List.replicate l.length (0:Int)).map I).toArray by rw [<- Array.toList_inj,toList_madeCells_one];simp]
  exact h
 have HUS:=Lib.hid (fun u (hu:u ∈ us) b (hb:ownBlk u.1 b ∨ ownBlk u.2 b)=>(hom.blk hu hb).2)
 have hx4:=(Ext.refl (w2.alloc (.cells #[.map (some q)] 78))).alloc (.cells (madeCells #[I 0] l.length) 3)
 have hm3:=hm.ext hx3
 have hsz3:(w2.alloc (.cells #[.map (some q)] 78)).heap.size=w2.heap.size+1:=by simp
 have hq2:=hm.lt
 have hx03:Ext w (w2.alloc (.cells #[.map (some q)] 78)):=(hx1.trans hx12).trans hx3
 have hrow3:=hrow.ext (hx12.trans hx3)
 have hom3:=hom.ext (hx12.trans hx3)
 have hcp3:CopyM (w2.alloc (.cells #[.map (some q)] 78)) w.heap.size (.slice (some ⟨g,0,none⟩) l.length c) l:=.inr ⟨g,c,us,tail,rfl,hct,hcm,hbg,hrow.ext (hx12.trans hx3),hom.ext (hx12.trans hx3)⟩
 have hmb2:w2.heap.size < (w2.alloc (.cells #[.map (some q)] 78)).heap.size:=by simp
 go_wp2_with fail
 clear hmk3 HPL hsl hcpm hx12 hx2 htb hx3 hm
 generalize hW3:w2.alloc (.cells #[.map (some q)] 78)=w3 at *
 generalize hW4:w3.alloc (.cells (madeCells #[I 0] l.length) 3)=w4 at *
 clear hW3 hW4 hx1
 have hus:Hid (∀ u ∈ us,∀ b,ownBlk u.1 b ∨ ownBlk u.2 b->b < w1.heap.size):=HUS
 generalize w1.heap.size=tb at *
 generalize w2.heap.size=mb at *
 generalize hgo:mb+1=go at *
 have HMF:=Lib.hid hmbf
 have HF3:=Lib.hid (And.intro (And.intro htb3 hmb) (And.intro hm3 (And.intro hx03 hcp3)))
 have HRO:=Lib.hid (And.intro hrow3 hom3)
 clear hrow hom hrow3 hom3
 have HG:=Lib.hid (show w.heap.size<=g/\g < tb/\tb+1<=q/\q < mb/\mb+1=go/\w3.heap.size=go from ⟨hbg,hgt,hq,hq2,hgo,hsz3⟩)
 clear htb3 hmb hmbf hm3 hx03 hcp3 hbg hgt hgw hq hq2 hgo hsz3 hmb2
 go_loopw [22,6] (fun i j wr=>∃ k:Nat,i=I k/\k<=l.length/\RowI wr go ((List.range k).map (fun (j:Nat)=>(j:Int))++List.replicate (l.length - k) 0) []/\Ext w3 wr) (fun i _ _=>l.length - (intOf i).toNat)
 case atStart=>exact⟨0,rfl,Nat.zero_le _,by simpa using hrow4,hx4⟩
 case round =>
  obtain⟨k,rfl,hk,hrw,hx⟩:=hrel
  by_cases hlt:k < l.length
  ·have d:(k:Int) < l.length:=by omega
   obtain⟨r,hr⟩:∃ r,l.length - k=r+1:=⟨l.length - k - 1,by omega⟩
   rw [hr,List.replicate_succ] at hrw
   have hkl:k=((List.range k).map (fun (j:Nat)=>(j:Int))).length:=by simp
   have k1:=hrw.cellAt hkl
   have f1:=hrw.frozen k
   have hgw:=hrw.lt
   have r2:=hrw.setAt hkl (k:Int)
   have hown:w3.heap.size<=go:=by have:=HG.out;omega
   have x2:=hx.set (p:=⟨go,k,none⟩) hown (I k)
   have HR:=Lib.hid (And.intro r2 (And.intro x2 hr))
   clear hrw hx r2 x2 hr hkl
   go_wp2_with fail
   go_roundw
   case rel =>
    refine ⟨k+1,rfl,by omega,?_,HR.out.2.1⟩
    have h:=HR.out.1
    rw [show l.length - (k+1)=r by have:=HR.out.2.2;omega,List.range_succ,List.map_append]
    simpa using h
   case measure=>simp [intOf];omega
  ·have d:¬ (k:Int) < l.length:=by omega
   obtain rfl:k=l.length:=by omega
   have hrw:RowI wr go ((List.range l.length).map (fun (j:Nat)=>(j:Int))) []:=by simpa using hrw
   have HAL:=Lib.hid (fun (i:Nat) x (h:l[i]? = some x)=>(show x.path.length < 4294967296/\i < l.length from ⟨hp x (List.mem_of_getElem? h),(List.getElem?_eq_some_iff.1 h).1⟩))
   have hcells:∀ (i:Nat) x,l[i]? = some x->wr.cell? ⟨g,i * 15,none⟩=some (St x.path):=fun i x hix=>hx.cell (cop_cell HF3.out.2.2.2 hix 0 (by omega))
   have hcmp:CmpP tb (.slice (some ⟨go,0,none⟩) l.length l.length) (fun W=>W.cell? ⟨tb,0,none⟩=some (.slice (some ⟨g,0,none⟩) l.length c)/\∀ (i:Nat) x,l[i]? = some x->W.cell? ⟨g,i * 15,none⟩=some (St x.path)) (fun z=>∃ i:Nat,z=i/\i < l.length) (keyB l) (fun x y=>cmpI (keyB l x:Int) (keyB l y:Int)):=by
    refine ⟨fun W W' h hb=>?_,?_,fun x y=>?_⟩
    ·have hk:∀ {b o:Nat} {u:Value},b < go->W.cell? ⟨b,o,none⟩=some u->W'.cell? ⟨b,o,none⟩=some u:=fun {b o u} hbg hc =>
      (World.cell?_of_block (a:=⟨b,o,none⟩) (hb.same b (blk_of_cell hc) (fun ho=>by obtain⟨g',n',c',e,-,rfl⟩:=ho;injection e with e1;simp only [Option.some.injEq,Addr.mk.injEq] at e1;omega))).trans hc
     have:=HG.out
     exact⟨hk (by omega) h.1,fun i x hix=>hk (by omega) (h.2 i x hix)⟩
    ·rintro x y W ⟨i,rfl,hi⟩ ⟨j,rfl,hj⟩ ⟨h1,h2⟩
     have ei:=List.getElem?_eq_getElem hi
     have ej:=List.getElem?_eq_getElem hj
     rw [keyB_at ei,keyB_at ej]
     have:=(HAL.out i _ ei).1
     have:=(HAL.out j _ ej).1
     exact bare1_any h1 (h2 i _ ei) (h2 j _ ej) hi hj (by omega) (by omega)
    ·unfold cmpI
     by_cases h1:keyB l x < keyB l y
     ·rw [if_pos (by omega)]
      simp [h1]
     ·rw [if_neg (by omega)]
      split <;> simp [h1]
   have HST:=Lib.hid (sortstable_any hcmp (by omega) (Nat.le_refl _) hrw (by simp) ⟨hx.cell HF3.out.1.1,hcells⟩ (fun z hz=>by
    obtain⟨j,hj,rfl⟩:=List.mem_map.1 hz
    exact⟨j,rfl,List.mem_range.1 hj⟩))
   have HX3:=Lib.hid hx
   clear hcmp hcells hx hrw d
   go_wp2_with fail
   refine HST.out.mono ?_
   rintro e w5 ⟨rfl,⟨Z,hrz,hzp,hzs⟩,hb5⟩
   have hrb:RowB l w.heap.size g c tb mb q us tail w l w5:=by
    have hg:=HG.out
    have hx:=HX3.out
    have hbx:∀ b,b < go->w5.heap[b]? = w3.heap[b]?:=fun b hb=>(hb5.same b (by have:=hx.size;omega) (fun ho=>by obtain⟨g',n',c',e,-,rfl⟩:=ho;injection e with e1;simp only [Option.some.injEq,Addr.mk.injEq] at e1;omega)).trans (hx.block b (by omega))
    have hk:∀ {b o:Nat} {u:Value},b < go->w3.cell? ⟨b,o,none⟩=some u->w5.cell? ⟨b,o,none⟩=some u:=fun {b o u} hb hc=>(World.cell?_of_block (a:=⟨b,o,none⟩) (hbx b hb)).trans hc
    refine ⟨HRO.out.1.keep (hbx g (by omega)),HRO.out.2.keep (fun b _ _ hb=>hbx b (by omega)),hk (by omega) HF3.out.1.1,(World.frozen?_of_block (a:=⟨mb,0,none⟩) (hbx mb (by omega))).trans HMF.out,hk (by omega) HF3.out.1.2,HF3.out.2.1.keep (hbx q (by omega)),?_⟩
    have h3:=HF3.out.2.2.1
    exact⟨hb5.os.trans (hx.os.trans h3.os),hb5.tape.trans (hx.tape.trans h3.tape),hb5.output.trans (hx.output.trans h3.output),Nat.le_trans h3.size (Nat.le_trans hx.size hb5.size),fun b hb=>(hbx b (by have:=h3.size;omega)).trans (h3.block b hb)⟩
   have HRB:=Lib.hid (And.intro hrb hrz)
   have HZ:=Lib.hid (And.intro hzp hzs)
   have hzl:Z.length=l.length:=by rw [hzp.length_eq];simp
   clear HST hb5 hrb hrz hzp hzs HX3 HF3 HRO HMF hx4 hrow4
   go_wp2_with fail
   go_loopw [35,8] (fun i j wr=>∃ A B,Z=A++B/\i=I A.length/\RowB l w.heap.size g c tb mb q us tail w (partV l A) wr/\RowI wr go Z []) (fun i _ _=>l.length - (intOf i).toNat)
   case atStart=>exact⟨[],Z,rfl,rfl,by rw [partV_nil];exact HRB.out.1,HRB.out.2⟩
   case round =>
    obtain⟨A,B,hAB,rfl,hrb,hrz⟩:=hrel
    cases B with
    | nil =>
     rw [List.append_nil] at hAB
     subst hAB
     have hd:¬ ((Z.length:Nat):Int) < l.length:=by omega
     have hall:partV l Z=voidedM l:=partV_all (fun j hj=>HZ.out.1.symm.subset (List.mem_map.2 ⟨j,List.mem_range.2 hj,rfl⟩))
     rw [hall] at hrb
     obtain⟨wo,rfl⟩:∃ wo:World,wo=wr:=⟨_,rfl⟩
     have ht1:=(hrb.ext' ((Ext.refl wo).alloc (.cells #[.slice none 0 0] 22))).tb
     have hnb:=rowNew wo 22 [.slice none 0 0]
     have hxo:=(Ext.refl wo).alloc (.cells #[.slice none 0 0] 22)
     have HB2:=Lib.hid hrb
     have hvl:(voidedM l).length=l.length:=by simp [voidedM]
     have HVL:=Lib.hid hvl
     have hpv:Hid (∀ x ∈ voidedM l,x.path.length < 4294967296):=Lib.hid (fun x hx=>by
      obtain⟨y,hy,rfl⟩:=List.mem_map.1 hx
      rw [vset_path]
      exact hp y hy)
     have hplc:placesL (voidedM l)=placesL l:=by rw [<- hall];exact places_part l Z
     have HPC:=Lib.hid hplc
     clear hrb hrz hall HRB HZ hvl hplc
     obtain⟨cur,hcur⟩:∃ cur,voidedM l=cur:=⟨_,rfl⟩
     rw [hcur] at HB2 HVL hpv HPC
     go_wp2_with fail
     generalize hw7:wo.alloc (.cells #[.slice none 0 0] 22)=w7 at *
     clear hw7
     have HN0:=Lib.hid (And.intro hnb hxo)
     clear hnb ht1 hxo
     obtain⟨nb,hnbe⟩:∃ nb,wo.heap.size=nb:=⟨_,rfl⟩
     have HNB:=Lib.hid hnbe
     rw [hnbe] at HN0 ⊢
     clear hnbe
     go_loopw [58] (fun i wr=>∃ (k:Nat) (vn:Value),i=I k/\k<=l.length/\RowIs wr nb 22 [vn] []/\Own wr (nb+1) 48 15 vn (((cur.zip us).take k).filter fun e=>!forgottenM cur e.1.path).length ((((cur.zip us).take k).filter fun e=>!forgottenM cur e.1.path).flatMap mpC)/\Ext wo wr) (fun i _=>l.length - (intOf i).toNat)
     case atStart=>exact⟨0,.slice none 0 0,rfl,Nat.zero_le _,HN0.out.1,Own.nil _ _ _ _ _,HN0.out.2⟩
     case round =>
      obtain⟨k,vn,rfl,hk,hnb,hown,hx⟩:=hrel
      by_cases hlt:k < l.length
      ·have d:(k:Int) < l.length:=by omega
       obtain⟨x,hxk⟩:∃ x,cur[k]? = some x:=⟨_,List.getElem?_eq_getElem (by have:=HVL.out;omega)⟩
       obtain⟨⟨u1,u2⟩,huk⟩:∃ u,us[k]? = some u:=⟨_,List.getElem?_eq_getElem (by have:=HVL.out;have:=HB2.out.own.len;omega)⟩
       have ho2:=HB2.out.own.each k x _ hxk huk
       obtain⟨B1,d1,e1,-,-⟩:=ho2.gone.form
       obtain⟨B2,d2,e2,-,-⟩:=ho2.words.form
       simp only at e1 e2
       subst e1 e2
       have hrb:=HB2.out.ext' hx
       have hcop:=hrb.copy HVL.out hct hcm (by have:=HG.out;omega)
       have hcut:RowIs wr g 48 (cellsM (cur.take k) (us.take k)++mbrC x (.slice B1 x.gone.length d1) (.slice B2 x.words.length d2)++cellsM (cur.drop (k+1)) (us.drop (k+1))) tail:=by
        have h:=hrb.row
        have e1:cur=cur.take k++x :: cur.drop (k+1):=by rw [<- (List.getElem?_eq_some_iff.1 hxk).2,List.getElem_cons_drop,List.take_append_drop]
        have e2:us=us.take k++(.slice B1 x.gone.length d1,.slice B2 x.words.length d2) :: us.drop (k+1):=by rw [<- (List.getElem?_eq_some_iff.1 huk).2,List.getElem_cons_drop,List.take_append_drop]
        rw [e1,e2,cellsM_append (by rw [List.length_take,List.length_take,HB2.out.own.len]),cellsM_one] at h
        rw [List.append_assoc]
        exact h
       have hpl:k * 15=(cellsM (cur.take k) (us.take k)).length:=by rw [cellsM_len (by rw [List.length_take,List.length_take,HB2.out.own.len]),List.length_take];have:=HVL.out;congr 1;omega
       obtain⟨k0,k1,k2,k3,k4,k5,k6,k7,k8,k9,k10,k11,k12,k13,k14⟩:=hcut.m15 hpl
       rw [Nat.add_zero] at k0
       have t1:=hrb.tb
       have t2:=hrb.mb
       have hgw:=hrb.row.lt
       have hnbc:=hnb.cell (j:=0) rfl
       have hnbl:=hnb.lt
       have hj:=rowNew wr 48 [St x.path,U8 x.status,I x.kids,I x.cut,U x.last,.slice B1 x.gone.length d1,St x.plan.keeper,U x.plan.round,St x.plan.live,St x.plan.by_,U x.plan.cap,St x.plan.owner,U x.plan.base,.bool x.plan.done,.slice B2 x.words.length d2]
       have hxb:=(Ext.refl wr).alloc (.cells #[St x.path,U8 x.status,I x.kids,I x.cut,U x.last,.slice B1 x.gone.length d1,St x.plan.keeper,U x.plan.round,St x.plan.live,St x.plan.by_,U x.plan.cap,St x.plan.owner,U x.plan.base,.bool x.plan.done,.slice B2 x.words.length d2] 48)
       have j0:=hj.c15.1
       have t1':=hxb.cell t1
       have t2':=hxb.cell t2
       have HFG:=Lib.hid (show Calls Tryz.prog 51 #[.slice (some ⟨g,0,none⟩) l.length c,.map (some q),St x.path] _ fun e w'=>e=.returned (.bool (forgottenM cur x.path))/\Ext _ w' from forgotten_any ((hrb.ext' hxb).copy HVL.out hct hcm (by have:=HG.out;omega)).sl (by rw [HPC.out];exact (hrb.ext' hxb).map) x.path (hpv.out x (List.mem_of_getElem? hxk)))
       have HR:=Lib.hid (And.intro hx (And.intro hnb hown))
       have HJ:=Lib.hid (And.intro hj hxb)
       have HK:=Lib.hid (And.intro hxk huk)
       have hsz:wr.heap.size < (wr.alloc (.cells #[St x.path,U8 x.status,I x.kids,I x.cut,U x.last,.slice B1 x.gone.length d1,St x.plan.keeper,U x.plan.round,St x.plan.live,St x.plan.by_,U x.plan.cap,St x.plan.owner,U x.plan.base,.bool x.plan.done,.slice B2 x.words.length d2] 48)).heap.size:=by simp
       clear hcop hrb hcut hpl hnb hown hx hj hxb hxk huk ho2
       go_wp2_with fail
       clear k0 k1 k2 k3 k4 k5 k6 k7 k8 k9 k10 k11 k12 k13 k14 j0 t1 t2 t1' t2' hnbc
       refine HFG.out.mono ?_
       rintro e w6 ⟨rfl,hx6⟩
       have hxw:=HJ.out.2.trans hx6
       have hlen1:(((cur.zip us).take k).filter fun e=>!forgottenM cur e.1.path).length<=4294967296:=by
        refine Nat.le_trans (List.length_filter_le _ _) ?_
        rw [List.length_take]
        omega
       have hzip:(cur.zip us).take (k+1)=(cur.zip us).take k++[(x,.slice B1 x.gone.length d1,.slice B2 x.words.length d2)]:=by
        rw [List.take_add_one]
        congr 1
        have:(cur.zip us)[k]? = some (x,.slice B1 x.gone.length d1,.slice B2 x.words.length d2):=by
         rw [List.getElem?_zip_eq_some]
         exact HK.out
        rw [this]
        rfl
       have HZI:=Lib.hid (And.intro hzip hlen1)
       clear hzip HFG
       cases hfg:forgottenM cur x.path with
       | true =>
        have hflt:((cur.zip us).take (k+1)).filter (fun e=>!forgottenM cur e.1.path)=((cur.zip us).take k).filter (fun e=>!forgottenM cur e.1.path):=by
         rw [HZI.out.1,List.filter_append]
         simp [hfg]
        have HFL:=Lib.hid hflt
        have HXW:=Lib.hid hxw
        clear hflt hxw hx6 hfg
        go_wp2_with fail
        go_roundw
        case rel=>exact⟨k+1,vn,by simp,by omega,HR.out.2.1.ext HXW.out,by rw [HFL.out];exact HR.out.2.2.ext HXW.out,HR.out.1.trans HXW.out⟩
        case measure=>simp [intOf];omega
       | false =>
        have hflt:((cur.zip us).take (k+1)).filter (fun e=>!forgottenM cur e.1.path)=((cur.zip us).take k).filter (fun e=>!forgottenM cur e.1.path)++[(x,.slice B1 x.gone.length d1,.slice B2 x.words.length d2)]:=by
         rw [HZI.out.1,List.filter_append]
         simp [hfg]
        have HFL:=Lib.hid hflt
        have hnb6:=HR.out.2.1.ext hxw
        have hnbc:=hnb6.cell (j:=0) rfl
        obtain⟨j0,j1,j2,j3,j4,j5,j6,j7,j8,j9,j10,j11,j12,j13,j14⟩:=(HJ.out.1.ext hx6).c15
        have hs6:=hxw.size
        have hxa:=hxw.trans ((Ext.refl w6).alloc (.cells #[St x.path,U8 x.status,I x.kids,I x.cut,U x.last,.slice B1 x.gone.length d1,St x.plan.keeper,U x.plan.round,St x.plan.live,St x.plan.by_,U x.plan.cap,St x.plan.owner,U x.plan.base,.bool x.plan.done,.slice B2 x.words.length d2] 48))
        have HXA:=Lib.hid (And.intro hxa (And.intro (HR.out.2.2.ext hxa) (HR.out.2.1.ext hxa)))
        obtain⟨nl,hnl⟩:∃ nl,(((cur.zip us).take k).filter fun e=>!forgottenM cur e.1.path).length=nl:=⟨_,rfl⟩
        obtain⟨xs,hxs⟩:∃ xs,((((cur.zip us).take k).filter fun e=>!forgottenM cur e.1.path).flatMap mpC)=xs:=⟨_,rfl⟩
        have hown6:Own (w6.alloc (.cells #[St x.path,U8 x.status,I x.kids,I x.cut,U x.last,.slice B1 x.gone.length d1,St x.plan.keeper,U x.plan.round,St x.plan.live,St x.plan.by_,U x.plan.cap,St x.plan.owner,U x.plan.base,.bool x.plan.done,.slice B2 x.words.length d2] 48)) (nb+1) 48 15 vn nl xs:=by rw [<- hnl,<- hxs];exact HXA.out.2.1
        have hnl2:nl<=4294967296:=by rw [<- hnl];exact hlen1
        have HNL:=Lib.hid (And.intro hnl hxs)
        obtain⟨Av,cv,rfl,-,-⟩:=hown6.form
        have HOW:=Lib.hid hown6
        clear hflt hxw hx6 hfg hlen1 hxa hnb6 hnl hxs hown6
        go_wp2_with (at_builtin;refine wpList_append_Own rfl (.tmp 68) (.tmp 70) 22 rfl (nb+1) 48 15 192 zeroMbr Tryz.underlying22 info_mbr rfl (by omega) _ nl xs rfl HOW.out _ 1 1 _ rfl (Src.new rfl (mbrC_one (x:=x) (v1:=.slice B1 x.gone.length d1) (v2:=.slice B2 x.words.length d2) rfl rfl)) (by omega) (by omega) (by simp;omega) ?_;intro v' w' hown2 hgr;obtain⟨Aw,cw,rfl,-,-⟩:=hown2.form;have hn7:=HXA.out.2.2.keep (hgr.same nb HXA.out.2.2.lt (fun ho=>by have:=(HOW.out.base_le ho).1;omega));have hn7c:=hn7.cell (j:=0) rfl;have hn7f:=hn7.frozen 0;have HGR:=Lib.hid (And.intro hgr hn7);have HO2:=Lib.hid hown2;clear hgr hn7 hown2 j0 j1 j2 j3 j4 j5 j6 j7 j8 j9 j10 j11 j12 j13 j14 hnbc)
        go_roundw
        case rel =>
         have hne:∀ b,ownBlk (.slice Aw (nl+1) cw) b->b ≠ nb:=fun b hb e=>by have:=(HO2.out.base_le hb).1;omega
         refine ⟨k+1,.slice Aw (nl+1) cw,by simp,by omega,HGR.out.2.set (j:=0) (by simp) _,?_,?_⟩
         ·rw [HFL.out,List.length_append,List.flatMap_append,HNL.out.1,HNL.out.2]
          refine Own.keep (w:=w') ?_ (fun b hb _=>Below.heap_setCell _ _ _ b (hne b hb))
          simpa [mpC,mbrC] using HO2.out
         ·exact ((HR.out.1.trans HXA.out.1).grewOwn HGR.out.1 HOW.out (by have:=HNB.out;omega)).set (by have:=HNB.out;simp;omega) _
        case measure=>simp [intOf];omega
      ·have d:¬ (k:Int) < l.length:=by omega
       obtain rfl:k=l.length:=by omega
       have htk:(cur.zip us).take l.length=cur.zip us:=List.take_of_length_le (by rw [List.length_zip];have:=HVL.out;omega)
       rw [htk] at hown
       obtain⟨L,hL⟩:∃ L,(cur.zip us).filter (fun e=>!forgottenM cur e.1.path)=L:=⟨_,rfl⟩
       rw [hL] at hown
       have hlen0:=HB2.out.own.len
       have hK:L.map (·.1)=leftM cur:=by
        rw [<- hL]
        exact zip_left hlen0
       have hbare:bareM l=(leftM cur).map (wordsM (leftM cur)):=by unfold bareM;rw [hcur]
       have hLl:L.length=(leftM cur).length:=by rw [<- hK,List.length_map]
       have hLle:L.length<=4294967296:=by
        rw [<- hL]
        refine Nat.le_trans (List.length_filter_le _ _) ?_
        rw [List.length_zip]
        have:=HVL.out
        omega
       have homL:=(HB2.out.own.ext hx).left (gn:=wr.heap.size) (bd:=tb) (fun e=>!forgottenM cur e.1.path) hus.out (by have h:=blk_of_cell HB2.out.tb;have:=hx.size;omega)
       rw [hL] at homL
       have HBR:=Lib.hid (And.intro hbare (And.intro hK hLl))
       have hnbc:=hnb.cell (j:=0) rfl
       have hnbl:=hnb.lt
       have hrbW:=HB2.out.ext' hx
       have hmbl:mb < wo.heap.size:=blk_of_cell HB2.out.mb
       have htbl:tb < wo.heap.size:=blk_of_cell HB2.out.tb
       clear hk hlt htk hlen0 hL hK hbare
       rcases Nat.eq_zero_or_pos L.length with hl0 | hl0
       ·have hnil:L = []:=List.eq_nil_of_length_eq_zero hl0
        subst hnil
        obtain⟨A0,c0,rfl,-,-⟩:=hown.form
        have hbn:bareM l = []:=by rw [HBR.out.1,List.eq_nil_of_length_eq_zero HBR.out.2.2.symm];rfl
        have HPN:=Lib.hid (places_any (w:=wr) (Sl.nil (T:=mbrT) (S:=fun _=>False) A0 c0 (by obtain⟨_,_,e,_,h⟩:=hown.form;injection e with _ _ e3;omega)))
        have HR9:=Lib.hid (And.intro hnb hrbW)
        have hsn:∀ W:World,Sl mbrT W (fun b=>w.heap.size<=b) (.slice A0 0 c0) (bareM l):=fun W=>by rw [hbn];exact Sl.nil A0 c0 (by obtain⟨_,_,e,_,h⟩:=hown.form;injection e with _ _ e3;omega)
        have HSN:=Lib.hid hsn
        have hmn:mb < nb:=by have:=HNB.out;omega
        clear homL hown hnb hx hrbW hmbl htbl hLl hsn hbn
        go_wp2_with fail
        refine HPN.out.mono ?_
        rintro e w8 ⟨q2,rfl,hq2,hm2,hx8⟩
        have hr8:=HR9.out.2.ext' hx8
        have hmb8:=hr8.mb
        have hmf8:=hr8.mbf
        have hnb8:=(HR9.out.1.ext hx8).cell (j:=0) rfl
        have hnb9:(w8.setCell ⟨mb,0,none⟩ (.map (some q2))).cell? ⟨nb,0,none⟩=some (.slice A0 0 c0):=(World.cell?_of_block (a:=⟨nb,0,none⟩) (Below.heap_setCell _ ⟨mb,0,none⟩ _ nb (by show nb ≠ mb;omega))).trans hnb8
        have HX9:=Lib.hid (hr8.ext.set (p:=⟨mb,0,none⟩) (by have:=HG.out;show w.heap.size<=mb;omega) (.map (some q2)))
        have HN9:=Lib.hid hnb9
        clear hr8 hm2 hx8 hq2
        go_wp2_with fail
        clear hmb8 hmf8 hnb8 hnb9 hmn
        generalize w8.setCell ⟨mb,0,none⟩ (.map (some q2))=w9 at *
        go_loopw [77] (fun i wr=>i=I 0/\wr=w9) (fun _ _=>0)
        case atStart=>exact⟨rfl,rfl⟩
        case round =>
         obtain⟨rfl,rfl⟩:=hrel
         have hnbc:=HN9.out
         go_wp2
         go_ret
         exact⟨_,rfl,HSN.out _,HX9.out⟩
       ·obtain⟨gn,cap,tail2,rfl,hgn,hrowL,hncap,hcap,hcapl⟩:=hown.row hl0
        have hzip:L=(L.map (·.1)).zip (L.map (·.2)):=zip_back L
        have hcl:cellsM (L.map (·.1)) (L.map (·.2))=L.flatMap mpC:=by rw [cellsM_mp,<- hzip]
        rw [<- hcl] at hrowL
        have hgnl:=hrowL.lt
        have homG:OwnM wr w.heap.size gn (L.map (·.1)) (L.map (·.2)):=⟨homL.1.len,homL.1.each,fun u hu=>⟨fun h=>by have:=homL.2 u hu gn (.inl h);have:=HNB.out;omega,fun h=>by have:=homL.2 u hu gn (.inr h);have:=HNB.out;omega⟩,homL.1.apart⟩
        have hslK:Sl mbrT wr (fun b=>w.heap.size<=b) (.slice (some ⟨gn,0,none⟩) L.length cap) (leftM cur):=by
         have hc:CopyM wr w.heap.size (.slice (some ⟨gn,0,none⟩) L.length cap) (L.map (·.1)):=.inr ⟨gn,cap,L.map (·.2),tail2,by rw [List.length_map],by rw [List.length_map];rw [List.length_append,mpC_len] at hcapl;exact hcapl,hcap,by have:=hrbW.ext.size;have:=hx.size;have:=HNB.out;have:=HB2.out.ext.size;omega,hrowL,homG⟩
         have:=hc.sl
         rwa [HBR.out.2.1] at this
        have HPN:=Lib.hid (places_any hslK)
        have HR9:=Lib.hid (And.intro (And.intro hrowL homG) (And.intro homL.2 (And.intro hnb (And.intro hx hrbW))))
        have HN9:=Lib.hid (And.intro hgn (And.intro (And.intro hmbl htbl) hcapl))
        clear homL hown hrowL homG hslK hnb hx hrbW hzip hcl hgn hcapl hmbl htbl hLl
        go_wp2_with fail
        refine HPN.out.mono ?_
        rintro e w8 ⟨q2,rfl,hq2,hm2,hx8⟩
        have hr8:=HR9.out.2.2.2.2.ext' hx8
        have hmb8:=hr8.mb
        have hmf8:=hr8.mbf
        have hnb8:=(HR9.out.2.2.1.ext hx8).cell (j:=0) rfl
        have hmn:mb < nb:=by have:=HN9.out.2.1.1;have:=HNB.out;omega
        have htn:tb < nb:=by have:=HN9.out.2.1.2;have:=HNB.out;omega
        have hgn:=HN9.out.1
        have hwm:w.heap.size<=mb:=by have:=HG.out;omega
        have hnx:NxB (leftM cur) w.heap.size gn L.length cap nb mb q2 tb tail2 w (leftM cur) (L.map (·.2)) (w8.setCell ⟨mb,0,none⟩ (.map (some q2))):=by
         have hoth:∀ b,b ≠ mb->(w8.setCell ⟨mb,0,none⟩ (.map (some q2))).heap[b]? = w8.heap[b]?:=fun b hb=>Below.heap_setCell _ ⟨mb,0,none⟩ _ b hb
         have hrw:=HR9.out.1.1.ext hx8
         have hom:=HR9.out.1.2.ext hx8
         rw [HBR.out.2.1] at hrw hom
         have htm:=HG.out
         have hmbl:=blk_of_cell HB2.out.mb
         have hxs:=HR9.out.2.2.2.1.size
         refine ⟨hrw.keep (hoth gn (by omega)),⟨hom.len,fun i x u hx hu=>(hom.each i x u hx hu).keep fun b hb _=>hoth b (by have:=HR9.out.2.1 u (List.mem_of_getElem? hu) b hb;omega),hom.row,hom.apart⟩,HR9.out.2.1,(World.cell?_of_block (a:=⟨nb,0,none⟩) (hoth nb (by omega))).trans hnb8,World.cell?_setCell_same' _ _ _ (by rw [hmb8];rfl),hm2.keep (hoth q2 (by omega)),hr8.ext.set hwm _⟩
        have hnb9:=hnx.nb
        have HNX:=Lib.hid hnx
        have HNM:=Lib.hid (show mb < nb/\tb < nb/\nb+1<=gn/\tb < mb/\wr.heap.size<=q2/\mb < wr.heap.size/\w.heap.size<=mb/\nb < wr.heap.size/\gn < wr.heap.size from ⟨hmn,htn,hgn,by have:=HG.out;omega,hq2,by have h:=blk_of_cell HB2.out.mb;have:=HR9.out.2.2.2.1.size;omega,hwm,hnbl,hgnl⟩)
        clear hnx hr8 hm2 hx8 hq2 htn hgn hwm hnbl hgnl
        go_wp2_with fail
        clear hmb8 hmf8 hnb8 hnb9 hmn
        generalize w8.setCell ⟨mb,0,none⟩ (.map (some q2))=w9 at *
        obtain⟨K,hKe⟩:∃ K,leftM cur=K:=⟨_,rfl⟩
        rw [hKe] at HNX HBR
        have HBR:=Lib.hid (show bareM l=K.map (wordsM K)/\L.length=K.length from ⟨HBR.out.1,HBR.out.2.2⟩)
        clear hKe HR9 HPN HB2 hpv HPC
        go_loopw [77,12] (fun i j wr=>∃ (k:Nat) (us':List (Value × Value)),i=I k/\k<=L.length/\NxB K w.heap.size gn L.length cap nb mb q2 tb tail2 w ((K.take k).map (wordsM K)++K.drop k) us' wr) (fun i _ _=>L.length - (intOf i).toNat)
        case atStart=>exact⟨0,_,rfl,Nat.zero_le _,by simpa using HNX.out⟩
        case round =>
         obtain⟨k,us',rfl,hk,hnx⟩:=hrel
         have hnbc:=hnx.nb
         by_cases hlt:k < L.length
         ·have d:(k:Int) < L.length:=by omega
          obtain⟨x,hx⟩:∃ x,K[k]? = some x:=⟨_,List.getElem?_eq_getElem (by have:=HBR.out.2;omega)⟩
          have hcx:((K.take k).map (wordsM K)++K.drop k)[k]? = some x:=by
           have:=HBR.out.2
           rw [List.getElem?_append_right (by rw [List.length_map,List.length_take];omega),List.length_map,List.length_take,Nat.min_eq_left (by omega),Nat.sub_self,List.getElem?_drop]
           exact hx
          have hcl:((K.take k).map (wordsM K)++K.drop k).length=L.length:=by have:=HBR.out.2;rw [List.length_append,List.length_map,List.length_take,List.length_drop];omega
          obtain⟨⟨u1,u2⟩,hu⟩:∃ u,us'[k]? = some u:=⟨_,List.getElem?_eq_getElem (by have:=hnx.own.len;omega)⟩
          have ho2:=hnx.own.each k x _ hcx hu
          obtain⟨B2,d2,e2,-,-⟩:=ho2.words.form
          simp only at e2
          subst e2
          have k14:=row_cell hnx.row hnx.own.len hcx hu (j:=14) rfl
          have f14:=hnx.row.frozen (k * 15+14)
          have hgl:=hnx.row.lt
          have hno:∀ b,tb<=b->¬ ownBlk (.slice B2 x.words.length d2) b:=fun b hb h=>by have:=hnx.blk _ (List.mem_of_getElem? hu) b (.inr h);omega
          have hst:∀ (j:Nat) y,K[j]? = some y->wr.cell? ⟨gn,j * 15+1,none⟩=some (U8 y.status):=fun j y hy=>by
           have hjl:=(List.getElem?_eq_some_iff.1 hy).1
           obtain⟨uj,huj⟩:∃ u,us'[j]? = some u:=⟨_,List.getElem?_eq_getElem (by have:=hnx.own.len;have:=HBR.out.2;omega)⟩
           obtain⟨y',hy',hys⟩:∃ y',((K.take k).map (wordsM K)++K.drop k)[j]? = some y'/\y'.status=y.status:=by
            by_cases hjk:j < k
            ·exact⟨wordsM K y,by rw [List.getElem?_append_left (by rw [List.length_map,List.length_take];omega),List.getElem?_map,List.getElem?_take_of_lt hjk,hy];rfl,rfl⟩
            ·exact⟨y,by rw [List.getElem?_append_right (by rw [List.length_map,List.length_take];omega),List.length_map,List.length_take,List.getElem?_drop,Nat.min_eq_left (by omega),show k+(j - k)=j by omega];exact hy,rfl⟩
           rw [<- hys]
           exact row_cell hnx.row hnx.own.len hy' huj (j:=1) rfl
          have HKB:=Lib.hid (fun (V V':World) (hb:ButV (.slice B2 x.words.length d2) V V') (b:Nat) (hbt:tb<=b) (hbl:b < V.heap.size)=>hb.same b hbl (hno b hbt))
          have hpw:PredW Tryz.prog 91 #[.pointer (some ⟨mb,0,none⟩),.pointer (some ⟨nb,0,none⟩)] (.slice B2 x.words.length d2) (fun V=>V.cell? ⟨nb,0,none⟩=some (.slice (some ⟨gn,0,none⟩) K.length cap)/\V.cell? ⟨mb,0,none⟩=some (.map (some q2))/\MapIs St (fun n:Nat=>I n) V q2 (placesL K)/\∀ (j:Nat) y,K[j]? = some y->V.cell? ⟨gn,j * 15+1,none⟩=some (U8 y.status)) (fun m=>!keepB K m.of):=by
           refine ⟨enters_of Tryz.func91 (by kernel_rfl) rfl,fun V V' hc hb=>?_,fun m V hc=>bare2_any hc.1 hc.2.1 hc.2.2.1 hc.2.2.2⟩
           have hkc:∀ {b o:Nat} {u:Value},tb<=b->V.cell? ⟨b,o,none⟩=some u->V'.cell? ⟨b,o,none⟩=some u:=fun {b o u} hbt hcc=>(World.cell?_of_block (a:=⟨b,o,none⟩) (HKB.out V V' hb b hbt (blk_of_cell hcc))).trans hcc
           have hm:=HNM.out
           exact⟨hkc (by omega) hc.1,hkc (by omega) hc.2.1,hc.2.2.1.keep (HKB.out V V' hb q2 (by omega) hc.2.2.1.lt),fun j y hy=>hkc (by omega) (hc.2.2.2 j y hy)⟩
          have HDW:=Lib.hid (fun (V:World) (h:Ext wr V)=>delete_word (ho2.words.ext h) hpw ⟨by rw [<- HBR.out.2];exact h.cell hnx.nb,h.cell hnx.mb,hnx.map.ext h,fun j y hy=>h.cell (hst j y hy)⟩)
          have HNX2:=Lib.hid (And.intro hnx (And.intro hx (And.intro hcx hu)))
          have HCL:=Lib.hid hcl
          have hnc:∀ W,ButV (.slice B2 x.words.length d2) wr W->W.cell? ⟨nb,0,none⟩=some (.slice (some ⟨gn,0,none⟩) L.length cap):=fun W hb=>(World.cell?_of_block (a:=⟨nb,0,none⟩) (HKB.out wr W hb nb (by have:=HNM.out;omega) (blk_of_cell hnbc))).trans hnbc
          have HNC:=Lib.hid hnc
          have HGW:=Lib.hid (fun W (hb:ButV (.slice B2 x.words.length d2) wr W)=>(show W.cell? ⟨gn,k * 15+14,none⟩=some (.slice B2 x.words.length d2)/\W.frozen? ⟨gn,k * 15+14,none⟩=false from
           ⟨(World.cell?_of_block (a:=⟨gn,k * 15+14,none⟩) (HKB.out wr W hb gn (by have:=HNM.out;omega) hgl)).trans k14,(World.frozen?_of_block (a:=⟨gn,k * 15+14,none⟩) (HKB.out wr W hb gn (by have:=HNM.out;omega) hgl)).trans f14⟩))
          clear hnx hx hcx hcl hu ho2 hno hst hpw hnc HNX
          go_wp2_with fail
          refine wp_region_facts3 [.late (fun v _=>v=.slice (some ⟨gn,0,none⟩) L.length cap),.late (fun v _=>v=I k),.early (fun v _=>v=.slice (some ⟨gn,0,none⟩) L.length cap),.early (fun v _=>v=I k),.early (fun v _=>v=.pointer (some ⟨gn,k * 15,none⟩)),.early (fun v _=>v=.pointer (some ⟨gn,k * 15+14,none⟩)),.early (fun v _=>v=.slice B2 x.words.length d2),
           .early (fun v _=>v=.func (.func 91) #[] #[.pointer (some ⟨mb,0,none⟩),.pointer (some ⟨nb,0,none⟩)]),
           .move (fun v W=>Own W w.heap.size 71 7 v (wordsM K x).words.length ((wordsM K x).words.flatMap wordC)/\∀ b,ownBlk v b->ownBlk (.slice B2 x.words.length d2) b),.late (fun v _=>v=.pointer (some ⟨gn,k * 15,none⟩)),.late (fun v _=>v=.pointer (some ⟨gn,k * 15+14,none⟩))] 8 (fun W=>Ext wr W) (fun W=>ButV (.slice B2 x.words.length d2) wr W) (fun W W'=>W=W') (fun _ _=>True) rfl (by kernel_rfl) (by kernel_rfl) ?hR ?hRq ?hJ ?hstep ?hend
          case hR =>
           simp only [List.mem_cons,List.not_mem_nil,or_false,forall_eq_or_imp,forall_eq,HF.fact]
           exact⟨fun v _ _ h _=>h,fun v _ _ h _=>h,fun v _ _ h _=>h,fun v _ _ h _=>h,fun v _ _ h _=>h,fun v _ _ h _=>h,fun v _ _ h _=>h,fun v _ _ h _=>h,fun v _ _ h e=>e ▸ h,fun v _ _ h _=>h,fun v _ _ h _=>h⟩
          case hRq =>
           simp only [List.mem_cons,List.not_mem_nil,or_false,forall_eq_or_imp,forall_eq,HF.fact,HF.isStore]
           exact⟨fun _ v _ _ h _=>h,fun _ v _ _ h _=>h,fun _ v _ _ h _=>h,fun _ v _ _ h _=>h,fun _ v _ _ h _=>h,fun _ v _ _ h _=>h,fun _ v _ _ h _=>h,fun _ v _ _ h _=>h,fun h=>(by cases h),fun _ v _ _ h _=>h,fun _ v _ _ h _=>h⟩
          case hJ=>exact (Ext.refl wr).drew
          case hstep =>
           simp only [List.length_cons,List.length_nil,Nat.reduceAdd,List.take_succ_cons,List.take_zero,stepsAll3,and_true]
           refine ⟨?_,?_,?_,?_,?_,?_,?_,?_,?_,?_,?_⟩
           ·intro z W b hj f
            have h:z 9=.pointer (some ⟨nb,0,none⟩):=f.1
            have hc:=HNC.out W (by cases b;exact (show Ext wr W from hj).but _;exact hj)
            go_wp
            exact stepQ2_ok rfl ⟨hj,rfl⟩
           ·intro z W b hj f
            have h:z 12=I k:=f.1
            go_wp
            exact stepQ2_ok rfl ⟨hj,rfl⟩
           ·intro z W hj f
            have h:z 9=.pointer (some ⟨nb,0,none⟩):=f.1
            have hc:=HNC.out W (hj.but _)
            go_wp
            exact stepQ2_ok rfl ⟨hj,rfl⟩
           ·intro z W hj f
            have h:z 12=I k:=f.1
            go_wp
            exact stepQ2_ok rfl ⟨hj,rfl⟩
           ·intro z W hj f
            have h1:z 82=.slice (some ⟨gn,0,none⟩) L.length cap:=f.1
            have h2:z 83=I k:=f.2.1
            go_wp
            exact stepQ2_ok rfl ⟨hj,rfl⟩
           ·intro z W hj f
            have h1:z 84=.pointer (some ⟨gn,k * 15,none⟩):=f.1
            go_wp
            exact stepQ2_ok rfl ⟨hj,rfl⟩
           ·intro z W hj f
            have h1:z 85=.pointer (some ⟨gn,k * 15+14,none⟩):=f.1
            have hc:=(HGW.out W (hj.but _)).1
            go_wp
            exact stepQ2_ok rfl ⟨hj,rfl⟩
           ·intro z W hj f
            have h1:z 4=.pointer (some ⟨mb,0,none⟩):=f.1
            have h2:z 9=.pointer (some ⟨nb,0,none⟩):=f.2.1
            go_wp
            exact stepQ2_ok rfl ⟨hj,rfl⟩
           ·intro z W hj f
            have h1:z 86=.slice B2 x.words.length d2:=f.1
            have h2:z 87=.func (.func 91) #[] #[.pointer (some ⟨mb,0,none⟩),.pointer (some ⟨nb,0,none⟩)]:=f.2.1
            have HC:=Lib.hid (HDW.out W hj)
            go_wp
            refine HC.out.mono ?_
            rintro r W2 ⟨v',rfl,ho',hb',hbl'⟩
            dsimp only
            go_wp
            exact stepQ2_ok (v:=v') ⟨by have:=ho';simpa [wordsM_filter] using this,hbl'⟩ ((hj.but _).trans hb')
           ·intro z W b hj f
            have h1:z 80=.slice (some ⟨gn,0,none⟩) L.length cap:=f.1
            have h2:z 81=I k:=f.2.1
            go_wp
            exact stepQ2_ok rfl ⟨hj,rfl⟩
           ·intro z W b hj f
            have h1:z 89=.pointer (some ⟨gn,k * 15,none⟩):=f.1
            go_wp
            exact stepQ2_ok rfl ⟨hj,rfl⟩
          case hend =>
           intro z W hj f
           have h88:Own W w.heap.size 71 7 (z 88) (wordsM K x).words.length ((wordsM K x).words.flatMap wordC)/\∀ b,ownBlk (z 88) b->ownBlk (.slice B2 x.words.length d2) b:=f.2.2.2.2.2.2.2.2.1
           have h90:z 90=.pointer (some ⟨gn,k * 15+14,none⟩):=f.2.2.2.2.2.2.2.2.2.2.1
           clear f
           obtain⟨AF,cF,hF,-,-⟩:=h88.1.form
           simp only [List.length_cons,List.length_nil,Nat.reduceAdd,List.take_succ_cons,List.take_zero,List.filterMap_cons,List.filterMap_nil,List.drop_succ_cons,List.drop_zero,putAll,Act.put,List.setIfInBounds_toArray,List.set_cons_succ,List.set_cons_zero,h90,hF]
           rw [hF] at h88
           obtain⟨hc,hf⟩:=HGW.out W hj
           have HST:=Lib.hid (HNX2.out.1.step HNX2.out.2.2.1 HNX2.out.2.2.2 hj h88.1 h88.2 (by have:=HNM.out;omega) (by have:=HNM.out;omega) (by have:=HNM.out;omega) (by have:=HNM.out;omega) (by have:=HNM.out;omega) (by have:=HNM.out;omega) (by have:=HNM.out;omega) (by have:=HNM.out;omega) rfl)
           clear h88 hj
           go_wp
           refine ⟨⟨k+1,us'.set k (u1,.slice AF (wordsM K x).words.length cF),rfl,hlt,?_⟩,by simp [intOf];omega⟩
           have h:=HST.out
           have hxk:=HNX2.out.2.1
           have hkl:=(List.getElem?_eq_some_iff.1 hxk).1
           have e1:K.drop k=x :: K.drop (k+1):=by rw [List.drop_eq_getElem_cons hkl,(List.getElem?_eq_some_iff.1 hxk).2]
           have e2:K.take (k+1)=K.take k++[x]:=by rw [List.take_add_one,hxk];rfl
           have e3:((K.take k).map (wordsM K)).length=k:=by rw [List.length_map,List.length_take];omega
           rw [e1,List.set_append_right _ _ (by omega),e3,Nat.sub_self,List.set_cons_zero] at h
           rw [e2,List.map_append,List.append_assoc]
           exact h
         ·have d:¬ (k:Int) < L.length:=by omega
          obtain rfl:k=L.length:=by omega
          have hfin:Sl mbrT wr (fun b=>w.heap.size<=b) (.slice (some ⟨gn,0,none⟩) L.length cap) (bareM l):=by
           have h1:=hnx.row
           have h2:=hnx.own
           rw [List.take_of_length_le (by rw [HBR.out.2];exact Nat.le_refl _),List.drop_eq_nil_of_le (by rw [HBR.out.2];exact Nat.le_refl _),List.append_nil,<- HBR.out.1] at h1 h2
           have hbl:(bareM l).length=L.length:=by rw [HBR.out.1,List.length_map];exact HBR.out.2.symm
           have hc:CopyM wr w.heap.size (.slice (some ⟨gn,0,none⟩) L.length cap) (bareM l):=.inr ⟨gn,cap,us',tail2,by rw [hbl],by rw [hbl];have:=HN9.out.2.2;rw [List.length_append,mpC_len] at this;exact this,hcap,by have:=HNM.out;omega,h1,h2⟩
           exact hc.sl
          have HFN:=Lib.hid (And.intro hfin hnx.ext)
          clear hfin hnx hk hlt
          go_wp2
          go_ret
          exact⟨_,rfl,HFN.out.1,HFN.out.2⟩
    | cons z B =>
     obtain⟨i,hi,rfl⟩:∃ i:Nat,i < l.length/\z=(i:Int):=by
      obtain⟨j,hj,e⟩:=List.mem_map.1 (HZ.out.1.subset (show z ∈ Z by rw [hAB];simp))
      exact⟨j,List.mem_range.1 hj,e.symm⟩
     obtain⟨x,hx⟩:∃ x,l[i]? = some x:=⟨_,List.getElem?_eq_getElem hi⟩
     have hlt:A.length < l.length:=by rw [<- hzl,hAB];simp
     have hd:((A.length:Nat):Int) < l.length:=by omega
     have hzi:wr.cell? ⟨go,A.length,none⟩=some (I i):=by rw [hAB] at hrz;exact hrz.cellAt rfl
     have hxA:=partV_at (S:=A) hx
     have hdup:(i:Int) ∉ A:=by
      have hn:Z.Nodup:=HZ.out.1.symm.nodup (by
       rw [List.nodup_iff_pairwise_ne,List.pairwise_map]
       exact List.nodup_range.imp (fun h e=>h (by omega)))
      rw [hAB] at hn
      exact fun hm=>(List.nodup_append.1 hn).2.2 _ hm _ (by simp) rfl
     rw [if_neg hdup] at hxA
     have hvd:voidM (partV l A) x.path=voidIn l x.path:=part_void (by rw [<- hAB];exact HZ.out.2) (fun j hj=>by rw [<- hAB];exact HZ.out.1.symm.subset (List.mem_map.2 ⟨j,List.mem_range.2 hj,rfl⟩)) hx
     have hcop:=hrb.copy (partV_len l A) hct hcm (by have:=HG.out;omega)
     have k0:wr.cell? ⟨g,i * 15,none⟩=some (St x.path):=cop_cell hcop hxA 0 (by omega)
     have k1:wr.cell? ⟨g,i * 15+1,none⟩=some (U8 x.status):=cop_cell hcop hxA 1 (by omega)
     have k3:wr.cell? ⟨g,i * 15+3,none⟩=some (I x.cut):=cop_cell hcop hxA 3 (by omega)
     have f1:=hrb.row.frozen (i * 15+1)
     have f3:=hrb.row.frozen (i * 15+3)
     have t1:=hrb.tb
     have t2:=hrb.mb
     have hgw:=hrb.row.lt
     have hgo:=hrz.lt
     have u1:(i:Int) < l.length:=by omega
     have HVD:=Lib.hid (fun W (h:Ext wr W)=>(show Calls Tryz.prog 52 #[.slice (some ⟨g,0,none⟩) l.length c,.map (some q),St x.path] W fun e w'=>e=.returned (.bool (voidIn l x.path))/\Ext W w' from by
      have hc2:=(hrb.ext' h).copy (partV_len l A) hct hcm (by have:=HG.out;omega)
      have:=void_any hc2.sl (by rw [places_part];exact (hrb.ext' h).map) x.path (by have:=(HAL.out i x hx).1;omega)
      rw [hvd] at this
      exact this))
     have HR:=Lib.hid (And.intro hrb hrz)
     have HP:=Lib.hid (And.intro hAB (And.intro hx (And.intro hxA hdup)))
     have hvx:vset l x=if voidIn l x.path then { x with status:=4,cut:=1 } else x:=rfl
     clear hcop hvd hrb hrz hAB hx hxA hdup
     cases hvi:voidIn l x.path with
     | false =>
      rw [hvi] at HVD hvx
      have HVX:=Lib.hid (show vset l x=x by simpa using hvx)
      clear hvi hvx
      go_wp2_with fail
      go_region_held3 (fun V=>V.cell? ⟨tb,0,none⟩=some (.slice (some ⟨g,0,none⟩) l.length c)/\V.cell? ⟨mb,0,none⟩=some (.map (some q))/\V.cell? ⟨g,i * 15,none⟩=some (St x.path)/\Ext wr V) (first | exact⟨t1,t2,k0,(Ext.refl _).drew⟩ | exact⟨hb1.cell ‹_/\_/\_/\Ext wr _›.1,hb1.cell ‹_/\_/\_/\Ext wr _›.2.1,hb1.cell ‹_/\_/\_/\Ext wr _›.2.2.1,‹_/\_/\_/\Ext wr _›.2.2.2.trans hb1⟩) (first | (go_at_call 52;refine (HVD.out _ ‹_/\_/\_/\Ext wr _›.2.2.2).mono ?_;rintro e w1 ⟨rfl,hb1⟩))
      have hX6:=‹_/\_/\_/\Ext wr _›.2.2.2
      have HX6:=Lib.hid hX6
      go_wp2_with fail
      go_roundw
      case rel =>
       refine ⟨A++[(i:Int)],B,by rw [HP.out.1];simp,by simp,?_,HR.out.2.ext HX6.out⟩
       rw [partV_skip HP.out.2.1 HVX.out HP.out.2.2.2]
       exact HR.out.1.ext' HX6.out
      case measure=>simp [intOf];omega
     | true =>
      rw [hvi] at HVD hvx
      have HVX:=Lib.hid (show vset l x = { x with status:=4,cut:=1 } by simpa using hvx)
      clear hvi hvx
      go_wp2_with fail
      go_region_held3 (fun V=>V.cell? ⟨tb,0,none⟩=some (.slice (some ⟨g,0,none⟩) l.length c)/\V.cell? ⟨mb,0,none⟩=some (.map (some q))/\V.cell? ⟨g,i * 15,none⟩=some (St x.path)/\Ext wr V) (first | exact⟨t1,t2,k0,(Ext.refl _).drew⟩ | exact⟨hb1.cell ‹_/\_/\_/\Ext wr _›.1,hb1.cell ‹_/\_/\_/\Ext wr _›.2.1,hb1.cell ‹_/\_/\_/\Ext wr _›.2.2.1,‹_/\_/\_/\Ext wr _›.2.2.2.trans hb1⟩) (first | (go_at_call 52;refine (HVD.out _ ‹_/\_/\_/\Ext wr _›.2.2.2).mono ?_;rintro e w1 ⟨rfl,hb1⟩))
      have hX6:=‹_/\_/\_/\Ext wr _›.2.2.2
      have q1:=hX6.cell k1
      have q3:=hX6.cell k3
      have q0:=hX6.cell t1
      have g1:=(HR.out.1.ext' hX6).row.frozen (i * 15+1)
      have g3:=(HR.out.1.ext' hX6).row.frozen (i * 15+3)
      have HX6:=Lib.hid hX6
      clear k0 k1 k3 f1 f3 t1 t2 hX6 HVD
      go_wp2_with fail
      go_region
      have HB3:=Lib.hid ((((HR.out.1.ext' HX6.out).upd (x':={ x with status:=4 }) (j:=1) (val:=U8 4) HP.out.2.2.1 rfl rfl (fun _ _=>rfl) (by omega) (by have:=HG.out;omega) (by have:=HG.out;omega) (by have:=HG.out;omega) (by have:=HG.out;omega)).upd (x:={ x with status:=4 }) (x':={ x with status:=4,cut:=1 }) (j:=3) (val:=I 1) (by rw [List.getElem?_set,if_pos rfl,if_pos (List.getElem?_eq_some_iff.1 HP.out.2.2.1).1]) rfl rfl (fun _ _=>rfl) (by omega) (by have:=HG.out;omega) (by have:=HG.out;omega) (by have:=HG.out;omega) (by have:=HG.out;omega)).drew)
      have hrz6:=HR.out.2.ext HX6.out
      have HZ3:=Lib.hid (show RowI ((w1.setCell ⟨g,i * 15+1,none⟩ (U8 4)).setCell ⟨g,i * 15+3,none⟩ (I 1)).drew go Z [] from RowIs.keep hrz6 (((Below.heap_setCell _ ⟨g,i * 15+3,none⟩ _ go (by have:=HG.out;show go ≠ g;omega)).trans (Below.heap_setCell _ ⟨g,i * 15+1,none⟩ _ go (by have:=HG.out;show go ≠ g;omega)))))
      rw [List.set_set] at HB3
      clear q0 q1 q3 g1 g3 hrz6
      generalize ((w1.setCell ⟨g,i * 15+1,none⟩ (.int .u8 4)).setCell ⟨g,i * 15+3,none⟩ (.int .i64 1)).drew=W2 at *
      (try simp only [Exit.inBlock,Exit.then])
      go_wp2_with fail
      go_roundw
      case rel =>
       refine ⟨A++[(i:Int)],B,by rw [HP.out.1];simp,by simp,?_,HZ3.out⟩
       rw [<- partV_set HP.out.2.1,HVX.out]
       exact HB3.out
      case measure=>simp [intOf];omega
attribute [local go_sem] byte_zero byte_at
theorem digV_mono (a b:Str):digV a 0<=digV (a++b) 0:=by
 rw [digV_append]
 have:∀ (b:Str) (n:Nat),n<=digV b n:=by
  intro b
  induction b with
  | nil=>intro n;exact Nat.le_refl _
  | cons x b ih=>intro n;rw [digV];exact Nat.le_trans (by omega) (ih _)
 exact this b _
theorem cut_form (r:Str):∃ f tl rest,r=f++tl/\46 ∉ f/\splitC 46 r=f :: rest/\((tl = []/\rest = []) ∨ ∃ q,tl=46 :: q/\rest=splitC 46 q):=by
 have hs:=splitC_cut 46 r
 cases hq:(cutC 46 r).2 with
 | none =>
  obtain⟨h1,-,h3⟩:=cutC_none hq
  exact⟨r,[],[],by simp,h3,splitC_free h3,.inl ⟨rfl,rfl⟩⟩
 | some q =>
  obtain⟨h1,-,h3⟩:=cutC_some hq
  rw [hq] at hs
  exact⟨_,46 :: q,_,h1,h3,hs,.inr ⟨q,rfl,rfl⟩⟩
def natI (n:Nat):Value:=I n
theorem refRead_any (p:Str) (hm:mayP p=true) (hl:p.length < 4611686018427387904) (w:World):Calls Tryz.prog 76 #[St p] w fun e w'=>∃ v,e=.returned (.tuple #[v,.bool true])/\Own w' w.heap.size 3 1 v (splitP p).length ((splitP p).map natI)/\Ext w w':=by
 have hne:splitP p ≠ []:=fun h=>by unfold mayP deepP at hm;rw [h] at hm;simp at hm
 obtain⟨hsp,hz⟩:=splitP_some hne
 obtain⟨FL,hFS⟩:∃ FL,splitC 46 p=FL:=⟨_,rfl⟩
 rw [hFS] at hsp hz
 have HZ:=Lib.hid (show ∀ f ∈ FL,numS f ≠ 0 from fun f hf=>hz _ (List.mem_map_of_mem hf))
 have HSP:=Lib.hid hsp
 have HL8:=Lib.hid (splitP_len p)
 have HHD:=Lib.hid (splitP_head hne)
 have HF0:=Lib.hid hFS
 obtain⟨K,hK⟩:∃ K,splitP p=K:=⟨_,rfl⟩
 rw [hK] at HSP HL8 HHD ⊢
 clear hsp hz hne hm hK hFS
 go_enter Tryz.func76,Tryz.ntmps76
 go_wp2_with fail
 go_loopw [4,5] (fun lv at' wr=>∃ (ds:List Str) (n:Nat),at'=I n/\Own wr w.heap.size 3 1 lv ds.length (ds.map fun f=>natI (numS f))/\Hid ((∃ pre r,p=pre++r/\n=pre.length/\FL=ds++splitC 46 r) ∨ (n=p.length+1/\FL=ds))/\Ext w wr) (fun _ i _=>p.length+1 - (intOf i).toNat)
 case atStart=>exact⟨[],0,rfl,Own.nil _ _ _ _ _,Lib.hid (.inl ⟨[],p,rfl,rfl,HF0.out.symm⟩),Ext.refl _⟩
 case round =>
  obtain⟨ds,n,rfl,hown,hst,hx⟩:=hrel
  rcases hst.out with ⟨pre,r,hp,rfl,hfs⟩ | ⟨rfl,hfs⟩
  ·obtain⟨f,tl,rest,rfl,h46,hsr,htl⟩:=cut_form r
   rw [hsr] at hfs
   have hnz:=HZ.out f (by rw [hfs];simp)
   obtain⟨-,-,-,-,hall,hnv⟩:=numS_ne hnz
   have hnf:=numS_form hnz
   have hle:=numS_le f
   have hpl:p.length=pre.length+f.length+tl.length:=by rw [hp];simp;omega
   have c1:(pre.length:Int)<=p.length:=by omega
   have HOW:=Lib.hid hown
   have HX:=Lib.hid hx
   have HFS:=Lib.hid hfs
   have HALL:=Lib.hid hall
   have HNF:=Lib.hid hnf
   have HTL:=Lib.hid htl
   have HP:=Lib.hid hp
   have HPL:=Lib.hid hpl
   clear hown hx hfs hst hall hnf htl hsr hp hpl
   obtain⟨wo,rfl⟩:∃ wo:World,wo=wr:=⟨_,rfl⟩
   go_wp2_with fail
   go_loopw [6,7] (fun e n wr=>∃ (g1 g2:Str),Hid (f=g1++g2)/\e=I ((pre.length+g1.length:Nat))/\n=I (digV g1 0)/\wr=wo) (fun e _ _=>p.length - (intOf e).toNat)
   case atStart=>exact⟨[],f,Lib.hid rfl,by simp,rfl,rfl⟩
   case round =>
    obtain⟨g1,g2,hg,rfl,rfl,rfl⟩:=hrel
    cases g2 with
    | cons d g2 =>
     obtain⟨A,hA⟩:∃ A,pre++g1=A:=⟨_,rfl⟩
     obtain⟨B,hB⟩:∃ B,g2++tl=B:=⟨_,rfl⟩
     have hpA:p=A++d :: B:=by rw [HP.out,hg.out,<- hA,<- hB];simp
     have hAl:pre.length+g1.length=A.length:=by rw [<- hA];simp
     have hd:digB d=true:=List.all_eq_true.1 HALL.out d (by rw [hg.out];simp)
     have hd46:d ≠ 46:=fun h=>h46 (by rw [hg.out,h];simp)
     have hdv:=digV_mono g1 (d :: g2)
     rw [<- hg.out,<- hnv] at hdv
     rw [digB_iff] at hd
     have d1:¬ (d.toNat:Int) < 48:=by omega
     have d2:¬ (d.toNat:Int) > 57:=by omega
     have d3:((d.toNat:Int) == 46)=false:=by
      rw [beq_eq_false_iff_ne]
      intro e
      exact hd46 (UInt8.toNat_inj.1 (by simpa using Int.ofNat_inj.1 e))
     have d4:¬ ((digV g1 0:Nat):Int) > 1073741824:=by omega
     have hal:(A.length:Int) < (A++d :: B).length:=by simp;omega
     have hal2:(A.length:Int) < (A.length:Int)+((B.length:Int)+1):=by omega
     have HG:=Lib.hid hg
     rw [hAl]
     subst hpA
     go_wp2_with fail
     go_roundw
     case rel=>exact⟨g1++[d],g2,Lib.hid (by rw [HG.out];simp),by rw [<- hAl];simp;omega,by rw [digV_append];simp only [digV];exact congrArg (Value.int .i64) (by omega),trivial⟩
     case measure=>simp [intOf];omega
    | nil =>
     have hgf:f=g1:=by rw [hg.out];simp
     subst hgf
     clear hg
     have hdn:digV f 0=numS f:=hnv.symm
     rw [hdn]
     clear hdn hnv
     have HNU:=Lib.hid (refNum_any (numS f) (by omega))
     rw [<- HNF.out] at HNU
     have e1:¬ ((numS f:Nat):Int) < 1:=by omega
     have e2:¬ ((numS f:Nat):Int) > 1073741824:=by omega
     have e1':decide (((numS f:Nat):Int) < 1)=false:=decide_eq_false e1
     have e2':decide (((numS f:Nat):Int) > 1073741824)=false:=decide_eq_false e2
     rcases HTL.out with ⟨htl,hre⟩ | ⟨q,htl,hre⟩
     case' inl =>
      subst htl
      have hll:((pre.length+f.length:Nat):Int)=p.length:=by have:=HPL.out;simp at this;omega
      rw [hll]
      have hge:¬ (p.length:Int) < p.length:=by omega
      have b1:(pre.length:Int)<=p.length:=by omega
      have b2:(p.length:Int)<=p.length:=by omega
      have hex:(⟨p.toArray⟩:ByteArray).extract pre.length p.length=⟨f.toArray⟩:=by
       have h:=ext_drop pre f pre.length rfl p.length (by have:=HPL.out;simp at this;rw [List.length_append];omega)
       rw [show pre++f=p by rw [HP.out];simp] at h
       exact h
      have HNX:=Lib.hid (show ∀ i:Value,i=.int .i64 ((p.length:Int)+1)->∃ n:Nat,i=I n/\Hid ((∃ pre r,p=pre++r/\n=pre.length/\FL=(ds++[f])++splitC 46 r) ∨ (n=p.length+1/\FL=ds++[f])) from fun i hi=>⟨p.length+1,by rw [hi];simp,Lib.hid (.inr ⟨rfl,by rw [HFS.out,hre]⟩)⟩)
      have HME:=Lib.hid (show ∀ i:Value,i=.int .i64 ((p.length:Int)+1)->p.length+1 - (intOf i).toNat < p.length+1 - (intOf (I pre.length)).toNat from fun i hi=>by rw [hi];simp [intOf];omega)
      clear hll hre
      go_wp2_with fail
     case' inr =>
      subst htl
      obtain⟨A,hA⟩:∃ A,pre++f=A:=⟨_,rfl⟩
      have hpA:p=A++46 :: q:=by rw [HP.out,<- hA];simp
      have hAl:pre.length+f.length=A.length:=by rw [<- hA];simp
      have hal:(A.length:Int) < (A++46 :: q).length:=by simp;omega
      have hal2:(A.length:Int) < (A.length:Int)+((q.length:Int)+1):=by omega
      have b1:(pre.length:Int)<=A.length:=by omega
      have hex:(⟨p.toArray⟩:ByteArray).extract pre.length A.length=⟨f.toArray⟩:=by
       have h:=ext_drop pre f pre.length rfl A.length (by rw [List.length_append];omega)
       have h2:(⟨(A++46 :: q).toArray⟩:ByteArray).extract pre.length A.length=(⟨A.toArray⟩:ByteArray).extract pre.length A.length:=by
        apply ByteArray.ext
        simp [ByteArray.data_extract]
        rw [List.drop_append_of_le_length (by omega),List.take_append_of_le_length (by simp)]
       rw [hpA,h2,<- hA]
       rw [<- hA] at h
       exact h
      have HNX:=Lib.hid (show ∀ i:Value,i=.int .i64 ((A.length:Int)+1)->∃ n:Nat,i=I n/\Hid ((∃ pre r,p=pre++r/\n=pre.length/\FL=(ds++[f])++splitC 46 r) ∨ (n=p.length+1/\FL=ds++[f])) from fun i hi=>⟨A.length+1,by rw [hi];simp,Lib.hid (.inl ⟨A++[46],q,by rw [hpA];simp,by simp,by rw [HFS.out,hre];simp⟩)⟩)
      have HME:=Lib.hid (show ∀ i:Value,i=.int .i64 ((A.length:Int)+1)->p.length+1 - (intOf i).toNat < p.length+1 - (intOf (I pre.length)).toNat from fun i hi=>by rw [hi];have h1:=HPL.out;simp only [List.length_cons] at h1;simp only [intOf];omega)
      have b2:(A.length:Int)<=p.length:=by have:=HPL.out;simp at this;omega
      have HEX:=Lib.hid hex
      have HB2:=Lib.hid b2
      rw [hAl]
      clear hre hA hAl hex b2
      subst hpA
      go_wp2_with fail
      have hex:=HEX.out
      have b2:=HB2.out
      generalize hP2:A++46 :: q=P2 at *
      have HP2:=Lib.hid hP2
      clear hP2
     all_goals
      go_region_held3 (fun W=>Ext wr W) (first | exact (Ext.refl _).drew | exact ‹Ext wr _›.trans hb1) (first | (go_at_call 78;refine (HNU.out _).mono ?_;rintro e w6 ⟨rfl,hb1⟩))
      have hX:=‹Ext wr _›
      first | (have hP2:=HP2.out;clear hex;subst hP2) | clear hex
      have HX2:=Lib.hid (HX.out.trans hX)
      have hown:=HOW.out.ext hX
      have hdl:ds.length<=8:=by
       have h1:=HL8.out
       rw [HSP.out,List.length_map,HFS.out] at h1
       simp at h1
       omega
      have HOB:=Lib.hid hown
      have hxs:=HX2.out.size
      obtain⟨A4,c4,rfl,-,-⟩:=hown.form
      go_wp2_with (at_builtin;refine wpList_append_Own rfl (.tmp 62) (.tmp 64) 98 rfl w.heap.size 3 1 8 (I 0) Tryz.underlying98 info_int rfl (by omega) _ ds.length (ds.map fun f=>natI (numS f)) rfl (hown.alloc _) _ 1 1 [I (numS f)] rfl (Src.new rfl (by intro u hu;simp at hu;rcases hu with rfl;rfl)) (by omega) (by omega) (by simp;omega) ?_;intro v' w' hown2 hgr;clear hown)
      obtain⟨n2,hn2,HST⟩:=HNX.out _ rfl
      go_roundw
      case rel=>exact⟨ds++[f],n2,hn2,by rw [List.length_append,List.map_append];exact hown2,HST,Ext.grewOwn (HX2.out.alloc _) hgr (HOB.out.alloc _) (Nat.le_refl _)⟩
      case measure=>exact HME.out _ rfl
  ·have hkl:=HSP.out
   rw [hfs] at hkl
   have h8:=HL8.out
   have hhd:=HHD.out
   have hdl:ds.length=K.length:=by rw [hkl,List.length_map]
   have HKD:=Lib.hid (show (ds.map fun f=>natI (numS f))=K.map natI by rw [hkl,List.map_map];rfl)
   obtain⟨k0,kr,hk0⟩:∃ k0 kr,K=k0 :: kr:=by
    cases K with
    | nil=>simp at hhd
    | cons a r=>exact⟨a,r,rfl⟩
   have hd1:1<=ds.length:=by rw [hdl,hk0];simp
   have hd8:ds.length<=8:=by omega
   obtain⟨g,cap,cur,hv,-⟩:=hown.pos (by omega)
   subst hv
   have hc:=hown.cell (j:=0) (u:=I (1:Nat)) rfl (by
    rw [HKD.out,hk0]
    rw [hk0] at hhd
    simp at hhd
    rw [hhd];rfl)
   have d1:(ds.length:Int) ≥ 1:=by omega
   have d2:(ds.length:Int)<=8:=by omega
   have d3:(0:Int) < (ds.length:Int):=by omega
   have d4:¬ (p.length:Int)+1<=p.length:=by omega
   have HO:=Lib.hid hown
   have HX:=Lib.hid hx
   have HDL:=Lib.hid hdl
   clear hown hx hst hfs hkl h8 hhd hdl hk0
   go_wp2_with fail
   go_quiet (fail)
   go_wp2_with fail
   refine bodyPost_ret (v:=.tuple #[.slice (some ⟨g,0,none⟩) ds.length cap,.bool true]) (by simp [results,Tryz.f76,go_sem]) rfl ?_
   exact⟨_,rfl,by rw [<- HKD.out,<- HDL.out];exact HO.out.ext ((Ext.refl _).drewN _),HX.out.drewN _⟩
end
section
open Go.RowKit Go.Shelf
attribute [local go_sem] byte_zero byte_at
theorem may_of_figs {p:Str} (h:∀ f ∈ splitC 46 p,numS f ≠ 0) (h8:(splitC 46 p).length<=8) (h1:((splitC 46 p).map numS).head? = some 1):mayP p=true:=by
 unfold mayP deepP splitP
 simp only
 rw [if_pos]
 ·have:=splitC_ne 46 p
  cases hs:splitC 46 p with
  | nil=>exact absurd hs this
  | cons f r=>simp
 ·simp only [Bool.and_eq_true,List.all_eq_true,decide_eq_true_eq,beq_iff_eq,List.length_map]
  refine ⟨⟨fun n hn=>?_,h8⟩,h1⟩
  obtain⟨f,hf,rfl⟩:=List.mem_map.1 hn
  simpa using h f hf
theorem numS_ok {f:Str} {n:Nat} (h1:1<=n) (h2:n<=1073741824) (he:Lib.decDigits n=f):numS f ≠ 0/\numS f=n:=by
 have:=numS_dec h1 h2
 rw [he] at this
 omega
theorem refRead_no (p:Str) (hm:mayP p=false) (hl:p.length < 1073741824) (w:World):Calls Tryz.prog 76 #[St p] w fun e w'=>(∃ v,e=.returned (.tuple #[v,.bool false]))/\Ext w w':=by
 have HM:=Lib.hid hm
 obtain⟨FL,hFS⟩:∃ FL,splitC 46 p=FL:=⟨_,rfl⟩
 have HF0:=Lib.hid hFS
 clear hm hFS
 go_enter Tryz.func76,Tryz.ntmps76
 go_wp2_with fail
 go_loopw [4,5] (fun lv at' wr=>∃ (ds:List Str) (n:Nat),at'=I n/\Own wr w.heap.size 3 1 lv ds.length (ds.map fun f=>natI (numS f))/\Hid (∀ f ∈ ds,numS f ≠ 0)/\Hid ((∃ pre r,p=pre++r/\n=pre.length/\FL=ds++splitC 46 r) ∨ (n=p.length+1/\FL=ds))/\Hid (ds.length<=n/\ds.length<=1073741824)/\Ext w wr) (fun _ i _=>p.length+1 - (intOf i).toNat)
 case atStart=>exact⟨[],0,rfl,Own.nil _ _ _ _ _,Lib.hid (by simp),Lib.hid (.inl ⟨[],p,rfl,rfl,HF0.out.symm⟩),Lib.hid ⟨Nat.le_refl _,by simp⟩,Ext.refl _⟩
 case round =>
  obtain⟨ds,n,rfl,hown,hds,hst,hdl,hx⟩:=hrel
  rcases hst.out with ⟨pre,r,hp,rfl,hfs⟩ | ⟨rfl,hfs⟩
  ·obtain⟨f,tl,rest,rfl,h46,hsr,htl⟩:=cut_form r
   rw [hsr] at hfs
   have hpl:p.length=pre.length+f.length+tl.length:=by rw [hp];simp;omega
   have c1:(pre.length:Int)<=p.length:=by omega
   have HOW:=Lib.hid hown
   have HX:=Lib.hid hx
   have HFS:=Lib.hid hfs
   have HTL:=Lib.hid htl
   have HP:=Lib.hid hp
   have HPL:=Lib.hid hpl
   clear hown hx hfs hst htl hsr hp hpl
   obtain⟨wo,rfl⟩:∃ wo:World,wo=wr:=⟨_,rfl⟩
   go_wp2_with fail
   go_loopw [6,7] (fun e n wr=>∃ (g1 g2:Str),Hid (f=g1++g2)/\e=I ((pre.length+g1.length:Nat))/\n=I (digV g1 0)/\Hid (digV g1 0<=10737418250)/\wr=wo) (fun e _ _=>p.length - (intOf e).toNat)
   case atStart=>exact⟨[],f,Lib.hid rfl,by simp,rfl,Lib.hid (by decide),rfl⟩
   case round =>
    obtain⟨g1,g2,hg,rfl,rfl,hdb,rfl⟩:=hrel
    have hdb1:=hdb.out
    cases g2 with
    | cons d g2 =>
     obtain⟨A,hA⟩:∃ A,pre++g1=A:=⟨_,rfl⟩
     obtain⟨B,hB⟩:∃ B,g2++tl=B:=⟨_,rfl⟩
     have hpA:p=A++d :: B:=by rw [HP.out,hg.out,<- hA,<- hB];simp
     have hAl:pre.length+g1.length=A.length:=by rw [<- hA];simp
     have hd46:d ≠ 46:=fun h=>h46 (by rw [hg.out,h];simp)
     have d3:((d.toNat:Int) == 46)=false:=by
      rw [beq_eq_false_iff_ne]
      intro e
      exact hd46 (UInt8.toNat_inj.1 (by simpa using Int.ofNat_inj.1 e))
     have hal:(A.length:Int) < (A++d :: B).length:=by simp;omega
     have hal2:(A.length:Int) < (A.length:Int)+((B.length:Int)+1):=by omega
     have HG:=Lib.hid hg
     have hdl256:d.toNat < 256:=d.toNat_lt
     rw [hAl]
     subst hpA
     by_cases e1:d.toNat < 48
     ·have d1:(d.toNat:Int) < 48:=by omega
      go_wp2_with fail
      refine bodyPost_ret (v:=.tuple #[.slice none 0 0,.bool false]) (by simp [results,Tryz.f76,go_sem]) rfl ?_
      exact⟨⟨_,rfl⟩,HX.out⟩
     have d1:¬ (d.toNat:Int) < 48:=by omega
     by_cases e2:57 < d.toNat
     ·have d2:(d.toNat:Int) > 57:=by omega
      go_wp2_with fail
      refine bodyPost_ret (v:=.tuple #[.slice none 0 0,.bool false]) (by simp [results,Tryz.f76,go_sem]) rfl ?_
      exact⟨⟨_,rfl⟩,HX.out⟩
     have d2:¬ (d.toNat:Int) > 57:=by omega
     by_cases e4:1073741824 < digV g1 0
     ·have d4:((digV g1 0:Nat):Int) > 1073741824:=by omega
      go_wp2_with fail
      refine bodyPost_ret (v:=.tuple #[.slice none 0 0,.bool false]) (by simp [results,Tryz.f76,go_sem]) rfl ?_
      exact⟨⟨_,rfl⟩,HX.out⟩
     have d4:¬ ((digV g1 0:Nat):Int) > 1073741824:=by omega
     clear hdb1
     go_wp2_with fail
     go_roundw
     case rel=>exact⟨g1++[d],g2,Lib.hid (by rw [HG.out];simp),by rw [<- hAl];simp;omega,by rw [digV_append];simp only [digV];exact congrArg (Value.int .i64) (by omega),Lib.hid (by rw [digV_append];simp only [digV];omega),trivial⟩
     case measure=>simp [intOf];omega
    | nil =>
     have hgf:f=g1:=by rw [hg.out];simp
     subst hgf
     clear hg
     obtain⟨N,hN⟩:∃ N,digV f 0=N:=⟨_,rfl⟩
     have HN:=Lib.hid hN
     rw [hN]
     rw [hN] at hdb1
     clear hN hdb
     have HNU:=Lib.hid (refNum_any N (by omega))
     rcases HTL.out with ⟨htl,hre⟩ | ⟨q,htl,hre⟩
     case' inl =>
      subst htl
      have hll:((pre.length+f.length:Nat):Int)=p.length:=by have:=HPL.out;simp at this;omega
      rw [hll]
      have hge:¬ (p.length:Int) < p.length:=by omega
      have b1:(pre.length:Int)<=p.length:=by omega
      have b2:(p.length:Int)<=p.length:=by omega
      have hex:(⟨p.toArray⟩:ByteArray).extract pre.length p.length=⟨f.toArray⟩:=by
       have h:=ext_drop pre f pre.length rfl p.length (by have:=HPL.out;simp at this;rw [List.length_append];omega)
       rw [show pre++f=p by rw [HP.out];simp] at h
       exact h
      have HNX:=Lib.hid (show ∀ i:Value,i=.int .i64 ((p.length:Int)+1)->∃ n:Nat,i=I n/\Hid ((∃ pre r,p=pre++r/\n=pre.length/\FL=(ds++[f])++splitC 46 r) ∨ (n=p.length+1/\FL=ds++[f]))/\pre.length < n from fun i hi=>⟨p.length+1,by rw [hi];simp,Lib.hid (.inr ⟨rfl,by rw [HFS.out,hre]⟩),by omega⟩)
      have HME:=Lib.hid (show ∀ i:Value,i=.int .i64 ((p.length:Int)+1)->p.length+1 - (intOf i).toNat < p.length+1 - (intOf (I pre.length)).toNat from fun i hi=>by rw [hi];simp [intOf];omega)
      clear hll hre
      go_upto_region 11 with fail
     case' inr =>
      subst htl
      obtain⟨A,hA⟩:∃ A,pre++f=A:=⟨_,rfl⟩
      have hpA:p=A++46 :: q:=by rw [HP.out,<- hA];simp
      have hAl:pre.length+f.length=A.length:=by rw [<- hA];simp
      have hal:(A.length:Int) < (A++46 :: q).length:=by simp;omega
      have hal2:(A.length:Int) < (A.length:Int)+((q.length:Int)+1):=by omega
      have b1:(pre.length:Int)<=A.length:=by omega
      have hex:(⟨p.toArray⟩:ByteArray).extract pre.length A.length=⟨f.toArray⟩:=by
       have h:=ext_drop pre f pre.length rfl A.length (by rw [List.length_append];omega)
       have h2:(⟨(A++46 :: q).toArray⟩:ByteArray).extract pre.length A.length=(⟨A.toArray⟩:ByteArray).extract pre.length A.length:=by
        apply ByteArray.ext
        simp [ByteArray.data_extract]
        rw [List.drop_append_of_le_length (by omega),List.take_append_of_le_length (by simp)]
       rw [hpA,h2,<- hA]
       rw [<- hA] at h
       exact h
      have HNX:=Lib.hid (show ∀ i:Value,i=.int .i64 ((A.length:Int)+1)->∃ n:Nat,i=I n/\Hid ((∃ pre r,p=pre++r/\n=pre.length/\FL=(ds++[f])++splitC 46 r) ∨ (n=p.length+1/\FL=ds++[f]))/\pre.length < n from fun i hi=>⟨A.length+1,by rw [hi];simp,Lib.hid (.inl ⟨A++[46],q,by rw [hpA];simp,by simp,by rw [HFS.out,hre];simp⟩),by omega⟩)
      have HME:=Lib.hid (show ∀ i:Value,i=.int .i64 ((A.length:Int)+1)->p.length+1 - (intOf i).toNat < p.length+1 - (intOf (I pre.length)).toNat from fun i hi=>by rw [hi];have h1:=HPL.out;simp only [List.length_cons] at h1;simp only [intOf];omega)
      have b2:(A.length:Int)<=p.length:=by have:=HPL.out;simp at this;omega
      have HEX:=Lib.hid hex
      have HB2:=Lib.hid b2
      rw [hAl]
      clear hre hA hAl hex b2
      subst hpA
      go_upto_region 11 with fail
      have hex:=HEX.out
      have b2:=HB2.out
      generalize hP2:A++46 :: q=P2 at *
      have HP2:=Lib.hid hP2
      clear hP2
     all_goals
      by_cases n1:N < 1
      ·have e1:(N:Int) < 1:=by omega
       have e1':decide ((N:Int) < 1)=true:=decide_eq_true e1
       clear hex
       go_quiet (fail)
       go_wp2_with fail
       refine bodyPost_ret (v:=.tuple #[.slice none 0 0,.bool false]) (by simp [results,Tryz.f76,go_sem]) rfl ?_
       exact⟨⟨_,rfl⟩,HX.out.drewN _⟩
      have e1:¬ (N:Int) < 1:=by omega
      have e1':decide ((N:Int) < 1)=false:=decide_eq_false e1
      by_cases n2:1073741824 < N
      ·have e2:(N:Int) > 1073741824:=by omega
       have e2':decide ((N:Int) > 1073741824)=true:=decide_eq_true e2
       clear hex
       go_quiet (fail)
       go_wp2_with fail
       refine bodyPost_ret (v:=.tuple #[.slice none 0 0,.bool false]) (by simp [results,Tryz.f76,go_sem]) rfl ?_
       exact⟨⟨_,rfl⟩,HX.out.drewN _⟩
      have e2:¬ (N:Int) > 1073741824:=by omega
      have e2':decide ((N:Int) > 1073741824)=false:=decide_eq_false e2
      by_cases hdf:Lib.decDigits N=f
      case' neg =>
       have g1:(Lib.decDigits N == f)=false:=by simpa using hdf
       go_region_held3 (fun W=>Ext wr W) (first | exact (Ext.refl _).drew | exact ‹Ext wr _›.trans hb1) (first | (go_at_call 78;refine (HNU.out _).mono ?_;rintro e w6 ⟨rfl,hb1⟩))
       have hX:=‹Ext wr _›
       go_wp2_with fail
       refine bodyPost_ret (v:=.tuple #[.slice none 0 0,.bool false]) (by simp [results,Tryz.f76,go_sem]) rfl ?_
       exact⟨⟨_,rfl⟩,HX.out.trans hX⟩
      case' pos =>
      obtain⟨hz,hzn⟩:=numS_ok (f:=f) (n:=N) (by omega) (by omega) hdf
      have HDS:Hid (∀ g ∈ ds++[f],numS g ≠ 0):=Lib.hid fun g hg=>(List.mem_append.1 hg).elim (fun h=>hds.out g h) (fun h=>by rw [List.mem_singleton.1 h];exact hz)
      have HZN:=Lib.hid hzn
      rw [hdf] at HNU
      clear hz hzn hdf
      go_region_held3 (fun W=>Ext wr W) (first | exact (Ext.refl _).drew | exact ‹Ext wr _›.trans hb1) (first | (go_at_call 78;refine (HNU.out _).mono ?_;rintro e w6 ⟨rfl,hb1⟩))
      have hX:=‹Ext wr _›
      first | (have hP2:=HP2.out;clear hex;subst hP2) | clear hex
      have HX2:=Lib.hid (HX.out.trans hX)
      have hown:=HOW.out.ext hX
      have hdl2:=hdl.out
      have HOB:=Lib.hid hown
      have hxs:=HX2.out.size
      obtain⟨A4,c4,rfl,-,-⟩:=hown.form
      go_wp2_with (at_builtin;refine wpList_append_Own rfl (.tmp 62) (.tmp 64) 98 rfl w.heap.size 3 1 8 (I 0) Tryz.underlying98 info_int rfl (by omega) _ ds.length (ds.map fun f=>natI (numS f)) rfl (hown.alloc _) _ 1 1 [I N] rfl (Src.new rfl (by intro u hu;simp at hu;rcases hu with rfl;rfl)) (by omega) (by omega) (by simp;omega) ?_;intro v' w' hown2 hgr;clear hown)
      obtain⟨n2,hn2,HST,hn3⟩:=HNX.out _ rfl
      go_roundw
      case rel=>exact⟨ds++[f],n2,hn2,by rw [List.length_append,List.map_append];simp only [List.map_cons,List.map_nil,List.length_cons,List.length_nil,natI,HZN.out];exact hown2,HDS,HST,Lib.hid (by rw [List.length_append];simp only [List.length_cons,List.length_nil];omega),Ext.grewOwn (HX2.out.alloc _) hgr (HOB.out.alloc _) (Nat.le_refl _)⟩
      case measure=>exact HME.out _ rfl
  ·have hnm:=HM.out
   have HX:=Lib.hid hx
   have HO:=Lib.hid hown
   have d4:¬ (p.length:Int)+1<=p.length:=by omega
   have hne:ds ≠ []:=by rw [<- hfs,<- HF0.out];exact splitC_ne 46 p
   have hd1:1<=ds.length:=by cases ds with | nil=>exact absurd rfl hne | cons a r=>simp
   have hlen2:=hdl.out
   obtain⟨g,cap,cur,hv,-⟩:=hown.pos (by omega)
   subst hv
   obtain⟨f0,fr,hf0⟩:∃ f0 fr,ds=f0 :: fr:=by
    cases ds with
    | nil=>exact absurd rfl hne
    | cons a r=>exact⟨a,r,rfl⟩
   have hc:=hown.cell (j:=0) (u:=I (numS f0:Nat)) rfl (by rw [hf0];rfl)
   have d1:(ds.length:Int) ≥ 1:=by omega
   have d3:(0:Int) < (ds.length:Int):=by omega
   by_cases h8:ds.length<=8
   ·have d2:(ds.length:Int)<=8:=by omega
    have h1:¬ numS f0=1:=fun e=>by
     have:=may_of_figs (p:=p) (by rw [HF0.out,hfs];exact hds.out) (by rw [HF0.out,hfs];exact h8) (by rw [HF0.out,hfs,hf0];simp [e])
     rw [hnm] at this
     cases this
    have d5:((numS f0:Nat):Int) ≠ 1:=by omega
    have d6:(((numS f0:Nat):Int) == 1)=false:=by simpa using d5
    clear hown hx hst hfs hdl hne hf0 h1 hlen2
    go_wp2_with fail
    go_quiet (fail)
    go_wp2_with fail
    refine bodyPost_ret (v:=.tuple #[.slice (some ⟨g,0,none⟩) ds.length cap,.bool false]) (by simp [results,Tryz.f76,go_sem]) rfl ?_
    exact⟨⟨_,rfl⟩,HX.out.drewN _⟩
   ·have d2:¬ (ds.length:Int)<=8:=by omega
    have d2':decide ((ds.length:Int)<=8)=false:=decide_eq_false d2
    clear hown hx hst hfs hdl hne hf0 hlen2
    go_wp2_with fail
    go_quiet (fail)
    go_wp2_with fail
    refine bodyPost_ret (v:=.tuple #[.slice (some ⟨g,0,none⟩) ds.length cap,.bool false]) (by simp [results,Tryz.f76,go_sem]) rfl ?_
    exact⟨⟨_,rfl⟩,HX.out.drewN _⟩
end
section
open Go.RowKit Go.Shelf
theorem joinC_snoc (c:UInt8):∀ (l:List Str) (x:Str),l ≠ []->joinC c (l++[x])=joinC c l++c :: x
 | [],_,h=>absurd rfl h
 | [a],x,_=>rfl
 | a :: b :: r,x,_=>by
  have ih:=joinC_snoc c (b :: r) x (by simp)
  show a++c :: joinC c ((b :: r)++[x])=(a++c :: joinC c (b :: r))++c :: x
  rw [ih];simp
def wrP (l:List Nat):Str:=joinC 46 (l.map Lib.decDigits)
theorem wrP_snoc {l:List Nat} (h:l ≠ []) (n:Nat):wrP (l++[n])=wrP l++46 :: Lib.decDigits n:=by
 unfold wrP
 rw [List.map_append]
 exact joinC_snoc 46 _ _ (by simpa using h)
theorem wrP_len:∀ {l:List Nat},(∀ n ∈ l,n<=1073741824)->(wrP l).length<=11 * l.length
 | [],_=>by simp [wrP,joinC]
 | [a],h=>by have:=dec_len (h a (by simp));simp only [wrP,List.map_cons,List.map_nil,joinC,List.length_cons,List.length_nil];omega
 | a :: b :: r,h=>by
  have h1:=dec_len (h a (by simp))
  have h2:=wrP_len (l:=b :: r) (fun n hn=>h n (List.mem_cons_of_mem _ hn))
  have e:wrP (a :: b :: r)=Lib.decDigits a++46 :: wrP (b :: r):=rfl
  rw [e]
  simp only [List.length_append,List.length_cons] at *
  omega
theorem split_le {p:Str}:∀ n ∈ splitP p,n<=1073741824:=by
 intro n hn
 have hne:splitP p ≠ []:=List.ne_nil_of_mem hn
 rw [(splitP_some hne).1] at hn
 obtain⟨f,-,rfl⟩:=List.mem_map.1 hn
 exact numS_le f
theorem wrP_split {p:Str} (h:splitP p ≠ []):wrP (splitP p)=p:=by
 obtain⟨h1,h2⟩:=splitP_some h
 unfold wrP
 rw [h1,List.map_map]
 have:(splitC 46 p).map (Lib.decDigits ∘ numS)=splitC 46 p:=by
  conv=>rhs;rw [<- List.map_id (splitC 46 p)]
  exact List.map_congr_left fun f hf=>(numS_form (h2 _ (List.mem_map_of_mem hf))).symm
 rw [this,joinC_split]
theorem wrP_par {p:Str} (h:0 < deepP p):wrP (splitP p).dropLast=parP p:=by
 by_cases h2:2<=deepP p
 ·rw [<- parP_split]
  refine wrP_split fun e=>?_
  have:=parP_deep p
  unfold deepP at *
  rw [e] at this
  simp at this
  omega
 ·have e:parP p = []:=by unfold parP;rw [if_pos (by omega)]
  have:(splitP p).dropLast = []:=List.length_eq_zero_iff.1 (by rw [List.length_dropLast];unfold deepP at *;omega)
  rw [this,e]
  rfl
theorem refWrite_any {A:Option Addr} {c g:Nat} {l:List Nat} {w:World} (hA:l ≠ []->A=some ⟨g,0,none⟩) (hc:∀ (i n:Nat),l[i]? = some n->w.cell? ⟨g,i,none⟩=some (natI n)) (hl:l.length<=8) (hn:∀ n ∈ l,n<=1073741824) :
  Calls Tryz.prog 77 #[.slice A l.length c] w fun e w'=>e=.returned (St (wrP l))/\Ext w w':=by
 have HC:=Lib.hid hc
 have HA:=Lib.hid hA
 have HN:=Lib.hid hn
 clear hc hA hn
 go_enter Tryz.func77,Tryz.ntmps77
 go_wp2_with fail
 go_loopw [3,4] (fun s i wr=>∃ pre post,Hid (l=pre++post)/\i=I pre.length/\s=St (wrP pre)/\Ext w wr) (fun _ i _=>l.length - (intOf i).toNat)
 case atStart=>exact⟨[],l,Lib.hid rfl,rfl,rfl,Ext.refl _⟩
 case round =>
  obtain⟨pre,post,hl2,rfl,rfl,hx⟩:=hrel
  cases post with
  | nil =>
   have e:l=pre:=by rw [hl2.out];simp
   subst e
   have HX:=Lib.hid hx
   have d1:¬ (l.length:Int) < l.length:=by omega
   clear hl2 hx
   go_wp2_with fail
   go_ret
   exact⟨rfl,HX.out⟩
  | cons n post =>
   have e:=HA.out (by rw [hl2.out];simp)
   subst e
   have k0:=hx.cell (HC.out pre.length n (by rw [hl2.out];simp))
   have hlen:l.length=pre.length+(post.length+1):=by rw [hl2.out];simp
   have d0:(0:Int)<=pre.length:=by omega
   have d1:(pre.length:Int) < l.length:=by omega
   have hnn:=HN.out n (by rw [hl2.out];simp)
   have HNU:=Lib.hid (refNum_any n (by omega))
   have hpl:=wrP_len (l:=pre) (fun m hm=>HN.out m (by rw [hl2.out];exact List.mem_append_left _ hm))
   have hdl:=dec_len hnn
   have HX:=Lib.hid hx
   unfold natI at k0
   have hb:pre.length<=8:=by omega
   clear hx hlen
   by_cases h0:pre = []
   ·subst h0
    have HW:=Lib.hid (show (⟨([]:Str).toArray⟩:ByteArray)++⟨(Lib.decDigits n).toArray⟩=⟨(wrP [n]).toArray⟩ from bytes_append [] _)
    have hw0:wrP [] = []:=rfl
    rw [hw0]
    simp only [List.length_nil] at k0 d0 d1 ⊢
    go_wp2_with fail
    refine (HNU.out _).mono ?_
    rintro e w2 ⟨rfl,hx2⟩
    generalize Lib.decDigits n=D at *
    go_wp2_with fail
    go_roundw
    case rel=>exact⟨[n],post,Lib.hid (by rw [hl2.out];simp),rfl,by first | exact congrArg Value.string HW.out | (rw [<- HW.out];simp),HX.out.trans hx2⟩
    case measure=>simp [intOf];omega
   ·have d2:(pre.length:Int) > 0:=by
     have:0 < pre.length:=List.length_pos_iff.2 h0
     omega
    have HW:=Lib.hid (show (⟨(wrP pre).toArray⟩:ByteArray)++⟨#[46]⟩++⟨(Lib.decDigits n).toArray⟩=⟨(wrP (pre++[n])).toArray⟩ by
     rw [wrP_snoc h0]
     have h1:=bytes_append (wrP pre) [46]
     have h2:=bytes_append (wrP pre++[46]) (Lib.decDigits n)
     have e46:(⟨#[46]⟩:ByteArray)=⟨([46]:Str).toArray⟩:=rfl
     rw [e46,h1,h2]
     simp)
    have HPR:=Lib.hid (show (((pre++[n]).length:Nat):Int)=pre.length+1 by simp)
    generalize wrP pre=P at *
    clear h0
    go_wp2_with fail
    refine (HNU.out _).mono ?_
    rintro e w2 ⟨rfl,hx2⟩
    generalize Lib.decDigits n=D at *
    go_wp2_with fail
    go_roundw
    case rel=>exact⟨pre++[n],post,Lib.hid (by rw [hl2.out];simp),by simp,congrArg Value.string HW.out,HX.out.trans hx2⟩
    case measure=>simp [intOf];omega
section
variable {p:Str} (hm:mayP p=true) (hl:p.length < 4611686018427387904)
include hm hl
theorem refMay_any (w:World):Calls Tryz.prog 79 #[St p] w fun e w'=>e=.returned (.bool true)/\Ext w w':=by
 have HR:=Lib.hid (refRead_any p hm hl w)
 clear hm hl
 go_enter Tryz.func79,Tryz.ntmps79
 go_wp2_with fail
 refine HR.out.mono ?_
 rintro e w1 ⟨v,rfl,-,hx⟩
 go_wp2_with fail
 go_ret
 exact⟨rfl,hx⟩
theorem refDeep_any (w:World):Calls Tryz.prog 27 #[St p] w fun e w'=>e=.returned (I (deepP p))/\Ext w w':=by
 have HR:=Lib.hid (refRead_any p hm hl w)
 clear hm hl
 go_enter Tryz.func27,Tryz.ntmps27
 go_wp2_with fail
 refine HR.out.mono ?_
 rintro e w1 ⟨v,rfl,ho,hx⟩
 obtain⟨A,c,rfl,-,-⟩:=ho.form
 clear ho
 go_wp2_with fail
 go_ret
 exact⟨rfl,hx⟩
theorem refNumber_any (w:World):Calls Tryz.prog 81 #[St p] w fun e w'=>e=.returned (I (numP p))/\Ext w w':=by
 have HR:=Lib.hid (refRead_any p hm hl w)
 have hd:0 < deepP p:=by unfold mayP at hm;simpa using hm
 have h8:deepP p<=8:=splitP_len p
 have HD:=Lib.hid (show numP p=if deepP p < 2 then 0 else (splitP p).getLast?.getD 0 from rfl)
 generalize numP p=N at *
 unfold deepP at *
 clear hm hl
 generalize splitP p=K at *
 go_enter Tryz.func81,Tryz.ntmps81
 go_wp2_with fail
 refine HR.out.mono ?_
 rintro e w1 ⟨v,rfl,ho,hx⟩
 obtain⟨g,c,cur,rfl,-⟩:=ho.pos hd
 by_cases h1:K.length=1
 ·have e1:((K.length:Int) == 1)=true:=by rw [h1];rfl
  have HF:=Lib.hid (show 0=N by rw [HD.out,if_pos (by omega)])
  clear h1 ho HD hd h8
  go_wp2_with fail
  go_ret
  exact⟨by rw [<- HF.out];rfl,hx⟩
 ·have e1:((K.length:Int) == 1)=false:=by rw [beq_eq_false_iff_ne];omega
  obtain⟨n,hn⟩:∃ n,K.getLast? = some n:=by
   cases hk:K.getLast? with
   | some n=>exact⟨n,rfl⟩
   | none=>rw [List.getLast?_eq_none_iff] at hk;rw [hk] at hd;simp at hd
  have HF:=Lib.hid (show n=N by rw [HD.out,if_neg (by omega),hn];rfl)
  have hc:=ho.cell (j:=K.length - 1) (u:=natI n) rfl (by rw [List.getElem?_map,<- List.getLast?_eq_getElem?,hn];rfl)
  unfold natI at hc
  obtain⟨jp,hjp⟩:∃ jp:Int,(K.length:Int) - 1=jp:=⟨_,rfl⟩
  obtain⟨kl,hkl⟩:∃ kl:Int,(K.length:Int)=kl:=⟨_,rfl⟩
  have n0:(0:Int)<=jp:=by omega
  have n1:jp < kl:=by omega
  have n4:IntKind.i64.wrap (kl - 1)=jp:=by rw [show kl - 1=jp by omega];exact wrap_small _ (by omega) (by omega)
  have n6:jp.toNat=K.length - 1:=by omega
  have n7:jp < (K.length:Int):=by omega
  have n8:IntKind.i64.wrap ((K.length:Int) - 1)=jp:=by rw [hjp];exact wrap_small _ (by omega) (by omega)
  clear h1 ho HD hd h8 hn hjp hkl
  go_wp2_with fail
  go_ret
  exact⟨by rw [<- HF.out];rfl,hx⟩
theorem refParent_any (w:World):Calls Tryz.prog 26 #[St p] w fun e w'=>e=.returned (St (parP p))/\Ext w w':=by
 have HR:=Lib.hid (refRead_any p hm hl w)
 have hd:0 < deepP p:=by unfold mayP at hm;simpa using hm
 have h8:deepP p<=8:=splitP_len p
 have HW:=Lib.hid (wrP_par hd)
 have HLE:=Lib.hid (split_le (p:=p))
 generalize parP p=N at *
 unfold deepP at *
 clear hm hl
 generalize splitP p=K at *
 go_enter Tryz.func26,Tryz.ntmps26
 go_wp2_with fail
 refine HR.out.mono ?_
 rintro e w1 ⟨v,rfl,ho,hx⟩
 obtain⟨g,c,cur,rfl,-⟩:=ho.pos hd
 have hcell:∀ (i n:Nat),K.dropLast[i]? = some n->w1.cell? ⟨g,i,none⟩=some (natI n):=by
  intro i n hi
  have h1:K[i]? = some n:=by
   rw [List.getElem?_dropLast] at hi
   split at hi
   ·exact hi
   ·cases hi
  have h2:(K.map natI)[i]? = some (natI n):=by rw [List.getElem?_map,h1];rfl
  exact ho.cell rfl h2
 have hl8:K.dropLast.length<=8:=by rw [List.length_dropLast];omega
 have hle:∀ n ∈ K.dropLast,n<=1073741824:=fun n hn=>HLE.out n (List.dropLast_subset K hn)
 have HWR:=Lib.hid (refWrite_any (A:=some ⟨g,0,none⟩) (c:=c) (l:=K.dropLast) (w:=w1) (g:=g) (fun _=>rfl) hcell hl8 hle)
 clear hcell hl8 hle
 rw [HW.out] at HWR
 obtain⟨m,hm⟩:∃ m,K.dropLast.length=m:=⟨_,rfl⟩
 have hml:K.length=m+1:=by rw [<- hm,List.length_dropLast];omega
 rw [hm] at HWR
 obtain⟨Kl,hKl⟩:∃ Kl,K.length=Kl:=⟨_,rfl⟩
 have hcl:Kl<=c:=by rw [<- hKl];obtain⟨A',c',he,h1,h2⟩:=ho.form;cases he;omega
 rw [hKl]
 rw [hKl] at hml
 subst hml
 have hm8:m<=8:=by omega
 have n4:IntKind.i64.wrap ((m:Int)+1 - 1)=m:=by rw [show (m:Int)+1 - 1=m by omega];exact wrap_small _ (by omega) (by omega)
 have n0:(0:Int)<=m:=by omega
 have n1:(m:Int)<=c:=by omega
 have n5:IntKind.i64.wrap (m:Int)=m:=wrap_small _ (by omega) (by omega)
 have n6:(m:Int)<=(m:Int)+1:=by omega
 clear ho hm hKl hd h8
 go_wp2_with fail
 refine HWR.out.mono ?_
 rintro e w2 ⟨rfl,hx2⟩
 go_wp2_with fail
 go_ret
 exact⟨rfl,hx.trans hx2⟩
theorem refChild_any (n:Nat) (h1:1<=n) (h2:n<=1073741824) (w:World):Calls Tryz.prog 28 #[St p,I n] w fun e w'=>e=.returned (.tuple #[St (childP p n).1,I (childP p n).2])/\Ext w w':=by
 have HR:=Lib.hid (refRead_any p hm hl w)
 have hd:0 < deepP p:=by unfold mayP at hm;simpa using hm
 have h8:deepP p<=8:=splitP_len p
 have HNU:=Lib.hid (refNum_any n (by omega))
 have hdl:=dec_len h2
 have HC:=Lib.hid (show childP p n=if deepP p=8 then ([],6) else (p++46 :: Lib.decDigits n,0) by
  unfold childP
  rw [if_neg (by omega),if_neg (by omega),itoa_pos (by omega)]
  rfl)
 have HB:=Lib.hid (show (⟨p.toArray⟩:ByteArray)++⟨#[46]⟩++⟨(Lib.decDigits n).toArray⟩=⟨(p++46 :: Lib.decDigits n).toArray⟩ by
  have h1:=bytes_append p [46]
  have h2:=bytes_append (p++[46]) (Lib.decDigits n)
  have e46:(⟨#[46]⟩:ByteArray)=⟨([46]:Str).toArray⟩:=rfl
  rw [e46,h1,h2]
  simp)
 have e1:decide ((n:Int) < 1)=false:=decide_eq_false (by omega)
 have e1':¬ n=0:=by omega
 have e1'':¬ (n:Int) < 1:=by omega
 have e2:¬ (n:Int) > 1073741824:=by omega
 generalize childP p n=Z at *
 unfold deepP at *
 clear hm
 generalize splitP p=K at *
 go_enter Tryz.func28,Tryz.ntmps28
 go_wp2_with fail
 refine HR.out.mono ?_
 rintro e w1 ⟨v,rfl,ho,hx⟩
 obtain⟨A,c,rfl,-,-⟩:=ho.form
 by_cases h8':K.length=8
 ·have e3:((K.length:Int) == 8)=true:=by rw [h8'];rfl
  have HF:=Lib.hid (show (([]:Str),6)=Z by rw [HC.out,if_pos h8'])
  clear h8' ho HC hd h8
  go_wp2_with fail
  refine bodyPost_ret (v:=.tuple #[St [],I 6]) (by simp [results,Tryz.f28,go_sem]) rfl ?_
  exact⟨by rw [<- HF.out];rfl,hx⟩
 ·have e3:((K.length:Int) == 8)=false:=by rw [beq_eq_false_iff_ne];omega
  have HF:=Lib.hid (show (p++46 :: Lib.decDigits n,0)=Z by rw [HC.out,if_neg h8'])
  generalize Lib.decDigits n=D at *
  clear h8' ho HC hd h8
  go_wp2_with fail
  refine (HNU.out _).mono ?_
  rintro e w2 ⟨rfl,hx2⟩
  go_wp2_with fail
  refine bodyPost_ret (v:=.tuple #[.string ((⟨p.toArray⟩:ByteArray)++⟨#[46]⟩++⟨D.toArray⟩),I 0]) (by simp [results,Tryz.f28,go_sem]) rfl ?_
  exact⟨by rw [<- HF.out,HB.out];rfl,hx.trans hx2⟩
end
theorem refMayB_any (p:Str) (hl:p.length < 1073741824) (w:World):Calls Tryz.prog 79 #[St p] w fun e w'=>e=.returned (.bool (mayP p))/\Ext w w':=by
 cases hm:mayP p with
 | true=>exact refMay_any hm (by omega) w
 | false =>
  have HR:=Lib.hid (refRead_no p hm hl w)
  clear hm hl
  go_enter Tryz.func79,Tryz.ntmps79
  go_wp2_with fail
  refine HR.out.mono ?_
  rintro e w1 ⟨⟨v,rfl⟩,hx⟩
  go_wp2_with fail
  go_ret
  exact⟨rfl,hx⟩
theorem refDeepB_any (p:Str) (hl:p.length < 1073741824) (w:World):Calls Tryz.prog 27 #[St p] w fun e w'=>e=.returned (I (deepP p))/\Ext w w':=by
 cases hm:mayP p with
 | true=>exact refDeep_any hm (by omega) w
 | false =>
  have HR:=Lib.hid (refRead_no p hm hl w)
  have hd:deepP p=0:=by unfold mayP at hm;simpa using hm
  rw [hd]
  clear hm hl hd
  go_enter Tryz.func27,Tryz.ntmps27
  go_wp2_with fail
  refine HR.out.mono ?_
  rintro e w1 ⟨⟨v,rfl⟩,hx⟩
  go_wp2_with fail
  go_ret
  exact⟨rfl,hx⟩
def ordI (less same:Bool):Int:=if same then 0 else if less then -1 else 1
theorem refOrder_any (l s:Bool) (w:World):Calls Tryz.prog 97 #[.bool l,.bool s] w fun e w'=>e=.returned (I (ordI l s))/\w'=w:=by
 cases l <;> cases s
 all_goals
  go_enter Tryz.func97,Tryz.ntmps97
  go_wp2_with fail
  go_ret
  exact⟨rfl,rfl⟩
theorem ordI_S (a b:Str):ordI (ltS a b) (a == b)=cmpS a b:=by
 unfold ordI cmpS
 by_cases h:a=b
 ·subst h;simp [ltS_irrefl]
 ·have:(a == b)=false:=by simpa using h
  rw [this];rfl
theorem cmpL_cc (x y:Nat) (a b:List Nat):cmpL (x :: a) (y :: b)=if x < y then -1 else if y < x then 1 else cmpL a b:=rfl
theorem cmpL_front:∀ (pre a b:List Nat),cmpL (pre++a) (pre++b)=cmpL a b
 | [],_,_=>rfl
 | x :: pre,a,b=>by rw [List.cons_append,List.cons_append,cmpL_cc,if_neg (by omega),if_neg (by omega),cmpL_front pre]
theorem ordI_ne {x y:Nat} (h:x ≠ y) (a b:List Nat):ordI (decide (x < y)) false=cmpL (x :: a) (y :: b):=by
 rw [cmpL_cc]
 unfold ordI
 by_cases h1:x < y
 ·rw [if_pos h1,decide_eq_true h1];rfl
 ·have h2:y < x:=by omega
  rw [if_neg h1,if_pos h2,decide_eq_false h1];rfl
theorem cmpL_nil_r (a:List Nat):cmpL a []=ordI (decide ((a.length:Int) < 0)) ((a.length:Int) == 0):=by
 cases a with
 | nil=>rfl
 | cons x a =>
  have h1:(((x :: a).length:Nat):Int) ≠ 0:=by simp;omega
  have h2:¬ (((x :: a).length:Nat):Int) < 0:=by omega
  have h3:((((x :: a).length:Nat):Int) == 0)=false:=by rw [beq_eq_false_iff_ne];exact h1
  unfold ordI
  rw [h3,decide_eq_false h2]
  rfl
theorem cmpL_nil_l (b:List Nat):cmpL [] b=ordI (decide ((0:Int) < b.length)) ((0:Int) == b.length):=by
 cases b with
 | nil=>rfl
 | cons y b =>
  have h1:((0:Int) == ((y :: b).length:Nat))=false:=by rw [beq_eq_false_iff_ne];simp only [List.length_cons];omega
  have h2:(0:Int) < ((y :: b).length:Nat):=by simp
  unfold ordI
  rw [h1,decide_eq_true h2]
  rfl
theorem refCmp_any (a b:Str) (ha:a.length < 1073741824) (hb:b.length < 1073741824) (w:World):Calls Tryz.prog 35 #[St a,St b] w fun e w'=>e=.returned (I (cmpPath a b))/\Ext w w':=by
 have HO:=Lib.hid (fun l s W=>refOrder_any l s W)
 have HOE:=Lib.hid (fun l s W=>(refOrder_any l s W).mono (R':=fun e w'=>e=.returned (I (ordI l s))/\Ext W w') (by rintro e w' ⟨rfl,rfl⟩;exact⟨rfl,Ext.refl _⟩))
 cases hma:mayP a with
 | false =>
  have da:deepP a=0:=by unfold mayP at hma;simpa using hma
  have HA:=Lib.hid (refRead_no a hma ha w)
  cases hmb:mayP b with
  | false =>
   have db:deepP b=0:=by unfold mayP at hmb;simpa using hmb
   have HB:=Lib.hid (fun W=>refRead_no b hmb hb W)
   have HK:=Lib.hid (show cmpPath a b=ordI (ltS a b) (a == b) by rw [ordI_S];unfold cmpPath;rw [if_pos ⟨da,db⟩])
   clear hma hmb da db
   go_enter Tryz.func35,Tryz.ntmps35
   go_wp2_with fail
   refine HA.out.mono ?_
   rintro e w1 ⟨⟨v,rfl⟩,hx⟩
   go_wp2_with fail
   refine (HB.out _).mono ?_
   rintro e w2 ⟨⟨v2,rfl⟩,hx2⟩
   go_wp2_with fail
   refine (HO.out _ _ _).mono ?_
   rintro e w3 ⟨rfl,rfl⟩
   go_wp2_with fail
   go_ret
   exact⟨by rw [HK.out];rfl,hx.trans hx2⟩
  | true =>
   have db:¬ deepP b=0:=by unfold mayP at hmb;simp at hmb;omega
   have HB:=Lib.hid (fun W=>refRead_any b hmb (by omega) W)
   have HK:=Lib.hid (show cmpPath a b=ordI true false by unfold cmpPath;rw [if_neg (by omega),if_pos da];rfl)
   clear hma hmb da db
   go_enter Tryz.func35,Tryz.ntmps35
   go_wp2_with fail
   refine HA.out.mono ?_
   rintro e w1 ⟨⟨v,rfl⟩,hx⟩
   go_wp2_with fail
   refine (HB.out _).mono ?_
   rintro e w2 ⟨v2,rfl,-,hx2⟩
   go_wp2_with fail
   refine (HO.out _ _ _).mono ?_
   rintro e w3 ⟨rfl,rfl⟩
   go_wp2_with fail
   go_ret
   exact⟨by rw [HK.out];rfl,hx.trans hx2⟩
 | true =>
  have da:¬ deepP a=0:=by unfold mayP at hma;simp at hma;omega
  have HA:=Lib.hid (refRead_any a hma (by omega) w)
  cases hmb:mayP b with
  | false =>
   have db:deepP b=0:=by unfold mayP at hmb;simpa using hmb
   have HB:=Lib.hid (fun W=>refRead_no b hmb hb W)
   have HK:=Lib.hid (show cmpPath a b=ordI false false by unfold cmpPath;rw [if_neg (by omega),if_neg da,if_pos db];rfl)
   clear hma hmb da db
   go_enter Tryz.func35,Tryz.ntmps35
   go_wp2_with fail
   refine HA.out.mono ?_
   rintro e w1 ⟨v,rfl,-,hx⟩
   go_wp2_with fail
   refine (HB.out _).mono ?_
   rintro e w2 ⟨⟨v2,rfl⟩,hx2⟩
   go_wp2_with fail
   refine (HO.out _ _ _).mono ?_
   rintro e w3 ⟨rfl,rfl⟩
   go_wp2_with fail
   go_ret
   exact⟨by rw [HK.out];rfl,hx.trans hx2⟩
  | true =>
   have db:¬ deepP b=0:=by unfold mayP at hmb;simp at hmb;omega
   have HB:=Lib.hid (fun W=>refRead_any b hmb (by omega) W)
   have h8a:(splitP a).length<=8:=splitP_len a
   have h8b:(splitP b).length<=8:=splitP_len b
   have HK:=Lib.hid (show cmpPath a b=cmpL (splitP a) (splitP b) by unfold cmpPath;rw [if_neg (by omega),if_neg da,if_neg db])
   generalize cmpPath a b=K at *
   generalize splitP a=l at *
   generalize splitP b=m at *
   clear hma hmb da db
   go_enter Tryz.func35,Tryz.ntmps35
   go_wp2_with fail
   refine HA.out.mono ?_
   rintro e w1 ⟨v,rfl,hoa,hx⟩
   obtain⟨A,ca,rfl,-,-⟩:=hoa.form
   have HOA:=Lib.hid hoa
   clear hoa
   go_wp2_with fail
   refine (HB.out _).mono ?_
   rintro e w2 ⟨v2,rfl,hob,hx2⟩
   obtain⟨B,cb,rfl,-,-⟩:=hob.form
   have HOB:=Lib.hid hob
   have HOA:=Lib.hid (HOA.out.ext hx2)
   have HX:=Lib.hid (hx.trans hx2)
   clear hob hx hx2
   go_wp2_with fail
   go_loopw [9] (fun i wr=>∃ pre l2 m2,Hid (l=pre++l2)/\Hid (m=pre++m2)/\i=I pre.length/\Ext w2 wr) (fun i _=>l.length - (intOf i).toNat)
   case atStart=>exact⟨[],l,m,Lib.hid rfl,Lib.hid rfl,rfl,Ext.refl _⟩
   case round =>
    obtain⟨pre,l2,m2,hl,hm,rfl,hx3⟩:=hrel
    have hll:l.length=pre.length+l2.length:=by rw [hl.out];simp
    have hml:m.length=pre.length+m2.length:=by rw [hm.out];simp
    cases l2 with
    | nil =>
     have HF:=Lib.hid (show K=ordI (decide (l.length < m.length)) ((l.length:Int) == m.length) by
      rw [HK.out,hl.out,hm.out,cmpL_front,cmpL_nil_l]
      congr 1
      ·rw [decide_eq_decide];simp
      ·rw [Bool.eq_iff_iff,beq_iff_eq,beq_iff_eq];simp;omega)
     have d1:¬ (pre.length:Int) < l.length:=by simp at hll;omega
     have HX3:=Lib.hid hx3
     clear hll hml hx3
     go_wp2_with fail
     refine (HO.out _ _ _).mono ?_
     rintro e w3 ⟨rfl,rfl⟩
     go_wp2_with fail
     go_ret
     exact⟨by rw [HF.out];rfl,HX.out.trans HX3.out⟩
    | cons x l2 =>
     have d1:(pre.length:Int) < l.length:=by simp at hll;omega
     cases m2 with
     | nil =>
      have HF:=Lib.hid (show K=ordI (decide (l.length < m.length)) ((l.length:Int) == m.length) by
       rw [HK.out,hl.out,hm.out,cmpL_front,cmpL_nil_r]
       congr 1
       ·rw [decide_eq_decide];simp;omega
       ·rw [Bool.eq_iff_iff,beq_iff_eq,beq_iff_eq];simp;omega)
      have d2:¬ (pre.length:Int) < m.length:=by simp at hml;omega
      have HX3:=Lib.hid hx3
      clear hll hml hx3
      go_wp2_with fail
      refine (HO.out _ _ _).mono ?_
      rintro e w3 ⟨rfl,rfl⟩
      go_wp2_with fail
      go_ret
      exact⟨by rw [HF.out];rfl,HX.out.trans HX3.out⟩
     | cons y m2 =>
      have d2:(pre.length:Int) < m.length:=by simp at hml;omega
      obtain⟨ga,cpa,cra,hva,-⟩:=HOA.out.pos (by simp at hll;omega)
      obtain⟨gb,cpb,crb,hvb,-⟩:=HOB.out.pos (by simp at hml;omega)
      injection hva with e1 e2 e3
      subst e1 e3
      injection hvb with e1 e2 e3
      subst e1 e3
      have k1:=hx3.cell (HOA.out.cell (j:=pre.length) (u:=I (x:Nat)) rfl (by rw [hl.out,List.map_append,List.getElem?_append_right (by simp)];simp [natI]))
      have k2:=hx3.cell (HOB.out.cell (j:=pre.length) (u:=I (y:Nat)) rfl (by rw [hm.out,List.map_append,List.getElem?_append_right (by simp)];simp [natI]))
      have HX3:=Lib.hid hx3
      clear hll hml
      by_cases hxy:x=y
      ·subst hxy
       have q1:((x:Int) != x)=false:=by simp
       clear hx3
       go_wp2_with fail
       go_quiet (fail)
       go_wp2_with fail
       go_roundw
       case rel=>exact⟨pre++[x],l2,m2,Lib.hid (by rw [hl.out];simp),Lib.hid (by rw [hm.out];simp),by simp,HX3.out.drewN _⟩
       case measure=>simp [intOf];omega
      ·have q1:((x:Int) != y)=true:=by rw [bne_iff_ne];omega
       have q1':((x:Int) == y)=false:=by rw [beq_eq_false_iff_ne];omega
       have HF:=Lib.hid (show K=ordI (decide (x < y)) false by rw [HK.out,hl.out,hm.out,cmpL_front,ordI_ne hxy l2 m2])
       clear hx3 hxy
       go_wp2_with fail
       go_quiet (fail)
       go_wp2_with fail
       have kk:∀ W,Ext wr W->W.cell? ⟨ga,pre.length,none⟩=some (I (x:Nat))/\W.cell? ⟨gb,pre.length,none⟩=some (I (y:Nat))/\Ext wr W:=fun W he=>⟨he.cell k1,he.cell k2,he⟩
       go_region_held3 (fun W=>W.cell? ⟨ga,pre.length,none⟩=some (I (x:Nat))/\W.cell? ⟨gb,pre.length,none⟩=some (I (y:Nat))/\Ext wr W) (first | exact kk _ ((Ext.refl _).drewN _).drew | exact kk _ (Ext.refl _).drew | exact kk _ (‹_/\_/\Ext wr _›.2.2.trans hb1)) (first | (go_at_call 97;refine (HOE.out _ _ _).mono ?_;rintro e w6 ⟨rfl,hb1⟩))
       have hX:=(‹_/\_/\Ext wr _›).2.2
       go_wp2_with fail
       go_ret
       exact⟨by rw [HF.out];rfl,(HX.out.trans HX3.out).trans hX⟩
end
end Go.Proofs.YtblkikjmocnllaaGreatDoor
