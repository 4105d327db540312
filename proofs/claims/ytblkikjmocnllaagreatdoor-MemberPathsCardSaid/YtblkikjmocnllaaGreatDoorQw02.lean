/- gossamerlaw20.MemberPaths: its rows as rows of the call's own. -/
import Derived.Test.YtblkikjmocnllaaGreatDoorQw01
import Derived.Test.YtblkikjmocnllaaGreatDoorQv18
import Derived.Test.YtblkikjmocnllaaGreatDoorQv43
import Derived.Test.YtblkikjmocnllaaGreatDoorQv31
import Derived.Test.YtblkikjmocnllaaGreatDoorQv44
set_option linter.unusedVariables false
set_option linter.unusedSimpArgs false
set_option linter.unusedSectionVars false
namespace Go.Proofs.YtblkikjmocnllaaGreatDoor
open Go.Deep Go.RowKit Go.Shelf Go.ChangeShapes Go.WideShapes

structure DeedP where
  do_ : Nat
  n : Nat
  other : Nat
def deedPC (d : DeedP) : List Value := [U8 d.do_, U8 d.n, U8 d.other]
abbrev deedPT : Shape DeedP := flat 3 deedPC (fun _ => rfl) (fun _ u hu => by simp [deedPC] at hu; rcases hu with rfl | rfl | rfl <;> rfl)
def DeedPOk (d : DeedP) : Prop := d.do_ < 256 ∧ d.n < 256 ∧ d.other < 256
theorem deedP_at {l : List DeedP} {v : Value} {S : Nat → Prop} {w wr : World} (h : Sl deedPT w S v l) (he : Ext w wr) {pre post : List DeedP} {d : DeedP} (hl : l = pre ++ d :: post) :
    ∃ b of, (∃ c, v = .slice (some ⟨b, of, none⟩) l.length c) ∧ wr.cell? ⟨b, of + pre.length * 3, none⟩ = some (U8 d.do_) ∧ wr.cell? ⟨b, of + pre.length * 3 + 1, none⟩ = some (U8 d.n) ∧ wr.cell? ⟨b, of + pre.length * 3 + 2, none⟩ = some (U8 d.other) := by
  obtain ⟨b, o, vs, c, hv, -, hr, hc⟩ := h.at_ hl
  have hvs : vs = deedPC d := by simpa [deedPT, flat] using hr
  subst hvs
  exact ⟨b, o, ⟨c, hv⟩, he.cell (hc 0 _ rfl), he.cell (hc 1 _ rfl), he.cell (hc 2 _ rfl)⟩
section
variable {H : Type} {enc : TypeId × Value → H} {w : World}
theorem opens_u8p {n : Nat} {c : Value} {D : DataW H} {p : List MemPlace} (h : DataW.trod enc Tryz.prog w 0 (fun _ => true) true n 5 [c] = some (D, p)) : ∃ k : Nat, c = U8 k ∧ k < 256 := by
  obtain ⟨z, hc, -, hwf⟩ := DataW.trod_int Tryz.underlying5 h
  have hb : (decide (IntKind.u8.min ≤ z) && decide (z ≤ IntKind.u8.max)) = true := hwf
  simp only [Bool.and_eq_true, decide_eq_true_eq] at hb
  have h1 : (0 : Int) ≤ z := hb.1
  have h2 : z ≤ (255 : Int) := hb.2
  obtain ⟨k, rfl⟩ := Int.eq_ofNat_of_zero_le h1
  exact ⟨k, by simpa using hc, by omega⟩
theorem list3p {α : Type} {l : List α} (h : l.length = 3) : ∃ a b c, l = [a, b, c] := by
  match l, h with
  | [a, b, c], _ => exact ⟨a, b, c, rfl⟩
theorem opens_deedP : Opens enc w 58 deedPT DeedPOk := by
  intro n cs D p htr hw
  obtain ⟨xs, m, -, hx, hlen, hxl, hf⟩ := DataW.trod_struct Tryz.underlying58 htr
  obtain ⟨y0, y1, y2, rfl⟩ := list3p hxl
  obtain ⟨c0, c1, c2, rfl⟩ := list3p (hlen.trans (show Tryz.prog.cellsOf 58 = 3 by kernel_rfl))
  have g0 : DataW.trod enc Tryz.prog w 0 (fun _ => true) true m 5 ((([c0, c1, c2] : List Value).drop 0).take (Tryz.prog.cellsOf 5)) = some (y0.1, y0.2) := hf 0 _ rfl
  have g1 : DataW.trod enc Tryz.prog w 0 (fun _ => true) true m 5 ((([c0, c1, c2] : List Value).drop 1).take (Tryz.prog.cellsOf 5)) = some (y1.1, y1.2) := hf 1 _ rfl
  have g2 : DataW.trod enc Tryz.prog w 0 (fun _ => true) true m 5 ((([c0, c1, c2] : List Value).drop 2).take (Tryz.prog.cellsOf 5)) = some (y2.1, y2.2) := hf 2 _ rfl
  rw [show Tryz.prog.cellsOf 5 = 1 by kernel_rfl] at g0 g1 g2
  have q0 := opens_u8p g0
  have q1 := opens_u8p g1
  have q2 := opens_u8p g2
  obtain ⟨a, rfl, ha⟩ := q0
  obtain ⟨b, rfl, hb⟩ := q1
  obtain ⟨c, rfl, hc⟩ := q2
  exact ⟨⟨a, b, c⟩, rfl, ha, hb, hc⟩
instance : Inhabited DeedP := ⟨⟨0, 0, 0⟩⟩
theorem opens_deedsP : Opens enc w 53 (slT deedPT (by decide)) (fun l => (∀ a ∈ l, DeedPOk a) ∧ l.length * 3 ≤ reachBytes) :=
  opens_slice 3 (by decide) Tryz.underlying53 (by kernel_rfl) (by kernel_rfl) opens_deedP
set_option maxRecDepth 100000 in
theorem open_deeds20 {r : Reach} {b0 : Nat} {v : Value} {d : DataW H} {ps : List MemPlace} (hval : Value.okWide Tryz.prog w r b0 53 v) (h : DataW.Trod enc Tryz.prog w 0 (fun _ => true) true 53 v d ps)
    (hw : ∀ q ∈ DataW.weights Tryz.prog 53 d, q ≤ reachBytes) : ∃ l, Sl deedPT w (fun _ => True) v l ∧ ∀ a ∈ l, DeedPOk a := by
  obtain ⟨n, hn⟩ := h
  obtain ⟨l, ⟨v1, e, h1⟩, h2, -⟩ := opens_deedsP _ _ _ _ hn hw
  obtain ⟨a, len, cap, rfl⟩ := okWide_slice Tryz.underlying53 hval
  have f1 : Value.slice a len cap = v1 := by simpa [Value.cells] using e
  subst f1
  exact ⟨l, h1, h2⟩
end

theorem nodup_len {α : Type} [DecidableEq α] : ∀ {l m : List α}, l.Nodup → (∀ x ∈ l, x ∈ m) → l.length ≤ m.length
  | [], _, _, _ => Nat.zero_le _
  | a :: l, m, h, hs => by
    obtain ⟨h1, h2⟩ := List.nodup_cons.1 h
    have ha := hs a (List.mem_cons_self ..)
    have ih := nodup_len (m := m.erase a) h2 fun x hx => (List.mem_erase_of_ne (fun (e : x = a) => h1 (by rw [← e]; exact hx))).2 (hs x (List.mem_cons_of_mem _ hx))
    rw [List.length_erase_of_mem ha] at ih
    have := List.length_pos_of_mem ha
    rw [List.length_cons]
    omega
theorem PathsOk.len_le {all : List (List Mbr)} {who : List Str} (h : PathsOk all who) {l : List Mbr} (hl : l ∈ all) : l.length ≤ all.length := by
  have hn : (l.map Mbr.path).Nodup := by
    have h2 : (l.map Mbr.path).Pairwise fun a b => cmpPath a b < 0 := List.pairwise_map.2 (h.tame l hl).srt
    exact h2.imp fun {a b} h e => by rw [e, cmp_self] at h; omega
  have := nodup_len hn (m := who) fun p hp => by
    obtain ⟨x, hx, rfl⟩ := List.mem_map.1 hp
    exact h.inw l hl x hx
  rw [List.length_map] at this
  rw [h.len]
  exact this
section
variable {l : List Mbr} (t : Tame l)
include t
theorem Tame.plen {x : Mbr} (hx : x ∈ l) : x.path.length ≤ 88 := by
  have h1 := (t.each x hx).len
  have h2 : deepP x.path ≤ 8 := splitP_len x.path
  omega
theorem Tame.small (hl : l.length ≤ 1000) : SmallL l where
  len := by omega
  each x hx := by rw [(t.each x hx).gone, (t.each x hx).words]; simp
theorem Tame.joinOk (hl : l.length ≤ 1000) : JoinOk l where
  len := by omega
  path x hx := by have := t.plen hx; omega
  keeper x hx := by rw [(t.each x hx).plan]; decide
  words x hx z hz := by rw [(t.each x hx).words] at hz; cases hz
  gone x hx := by rw [(t.each x hx).gone]; simp
  wlen x hx := by rw [(t.each x hx).words]; simp
theorem Tame.tidy (hl : l.length ≤ 1000) : TidyL l where
  len := by omega
  path x hx := by have := t.plen hx; omega
  gone x hx := by rw [(t.each x hx).gone]; simp
  wlen x hx := by rw [(t.each x hx).words]; simp
  keeper x hx := by rw [(t.each x hx).plan]; decide
  live x hx := by rw [(t.each x hx).plan]; decide
  owner x hx := by rw [(t.each x hx).plan]; decide
  words x hx s hs := by rw [(t.each x hx).words] at hs; cases hs
end

structure PMem (W : World) (base ga ca gw cw : Nat) (vs ta tw : List Value) (all : List (List Mbr)) (who : List Str) : Prop where
  a : RowIs W ga 22 vs ta
  w : RowIs W gw 9 (who.map St) tw
  ca : vs.length + ta.length = ca ∧ ca ≤ 9223372036854775807
  cw : who.length + tw.length = cw ∧ cw ≤ 9223372036854775807
  bl : base ≤ ga ∧ base ≤ gw ∧ ga ≠ gw
  len : vs.length = all.length
  rd : ∀ (i : Nat) v l, vs[i]? = some v → all[i]? = some l → Sl mbrT W (fun b => b ≠ ga ∧ b ≠ gw) v l
section
variable {W W' : World} {base ga ca gw cw : Nat} {vs ta tw : List Value} {all : List (List Mbr)} {who : List Str}
theorem PMem.ext (h : PMem W base ga ca gw cw vs ta tw all who) (he : Ext W W') : PMem W' base ga ca gw cw vs ta tw all who :=
  ⟨h.a.ext he, h.w.ext he, h.ca, h.cw, h.bl, h.len, fun i v l hv hl => (h.rd i v l hv hl).ext (by decide) he⟩
theorem PMem.get (h : PMem W base ga ca gw cw vs ta tw all who) {k : Nat} {l : List Mbr} (hk : all[k]? = some l) : ∃ v, vs[k]? = some v ∧ W.cell? ⟨ga, k, none⟩ = some v ∧ Sl mbrT W (fun b => b ≠ ga ∧ b ≠ gw) v l := by
  have hl := (List.getElem?_eq_some_iff.1 hk).1
  have hv : vs[k]? = some (vs[k]'(by rw [h.len]; exact hl)) := List.getElem?_eq_getElem _
  exact ⟨_, hv, h.a.cell hv, h.rd k _ l hv hk⟩
theorem PMem.name (h : PMem W base ga ca gw cw vs ta tw all who) {k : Nat} {p : Str} (hk : who[k]? = some p) : W.cell? ⟨gw, k, none⟩ = some (St p) :=
  h.w.cell (by rw [List.getElem?_map, hk]; rfl)
theorem PMem.set (h : PMem W base ga ca gw cw vs ta tw all who) {k n : Nat} (hk : k < all.length) {v : Value} {l : List Mbr} (hn : ga < n ∧ gw < n) (hv : Sl mbrT W (fun b => n ≤ b) v l) :
    PMem (W.setCell ⟨ga, k, none⟩ v) base ga ca gw cw (vs.set k v) ta tw (all.set k l) who := by
  have hs : ∀ b, b ≠ ga → (W.setCell ⟨ga, k, none⟩ v).heap[b]? = W.heap[b]? := fun b hb => Below.heap_setCell W ⟨ga, k, none⟩ v b hb
  have hkv : k < vs.length := by rw [h.len]; exact hk
  refine ⟨h.a.set hkv v, h.w.other h.bl.2.2 v, by simpa using h.ca, h.cw, h.bl, by simpa using h.len, fun i u m hu hm => ?_⟩
  rw [List.getElem?_set] at hu hm
  by_cases e : k = i
  · subst e
    rw [if_pos rfl, if_pos hkv] at hu
    rw [if_pos rfl, if_pos hk] at hm
    injection hu with hu
    injection hm with hm
    subst hu hm
    exact (hv.keep (by decide) fun b hb _ => hs b (by omega)).mono (by decide) fun b _ hb => ⟨by omega, by omega⟩
  · rw [if_neg e] at hu hm
    exact (h.rd i u m hu hm).keep (by decide) fun b hb _ => hs b hb.1
theorem PMem.pushA (h : PMem W base ga ca gw cw vs ta tw all who) {v' : Value} {v : Value} {l : List Mbr} {c : Nat} (hb : base ≤ W.heap.size)
    (ho : Own W' base 22 1 v' (vs.length + 1) (vs ++ [v])) (hg : Grew W W' (.slice (some ⟨ga, 0, none⟩) c ca) v') {n : Nat} (hn : ga < n ∧ gw < n) (hv : Sl mbrT W (fun b => n ≤ b) v l) :
    ∃ ga' ca' ta', v' = .slice (some ⟨ga', 0, none⟩) (all.length + 1) ca' ∧ PMem W' base ga' ca' gw cw (vs ++ [v]) ta' tw (all ++ [l]) who ∧ (ga' = ga ∨ ga' = W.heap.size) := by
  obtain ⟨ga', ca', ta', rfl, hb', hr, hc, hm, hl⟩ := ho.row (by omega)
  have hbl : ga' = ga ∨ ga' = W.heap.size := by
    rcases hg.blk ga' ⟨ga', _, _, rfl, by omega, rfl⟩ with ⟨g, n0, c0, e, -, e2⟩ | e
    · cases e
      exact .inl e2
    · exact .inr e
  have hgw := h.w.lt
  have hga := h.a.lt
  have hne : ga' ≠ gw := by
    have := h.bl.2.2
    rcases hbl with e | e <;> omega
  have hs : ∀ b, b < W.heap.size → b ≠ ga → W'.heap[b]? = W.heap[b]? := fun b hb hne => hg.same b hb fun ⟨g, n0, c0, e, _, e2⟩ => by cases e; exact hne e2
  have hap : ∀ b, b < W.heap.size → b ≠ ga → b ≠ ga' := fun b hb hne => by rcases hbl with e | e <;> omega
  refine ⟨ga', ca', ta', by rw [h.len], ⟨hr, h.w.keep (hs gw hgw h.bl.2.2.symm), ?_, h.cw, ⟨hb', h.bl.2.1, hne⟩, by simp [h.len], fun i u m hu hm => ?_⟩, hbl⟩
  · constructor
    · have := hl
      simp only [List.length_append] at this ⊢
      omega
    · exact hm
  · by_cases hi : i < all.length
    · rw [List.getElem?_append_left (by rw [h.len]; exact hi)] at hu
      rw [List.getElem?_append_left hi] at hm
      exact ((h.rd i u m hu hm).mono (S' := fun b => (b ≠ ga ∧ b ≠ gw) ∧ b < W.heap.size) (by decide) (fun b hb hs => ⟨hs, hb⟩)).keep (w' := W') (by decide) (fun b hb hlt => hs b hlt hb.1.1) |>.mono (by decide) fun b _ hb => ⟨hap b hb.2 hb.1.1, hb.1.2⟩
    · have e1 := (List.getElem?_eq_some_iff.1 hm).1
      rw [List.length_append, List.length_singleton] at e1
      obtain rfl : i = all.length := by omega
      rw [List.getElem?_append_right (by omega), Nat.sub_self] at hm
      rw [← h.len, List.getElem?_append_right (by omega), Nat.sub_self] at hu
      simp at hu hm
      subst hu hm
      refine ((hv.mono (S' := fun b => n ≤ b ∧ b < W.heap.size) (by decide) (fun b hb hs => ⟨hs, hb⟩)).keep (w' := W') (by decide) (fun b hb hlt => hs b hlt (by omega))).mono (by decide) fun b _ hb => ⟨hap b hb.2 (by omega), by omega⟩
theorem PMem.pushW (h : PMem W base ga ca gw cw vs ta tw all who) {v' : Value} {p : Str} {c : Nat} 
    (ho : Own W' base 9 1 v' (who.length + 1) (who.map St ++ [St p])) (hg : Grew W W' (.slice (some ⟨gw, 0, none⟩) c cw) v') :
    ∃ gw' cw' tw', v' = .slice (some ⟨gw', 0, none⟩) (who.length + 1) cw' ∧ PMem W' base ga ca gw' cw' vs ta tw' all (who ++ [p]) ∧ (gw' = gw ∨ gw' = W.heap.size) := by
  obtain ⟨gw', cw', tw', rfl, hb', hr, hc, hm, hl⟩ := ho.row (by omega)
  have hbl : gw' = gw ∨ gw' = W.heap.size := by
    rcases hg.blk gw' ⟨gw', _, _, rfl, by omega, rfl⟩ with ⟨g, n0, c0, e, -, e2⟩ | e
    · cases e
      exact .inl e2
    · exact .inr e
  have hgw := h.w.lt
  have hga := h.a.lt
  have hs : ∀ b, b < W.heap.size → b ≠ gw → W'.heap[b]? = W.heap[b]? := fun b hb hne => hg.same b hb fun ⟨g, n0, c0, e, _, e2⟩ => by cases e; exact hne e2
  have hne : ga ≠ gw' := by
    have := h.bl.2.2
    rcases hbl with e | e <;> omega
  have hap : ∀ b, b < W.heap.size → b ≠ gw → b ≠ gw' := fun b hb hne => by rcases hbl with e | e <;> omega
  refine ⟨gw', cw', tw', rfl, ⟨h.a.keep (hs ga hga h.bl.2.2), ?_, h.ca, ?_, ⟨h.bl.1, hb', hne⟩, h.len, fun i u m hu hm => ?_⟩, hbl⟩
  · rw [List.map_append]
    exact hr
  · constructor
    · have := hl
      simp only [List.length_append, List.length_map, List.length_singleton] at this ⊢
      omega
    · exact hm
  · exact ((h.rd i u m hu hm).mono (S' := fun b => (b ≠ ga ∧ b ≠ gw) ∧ b < W.heap.size) (by decide) (fun b hb hs => ⟨hs, hb⟩)).keep (w' := W') (by decide) (fun b hb hlt => hs b hlt hb.1.2) |>.mono (by decide) fun b _ hb => ⟨hb.1.1, hap b hb.2 hb.1.2⟩
end
theorem info_mbrs : (Tryz.prog.info? 22).map (fun i => (i.zero, i.size, i.bytes)) = some (some (.slice none 0 0), 1, 24) := by kernel_rfl
end Go.Proofs.YtblkikjmocnllaaGreatDoor
namespace Go.Proofs.YtblkikjmocnllaaGreatDoor
open Go.RowKit Go.Shelf
section
variable {W W' : World} {base ga ca gw cw n : Nat} {vs ta tw : List Value} {all : List (List Mbr)} {who : List Str}
theorem PMem.ownA (h : PMem W base ga ca gw cw vs ta tw all who) (hn : all.length = n) : Own W base 22 1 (.slice (some ⟨ga, 0, none⟩) n ca) n vs := by
  have h1 := h.ca
  have h2 := h.len
  exact h.a.own h.bl.1 (by omega) h1.2 (by rw [List.length_append]; omega) (by rw [Nat.mul_one, ← hn, ← h2, List.take_length]) (by omega)
theorem PMem.ownW (h : PMem W base ga ca gw cw vs ta tw all who) (hn : who.length = n) : Own W base 9 1 (.slice (some ⟨gw, 0, none⟩) n cw) n (who.map St) := by
  have h1 := h.cw
  have h2 : (who.map St).length = who.length := List.length_map ..
  exact h.w.own h.bl.2.1 (by omega) h1.2 (by rw [List.length_append]; omega) (by rw [Nat.mul_one, ← hn, ← h2, List.take_length]) (by omega)
theorem PMem.pushA' (h : PMem W base ga ca gw cw vs ta tw all who) (hl : all.length = n) {v' : Value} {v : Value} {l : List Mbr} {c : Nat} (hb : base ≤ W.heap.size)
    (ho : Own W' base 22 1 v' (n + 1) (vs ++ [v])) (hg : Grew W W' (.slice (some ⟨ga, 0, none⟩) c ca) v') {N : Nat} (hn : ga < N ∧ gw < N) (hv : Sl mbrT W (fun b => N ≤ b) v l) :
    ∃ ga' ca' ta', v' = .slice (some ⟨ga', 0, none⟩) (n + 1) ca' ∧ PMem W' base ga' ca' gw cw (vs ++ [v]) ta' tw (all ++ [l]) who ∧ (ga' = ga ∨ ga' = W.heap.size) := by
  have h2 := h.len
  have := h.pushA hb (c := c) (by rw [h2, hl]; exact ho) hg hn hv
  rw [hl] at this
  exact this
theorem PMem.pushW' (h : PMem W base ga ca gw cw vs ta tw all who) (hl : who.length = n) {v' : Value} {p : Str} {c : Nat}
    (ho : Own W' base 9 1 v' (n + 1) (who.map St ++ [St p])) (hg : Grew W W' (.slice (some ⟨gw, 0, none⟩) c cw) v') :
    ∃ gw' cw' tw', v' = .slice (some ⟨gw', 0, none⟩) (n + 1) cw' ∧ PMem W' base ga ca gw' cw' vs ta tw' all (who ++ [p]) ∧ (gw' = gw ∨ gw' = W.heap.size) := by
  have := h.pushW (c := c) (by rw [hl]; exact ho) hg
  rw [hl] at this
  exact this
theorem PMem.extA (h : PMem W base ga ca gw cw vs ta tw all who) {w0 : World} (hx : Ext w0 W) (hb : w0.heap.size ≤ base) {v' : Value} {c : Nat} (hg : Grew W W' (.slice (some ⟨ga, 0, none⟩) c ca) v') : Ext w0 W' :=
  hx.grew hg fun b ⟨g, n0, c0, e, _, e2⟩ => by cases e; rw [e2]; exact Nat.le_trans hb h.bl.1
theorem PMem.extW (h : PMem W base ga ca gw cw vs ta tw all who) {w0 : World} (hx : Ext w0 W) (hb : w0.heap.size ≤ base) {v' : Value} {c : Nat} (hg : Grew W W' (.slice (some ⟨gw, 0, none⟩) c cw) v') : Ext w0 W' :=
  hx.grew hg fun b ⟨g, n0, c0, e, _, e2⟩ => by cases e; rw [e2]; exact Nat.le_trans hb h.bl.2.1
end
end Go.Proofs.YtblkikjmocnllaaGreatDoor
