/- Contracts of the functions that the statement goes through, with their plain words: Words and laws on memory that the walks of this claim share: how a slice, a struct reads; a row of the call's own; append. No program in sight. Plain words on strings and vectors of marks: no program in sight. The Go types of the program as shapes, and their rows of the program's table. slices.Clone at each element type of the program: a new row that reads as what came in. (Printed by gen_clone.py.) A block that is known whole: read, written, cleared, as a list of cells. slices.IndexFunc, slices.DeleteFunc at []api.Mark, whatever predicate: the marks that stay, in order; the row's own block alone is written. Package dots, the readers: May, Of, Has. Each returns what the plain word says, and leaves all that was there. Plain words on sorting: an insertion sort; two sorted permutations of one list are one. slices.CompactFunc at []api.Mark, with the closure of dots.tidy: of each run of one path the first mark stays. -/
import Derived.WalkKit
import Derived.Lib.Hide
import Derived.Below
import Derived.Outline
import Derived.WalkLawsBesides
import Derived.WalkSpells
import Derived.IntWalk
import Derived.LoopTactic
import Derived.BigGuardPart
import Derived.Deep.RegionHeld3
import Derived.Deep.QuietTactic
import Derived.BigQuiet
import Derived.Test.YtdikcgmdmcfpfaaGreatRows
import Derived.Shelf.SlSortCmp.WholeK
namespace Go.Proofs.YtdikcgmdmcfpfaaGreat
open Go.RowKit

abbrev Str := List UInt8
abbrev St (s : Str) : Value := .string ⟨s.toArray⟩
abbrev U (n : Nat) : Value := .int .u64 (n : Int)
abbrev I (n : Int) : Value := .int .i64 n
abbrev Ext (w w' : World) : Prop := Below w.heap.size w w'

theorem Ext.refl (w : World) : Ext w w := Below.refl _ _
theorem Ext.trans {w w1 w2 : World} (h : Ext w w1) (k : Ext w1 w2) : Ext w w2 := Below.trans h (Below.mono k h.size)
theorem Ext.alloc {w w1 : World} (h : Ext w w1) (o : Obj) : Ext w (w1.alloc o) := Below.alloc h h.size o
theorem Ext.drew {w w1 : World} (h : Ext w w1) : Ext w w1.drew := Below.drew h
theorem Ext.drewN {w w1 : World} (h : Ext w w1) (n : Nat) : Ext w (w1.drewN n) := ⟨h.os, h.tape, h.output, h.size, h.block⟩
theorem Ext.set {w w1 : World} (h : Ext w w1) {p : Addr} (hp : w.heap.size ≤ p.block) (v : Value) : Ext w (w1.setCell p v) := Below.setCell h hp v
theorem Ext.grown {w w1 w2 : World} {row : Option Nat} (h : Ext w w1) (hg : w1.grownBy w2 row) (hr : ∀ k, row = some k → w.heap.size ≤ k) : Ext w w2 :=
  Below.grown h hg h.size hr

theorem blk_of_cell {w : World} {b o : Nat} {v : Value} (h : w.cell? ⟨b, o, none⟩ = some v) : b < w.heap.size := World.block_lt_of_cell? w ⟨b, o, none⟩ h
theorem Ext.cell {w w' : World} (h : Ext w w') {b o : Nat} {v : Value} (hc : w.cell? ⟨b, o, none⟩ = some v) : w'.cell? ⟨b, o, none⟩ = some v :=
  (Below.cell h (p := ⟨b, o, none⟩) (blk_of_cell hc)).trans hc
theorem Ext.frozen {w w' : World} (h : Ext w w') {b o : Nat} (hb : b < w.heap.size) : w'.frozen? ⟨b, o, none⟩ = w.frozen? ⟨b, o, none⟩ := Below.frozen h (p := ⟨b, o, none⟩) hb
theorem Ext.heap {w w' : World} (h : Ext w w') {b : Nat} {o : Obj} (hb : w.heap[b]? = some o) : w'.heap[b]? = some o :=
  (h.block b (Array.getElem?_eq_some_iff.1 hb).1).trans hb

/-! ### shapes: how a value of a Go type lies in cells -/
structure Shape (α : Type) where
  k : Nat
  rd : World → (Nat → Prop) → α → List Value → Prop
  len : ∀ {w S x vs}, rd w S x vs → vs.length = k
  one : ∀ {w S x vs}, rd w S x vs → ∀ u ∈ vs, u.oneCell' = true
  keep : ∀ {w w' S x vs}, rd w S x vs → (∀ b, S b → b < w.heap.size → w'.heap[b]? = w.heap[b]?) → rd w' S x vs
  mono : ∀ {w S S' x vs}, rd w S x vs → (∀ b, b < w.heap.size → S b → S' b) → rd w S' x vs

/-- what needs no memory -/
def flat {α : Type} (k : Nat) (enc : α → List Value) (hk : ∀ x, (enc x).length = k) (h1 : ∀ x, ∀ u ∈ enc x, u.oneCell' = true) : Shape α where
  k := k
  rd _ _ x vs := vs = enc x
  len h := by rw [h]; exact hk _
  one h := by rw [h]; exact h1 _
  keep h _ := h
  mono h _ := h

/-- 'v' is a slice that reads as 'l'; it leads to blocks of S alone. -/
def Sl {α : Type} (T : Shape α) (w : World) (S : Nat → Prop) (v : Value) (l : List α) : Prop :=
  ∃ A c, v = .slice A l.length c ∧ l.length ≤ c ∧ c ≤ 9223372036854775807 ∧
   ∀ pre x post, l = pre ++ x :: post → ∃ b o vs, A = some ⟨b, o, none⟩ ∧ S b ∧ T.rd w S x vs ∧ ∀ j u, vs[j]? = some u → w.cell? ⟨b, o + pre.length * T.k + j, none⟩ = some u

section
variable {α : Type} {T : Shape α} {w w' : World} {S S' : Nat → Prop} {v : Value} {l : List α}

theorem Sl.keep (hk : 0 < T.k) (h : Sl T w S v l) (hs : ∀ b, S b → b < w.heap.size → w'.heap[b]? = w.heap[b]?) : Sl T w' S v l := by
  obtain ⟨A, c, hv, h1, h2, h3⟩ := h
  refine ⟨A, c, hv, h1, h2, fun pre x post hl => ?_⟩
  obtain ⟨b, o, vs, hA, hS, hr, hc⟩ := h3 pre x post hl
  have hlen := T.len hr
  have h0 := hc 0 (vs[0]'(by omega)) (List.getElem?_eq_getElem (by omega))
  have hb := blk_of_cell h0
  exact ⟨b, o, vs, hA, hS, T.keep hr hs, fun j u hj => (World.cell?_of_block (a := ⟨b, _, none⟩) (hs b hS hb)).trans (hc j u hj)⟩
theorem Sl.mono (hk : 0 < T.k) (h : Sl T w S v l) (hs : ∀ b, b < w.heap.size → S b → S' b) : Sl T w S' v l := by
  obtain ⟨A, c, hv, h1, h2, h3⟩ := h
  refine ⟨A, c, hv, h1, h2, fun pre x post hl => ?_⟩
  obtain ⟨b, o, vs, hA, hS, hr, hc⟩ := h3 pre x post hl
  have hlen := T.len hr
  have hb := blk_of_cell (hc 0 (vs[0]'(by omega)) (List.getElem?_eq_getElem (by omega)))
  exact ⟨b, o, vs, hA, hs b hb hS, T.mono hr hs, hc⟩
theorem Sl.ext (hk : 0 < T.k) (h : Sl T w S v l) (he : Ext w w') : Sl T w' S v l := h.keep hk fun b _ hb => he.block b hb
theorem Sl.one (h : Sl T w S v l) : v.oneCell' = true := by
  obtain ⟨A, c, rfl, -⟩ := h
  rfl
theorem Sl.form (h : Sl T w S v l) : ∃ A c, v = .slice A l.length c ∧ l.length ≤ c ∧ c ≤ 9223372036854775807 := by
  obtain ⟨A, c, h0, h1, h2, -⟩ := h
  exact ⟨A, c, h0, h1, h2⟩
theorem Sl.nil (A : Option Addr) (c : Nat) (hc : c ≤ 9223372036854775807) : Sl T w S (.slice A 0 c) [] :=
  ⟨A, c, rfl, Nat.zero_le _, hc, fun pre x post hl => by simp at hl⟩
theorem Sl.at_ (h : Sl T w S v l) {pre post : List α} {x : α} (hl : l = pre ++ x :: post) :
    ∃ b o vs c, v = .slice (some ⟨b, o, none⟩) l.length c ∧ S b ∧ T.rd w S x vs ∧ ∀ j u, vs[j]? = some u → w.cell? ⟨b, o + pre.length * T.k + j, none⟩ = some u := by
  obtain ⟨A, c, hv, h1, h2, h3⟩ := h
  obtain ⟨b, o, vs, rfl, hS, hr, hc⟩ := h3 pre x post hl
  exact ⟨b, o, vs, c, hv, hS, hr, hc⟩
end

/-- a slice as a value of one cell -/
def slT {α : Type} (T : Shape α) (hk : 0 < T.k) : Shape (List α) where
  k := 1
  rd w S l vs := ∃ v, vs = [v] ∧ Sl T w S v l
  len h := by obtain ⟨v, rfl, -⟩ := h; rfl
  one h := by
    obtain ⟨v, rfl, h⟩ := h
    intro u hu
    rw [List.mem_singleton.1 hu]
    exact h.one
  keep h hs := by obtain ⟨v, rfl, h⟩ := h; exact ⟨v, rfl, h.keep hk hs⟩
  mono h hs := by obtain ⟨v, rfl, h⟩ := h; exact ⟨v, rfl, h.mono hk hs⟩

/-! ### a row of the call's own -/
/-- the slice value 'v' of n elements (k cells each) is the call's own: what it points to is a block from base on, not frozen, whose first cells are xs; or it has no cell at all. -/
def Own (w : World) (base : Nat) (T k : Nat) (v : Value) (n : Nat) (xs : List Value) : Prop :=
  xs.length = n * k ∧ ((∃ A, v = .slice A 0 0 ∧ n = 0) ∨
   ∃ g cap cur, v = .slice (some ⟨g, 0, none⟩) n cap ∧ base ≤ g ∧ w.heap[g]? = some (.cells cur T (0, 0)) ∧ n ≤ cap ∧ cap ≤ 9223372036854775807 ∧ cur.size = cap * k ∧ cur.toList.take (n * k) = xs)

/-- its block -/
def ownBlk (v : Value) (b : Nat) : Prop := ∃ g n c, v = .slice (some ⟨g, 0, none⟩) n c ∧ 0 < c ∧ b = g

section
variable {w w' : World} {base T k n : Nat} {v : Value} {xs : List Value}
theorem Own.of_ownsRow (h : w.ownsRow base T k v n xs) : Own w base T k v n xs := by
  refine ⟨h.1, ?_⟩
  rcases h.2 with ⟨rfl, rfl⟩ | ⟨g, cap, cur, hv, hb, hg, hn, hm, hs, ht⟩
  · exact .inl ⟨_, rfl, rfl⟩
  · exact .inr ⟨g, cap, cur, hv, hb, hg, hn, by simpa [maxLen] using hm, hs, ht⟩
theorem Own.nil (w : World) (base T k : Nat) (A : Option Addr) : Own w base T k (.slice A 0 0) 0 [] := ⟨by simp, .inl ⟨A, rfl, rfl⟩⟩
theorem Own.form (h : Own w base T k v n xs) : ∃ A c, v = .slice A n c ∧ n ≤ c ∧ c ≤ 9223372036854775807 := by
  rcases h.2 with ⟨A, rfl, rfl⟩ | ⟨g, cap, cur, rfl, hb, hg, hn, hm, hs, ht⟩
  · exact ⟨A, 0, rfl, Nat.le_refl _, by omega⟩
  · exact ⟨_, cap, rfl, hn, hm⟩
theorem Own.pos (h : Own w base T k v n xs) (hn : 0 < n) : ∃ g cap cur, v = .slice (some ⟨g, 0, none⟩) n cap ∧ base ≤ g ∧ g < w.heap.size ∧ w.heap[g]? = some (.cells cur T (0, 0)) ∧ n ≤ cap ∧ cap ≤ 9223372036854775807 ∧ cur.size = cap * k ∧ cur.toList.take (n * k) = xs := by
  rcases h.2 with ⟨A, rfl, rfl⟩ | ⟨g, cap, cur, rfl, hb, hg, hn, hm, hs, ht⟩
  · omega
  · exact ⟨g, cap, cur, rfl, hb, (Array.getElem?_eq_some_iff.1 hg).1, hg, hn, hm, hs, ht⟩
theorem Own.keep (h : Own w base T k v n xs) (hs : ∀ b, ownBlk v b → b < w.heap.size → w'.heap[b]? = w.heap[b]?) : Own w' base T k v n xs := by
  refine ⟨h.1, ?_⟩
  rcases h.2 with h0 | ⟨g, cap, cur, rfl, hb, hg, hn, hm, hs', ht⟩
  · exact .inl h0
  · by_cases hc : cap = 0
    · subst hc
      exact .inl ⟨_, by rw [Nat.le_zero.1 hn], Nat.le_zero.1 hn⟩
    · exact .inr ⟨g, cap, cur, rfl, hb, (hs g ⟨g, n, cap, rfl, by omega, rfl⟩ (Array.getElem?_eq_some_iff.1 hg).1).trans hg, hn, hm, hs', ht⟩
theorem Own.ext (h : Own w base T k v n xs) (he : Ext w w') : Own w' base T k v n xs := h.keep fun b _ hb => he.block b hb
theorem Own.alloc (h : Own w base T k v n xs) (o : Obj) : Own (w.alloc o) base T k v n xs := h.ext ((Ext.refl w).alloc o)
theorem Own.base_le (h : Own w base T k v n xs) {b : Nat} (hb : ownBlk v b) : base ≤ b ∧ b < w.heap.size := by
  obtain ⟨g, n', c, hv, hc, rfl⟩ := hb
  rcases h.2 with ⟨A, rfl, -⟩ | ⟨g', cap, cur, rfl, hb, hg, -⟩
  · cases hv; omega
  · cases hv
    exact ⟨hb, (Array.getElem?_eq_some_iff.1 hg).1⟩
theorem Own.lower (h : Own w base T k v n xs) {base' : Nat} (hb : base' ≤ base) : Own w base' T k v n xs := by
  refine ⟨h.1, ?_⟩
  rcases h.2 with h0 | ⟨g, cap, cur, rfl, hb', rest⟩
  · exact .inl h0
  · exact .inr ⟨g, cap, cur, rfl, Nat.le_trans hb hb', rest⟩
/-- the cells -/
theorem Own.cell (h : Own w base T k v n xs) {g c : Nat} (hv : v = .slice (some ⟨g, 0, none⟩) n c) {j : Nat} {u : Value} (hj : xs[j]? = some u) : w.cell? ⟨g, j, none⟩ = some u := by
  have hjl : j < xs.length := (List.getElem?_eq_some_iff.1 hj).1
  rw [h.1] at hjl
  have hn : 0 < n := by
    rcases Nat.eq_zero_or_pos n with h0 | h0
    · subst h0; simp at hjl
    · exact h0
  obtain ⟨g', cap, cur, rfl, -, -, hg, -, -, -, ht⟩ := h.pos hn
  cases hv
  rw [cell_of_row w g j cur T (0, 0) hg]
  rw [← ht, List.getElem?_take] at hj
  split at hj
  · simpa using hj
  · omega
end

/-- blocks that are neither new nor the row's own stay -/
theorem grownBy_keep {w w' : World} {row : Option Nat} (h : w.grownBy w' row) {b : Nat} (hb : b < w.heap.size) (hr : row ≠ some b) : w'.heap[b]? = w.heap[b]? := h.block b hb (fun e => hr e.symm)

/-! ### append -/
/-- a source of m elements: what is read of it -/
def Src (w : World) (k : Nat) (A : Option Addr) (m : Nat) (news : List Value) : Prop :=
  news.length = m * k ∧ (∀ u ∈ news, u.oneCell' = true) ∧ (0 < m → ∃ b o, A = some ⟨b, o, none⟩ ∧ ∀ j u, news[j]? = some u → w.cell? ⟨b, o + j, none⟩ = some u)

theorem add_none (b o j : Nat) : (⟨b, o, none⟩ : Addr).add j = ⟨b, o + j, none⟩ := by
  unfold Addr.add
  split
  · rename_i h; subst h; rfl
  · rfl

section
variable {P : Program} (w : World)
theorem run_append_none (t ty e : TypeId) (i : TypeInfo) (ht : P.underlying t = some (.slice e)) (hi : P.info? e = some i)
    (B A : Option Addr) (n cap c : Nat) (hn : n ≤ cap) : (Builtin.append_ #[t, t] ty #[.slice B n cap, .slice A 0 c]).run P w = .ok (.slice B n cap) w := by
  have hf : (Builtin.firstCells i.size 0 (.slice A 0 c)).run P w = .ok #[] w := by
    cases A <;> simp [Builtin.firstCells, loadCells, loadCellsFrom]
  cases B <;> simp [Builtin.append_, run_underlying ht, sizeOf, typeInfo, hi, Builtin.lenOf, hn, hf, storeCells]

theorem run_append_Own (base : Nat) (t ty e : TypeId) (i : TypeInfo) (z : Value) (size bytes : Nat) (ht : P.underlying t = some (.slice e)) (hi : P.info? e = some i) (hz : i.zero = some z)
    (hsize : i.size = size) (hby : i.bytes = bytes) (hzs : z.cells.size = size) (hsz : 0 < size)
    (v : Value) (n : Nat) (xs : List Value) (hown : Own w base e size v n xs)
    (A : Option Addr) (m c : Nat) (news : List Value) (hsrc : Src w size A m news)
    (hbytes : (n + m) * bytes ≤ 140737488355328) (h63 : n + m ≤ 9223372036854775807) (hbase : base ≤ w.heap.size) :
    ∃ v' w', (Builtin.append_ #[t, t] ty #[v, .slice A m c]).run P w = .ok v' w' ∧ Own w' base e size v' (n + m) (xs ++ news) ∧
      w'.os = w.os ∧ w'.tape = w.tape ∧ w'.output = w.output ∧ w.heap.size ≤ w'.heap.size ∧ (∀ b, b < w.heap.size → ¬ ownBlk v b → w'.heap[b]? = w.heap[b]?) ∧
      (∀ b, ownBlk v' b → ownBlk v b ∨ b = w.heap.size) := by
  rcases Nat.eq_zero_or_pos m with hm | hm
  · subst hm
    have hn : news = [] := List.eq_nil_of_length_eq_zero (by simpa using hsrc.1)
    subst hn
    obtain ⟨B, cap, rfl, hnc, _⟩ := hown.form
    refine ⟨_, w, run_append_none (P := P) w t ty e i ht hi B A n cap c hnc, by simpa using hown, rfl, rfl, rfl, Nat.le_refl _, fun _ _ _ => rfl, fun b hb => .inl hb⟩
  · obtain ⟨b, o, rfl, hcells⟩ := hsrc.2.2 hm
    have hc' : ∀ j u, news[j]? = some u → w.cell? ((⟨b, o, none⟩ : Addr).add j) = some u := fun j u hj => by rw [add_none]; exact hcells j u hj
    rcases hown.2 with ⟨B, rfl, rfl⟩ | ⟨g, cap, cur, rfl, hb, hg, hn, hcm, hs, htk⟩
    · have hx : xs = [] := List.eq_nil_of_length_eq_zero (by simpa using hown.1)
      subst hx
      subst hsize
      subst hby
      have hgr : ∀ (w2 : World), w2 = w.drew.alloc (.cells (news.toArray ++ Builtin.zeroCells z.cells (grownCap w m 0 e - m)) e) →
          Own w2 base e i.size (.slice (some ⟨w.heap.size, 0, none⟩) m (grownCap w m 0 e)) m news := by
        rintro w2 rfl
        have hge := grownCap_ge w m 0 e
        have hcm := grownCap_le_maxLen w m 0 e (by simp only [maxLen]; omega)
        refine ⟨hsrc.1, .inr ⟨w.heap.size, _, _, rfl, hbase, heap_alloc_new w.drew _, hge, by simpa [maxLen] using hcm, ?_, ?_⟩⟩
        · simp only [Array.size_append, List.size_toArray, size_zeroCells, hzs, hsrc.1, ← Nat.add_mul]
          congr 1
          omega
        · simp only [Array.toList_append]
          rw [← hsrc.1]
          exact List.take_left
      refine ⟨.slice (some ⟨w.heap.size, 0, none⟩) m (grownCap w m 0 e), w.drew.alloc (.cells (news.toArray ++ Builtin.zeroCells z.cells (grownCap w m 0 e - m)) e), ?_, ?_, rfl, rfl, rfl, by simp, ?_, ?_⟩
      · cases B with
        | none => exact run_append_nil (P := P) w t ty e i z ht hi hz ⟨b, o, none⟩ m c news hsrc.1 hc' hm (by omega) (by have := hbytes; rw [Nat.zero_add] at this; omega)
        | some B =>
          have := run_append_grow (P := P) w t ty e i z ht hi hz B 0 0 [] (by simp) (by simp) ⟨b, o, none⟩ m c news hsrc.1 hc' (by omega) (by omega) (growslice_fits (by omega) (by simpa using hbytes))
          simpa using this
      · simpa using hgr _ rfl
      · intro k hk _; exact Go.heap_alloc_old w.drew _ hk
      · rintro k ⟨g, n', c', he, _, rfl⟩
        cases he
        exact .inr rfl
    · have ho : w.ownsRow base e size (.slice (some ⟨g, 0, none⟩) n cap) n xs := ⟨hown.1, .inr ⟨g, cap, cur, rfl, hb, hg, hn, by simp only [maxLen]; omega, hs, htk⟩⟩
      by_cases hroom : n + m ≤ cap
      · subst hsize
        have hfit : n * i.size + news.length ≤ cur.size := by rw [hsrc.1, hs, ← Nat.add_mul]; exact Nat.mul_le_mul_right _ hroom
        have hr := run_append_room (P := P) w t ty e i ht hi g n cap cur hg ⟨b, o, none⟩ m c news hsrc.1 hc' hsrc.2.1 hroom hfit
        have hlen : (xs ++ news).length = (n + m) * i.size := by rw [List.length_append, hown.1, hsrc.1, Nat.add_mul]
        refine ⟨_, _, hr, ⟨hlen, .inr ⟨g, cap, _, rfl, hb, setRow_heap w g cur _ e _ hg, hroom, hcm, ?_, ?_⟩⟩, rfl, rfl, rfl, by simp [World.setRow], ?_, ?_⟩
        · simp only [List.size_toArray, List.length_append, List.length_take, List.length_drop, Array.length_toList]
          omega
        · rw [htk, ← hlen]
          exact List.take_left
        · intro k hk hne
          exact setRow_other w g k _ (fun e => hne ⟨g, n, cap, rfl, by omega, e⟩)
        · rintro k ⟨g', n', c', he, hc', rfl⟩
          cases he
          exact .inl ⟨_, _, _, rfl, hc', rfl⟩
      · subst hsize
        subst hby
        have holds : ∀ j u, xs[j]? = some u → w.cell? ((⟨g, 0, none⟩ : Addr).add j) = some u := ho.cells (g := g) rfl
        have hr := run_append_grow (P := P) w t ty e i z ht hi hz ⟨g, 0, none⟩ n cap xs hown.1 holds ⟨b, o, none⟩ m c news hsrc.1 hc' (by omega) (by omega) (growslice_fits (by omega) hbytes)
        have hge := grownCap_ge w (n + m) cap e
        have hcm' := grownCap_le_maxLen w (n + m) cap e (by simp only [maxLen]; omega)
        have hlen : (xs ++ news).length = (n + m) * i.size := by rw [List.length_append, hown.1, hsrc.1, Nat.add_mul]
        refine ⟨_, _, hr, ⟨hlen, .inr ⟨w.heap.size, _, _, rfl, hbase, heap_alloc_new w.drew _, hge, by simpa [maxLen] using hcm', ?_, ?_⟩⟩, rfl, rfl, rfl, by simp, ?_, ?_⟩
        · simp only [Array.size_append, List.size_toArray, size_zeroCells, hzs, hown.1, hsrc.1, ← Nat.add_mul]
          congr 1
          omega
        · simp only [Array.toList_append, List.append_assoc]
          rw [← List.append_assoc, ← hlen]
          exact List.take_left
        · intro k hk _; exact Go.heap_alloc_old w.drew _ hk
        · rintro k ⟨g', n', c', he, hc', rfl⟩
          cases he
          exact .inr rfl
end

/-- what an append has done beside its value -/
structure Grew (w w' : World) (v v' : Value) : Prop where
  os : w'.os = w.os
  tape : w'.tape = w.tape
  output : w'.output = w.output
  size : w.heap.size ≤ w'.heap.size
  same : ∀ b, b < w.heap.size → ¬ ownBlk v b → w'.heap[b]? = w.heap[b]?
  blk : ∀ b, ownBlk v' b → ownBlk v b ∨ b = w.heap.size

theorem Ext.grew {w0 w w' : World} {v v' : Value} (h : Ext w0 w) (hg : Grew w w' v v') (hb : ∀ b, ownBlk v b → w0.heap.size ≤ b) : Ext w0 w' :=
  ⟨hg.os.trans h.os, hg.tape.trans h.tape, hg.output.trans h.output, Nat.le_trans h.size hg.size, fun k hk =>
    (hg.same k (Nat.lt_of_lt_of_le hk h.size) (fun he => by have := hb k he; omega)).trans (h.block k hk)⟩
theorem Ext.grewOwn {w0 w w' : World} {v v' : Value} {base T k n : Nat} {xs : List Value} (h : Ext w0 w) (hg : Grew w w' v v') (ho : Own w base T k v n xs) (hb : w0.heap.size ≤ base) : Ext w0 w' :=
  h.grew hg fun _ hb' => Nat.le_trans hb (ho.base_le hb').1

theorem wpList_append_Own {P : Program} {w : World} {ops : Array Oper} {rest : List Oper} {o : Oper} {a : Act} {Q : Exit → Act → World → Prop} (hgd : o.guard = none) (s x : Operand) (t : TypeId)
    (ho : o.op = .call { callee := .builtin .append, args := #[s, x], argTypes := #[t, t] })
    (base e size bytes : Nat) (z : Value) (ht : P.underlying t = some (.slice e)) (hinfo : (P.info? e).map (fun i => (i.zero, i.size, i.bytes)) = some (some z, size, bytes)) (hzs : z.cells.size = size) (hsz : 0 < size)
    (v : Value) (n : Nat) (xs : List Value) (hs : a.eval s = v) (hown : Own w base e size v n xs)
    (A : Option Addr) (m c : Nat) (news : List Value) (hx : a.eval x = .slice A m c) (hsrc : Src w size A m news)
    (hbytes : (n + m) * bytes ≤ 140737488355328) (h63 : n + m ≤ 9223372036854775807) (hbase : base ≤ w.heap.size)
    (h : ∀ v' w', Own w' base e size v' (n + m) (xs ++ news) → Grew w w' v v' → wpList P ops Q rest (a.put o.dst v') w') : wpList P ops Q (o :: rest) a w := by
  obtain ⟨i, hi, hz, hsize, hby⟩ := info_parts hinfo
  obtain ⟨v', w', hr, h2, g1, g2, g3, g4, g5, g6⟩ := run_append_Own (P := P) w base t o.type e i z size bytes ht hi hz hsize hby hzs hsz v n xs hown A m c news hsrc hbytes h63 hbase
  refine wpList_plain hgd fun K hK => ?_
  unfold Oper.wp execOp
  simp only [ho, resolve, invoke, builtin, Sem.run_bind, Sem.run_pure, Result.andThen_ok, List.map_toArray, List.map_cons, List.map_nil, hs, hx, hr]
  exact hK _ _ (h v' w' h2 ⟨g1, g2, g3, g4, g5, g6⟩)

/-- one element, just laid into a block of its own -/
theorem Src.one {w : World} {k b : Nat} {T : TypeId} {vs : List Value} (hb : w.heap[b]? = some (.cells vs.toArray T (0, 0))) (hk : vs.length = k) (h1 : ∀ u ∈ vs, u.oneCell' = true) : Src w k (some ⟨b, 0, none⟩) 1 vs :=
  ⟨by omega, h1, fun _ => ⟨b, 0, rfl, fun j u hj => by rw [cell_of_row w b (0 + j) vs.toArray T (0, 0) hb]; simpa using hj⟩⟩
theorem Src.new {w : World} {k : Nat} {T : TypeId} {vs : List Value} (hk : vs.length = k) (h1 : ∀ u ∈ vs, u.oneCell' = true) : Src (w.alloc (.cells vs.toArray T)) k (some ⟨w.heap.size, 0, none⟩) 1 vs :=
  Src.one (Go.heap_alloc_new w _) hk h1

/-! ### a row of the call's own that reads as a list -/
def OwnL {α : Type} (T : Shape α) (tid : Nat) (w : World) (base : Nat) (S : Nat → Prop) (v : Value) (l : List α) : Prop :=
  ∃ vss : List (List Value), vss.length = l.length ∧ (∀ (i : Nat) x vs, l[i]? = some x → vss[i]? = some vs → T.rd w S x vs) ∧ Own w base tid T.k v l.length vss.flatten

theorem flatten_at {α : Type} {k : Nat} : ∀ (vss : List (List α)) (i j : Nat) (vs : List α) (u : α), (∀ x ∈ vss, x.length = k) → vss[i]? = some vs → vs[j]? = some u → vss.flatten[i * k + j]? = some u
  | [], i, j, vs, u, _, hi, _ => by simp at hi
  | a :: r, 0, j, vs, u, hk, hi, hj => by
    simp at hi
    subst hi
    have hjl := (List.getElem?_eq_some_iff.1 hj).1
    rw [List.flatten_cons, Nat.zero_mul, Nat.zero_add, List.getElem?_append_left hjl]
    exact hj
  | a :: r, i + 1, j, vs, u, hk, hi, hj => by
    have ha : a.length = k := hk a (by simp)
    rw [List.flatten_cons, List.getElem?_append_right (by rw [ha, Nat.add_mul]; omega), ha, show (i + 1) * k + j - k = i * k + j by rw [Nat.add_mul]; omega]
    exact flatten_at r i j vs u (fun x hx => hk x (by simp [hx])) (by simpa using hi) hj

section
variable {α : Type} {T : Shape α} {tid : Nat} {w w' : World} {base : Nat} {S S' : Nat → Prop} {v : Value} {l : List α}
theorem OwnL.nil (w : World) (A : Option Addr) : OwnL T tid w base S (.slice A 0 0) [] := ⟨[], rfl, by simp, Own.nil w base tid T.k A⟩
theorem OwnL.own (h : OwnL T tid w base S v l) : ∃ xs, Own w base tid T.k v l.length xs := by obtain ⟨vss, _, _, h⟩ := h; exact ⟨_, h⟩
theorem OwnL.form (h : OwnL T tid w base S v l) : ∃ A c, v = .slice A l.length c ∧ l.length ≤ c ∧ c ≤ 9223372036854775807 := by obtain ⟨_, h⟩ := h.own; exact h.form
theorem OwnL.keep (h : OwnL T tid w base S v l) (hs : ∀ b, S b → b < w.heap.size → w'.heap[b]? = w.heap[b]?) (ho : ∀ b, ownBlk v b → b < w.heap.size → w'.heap[b]? = w.heap[b]?) : OwnL T tid w' base S v l := by
  obtain ⟨vss, h1, h2, h3⟩ := h
  exact ⟨vss, h1, fun i x vs hi hv => T.keep (h2 i x vs hi hv) hs, h3.keep ho⟩
theorem OwnL.ext (h : OwnL T tid w base S v l) (he : Ext w w') : OwnL T tid w' base S v l := h.keep (fun b _ hb => he.block b hb) (fun b _ hb => he.block b hb)
theorem OwnL.mono (h : OwnL T tid w base S v l) (hs : ∀ b, b < w.heap.size → S b → S' b) : OwnL T tid w base S' v l := by
  obtain ⟨vss, h1, h2, h3⟩ := h
  exact ⟨vss, h1, fun i x vs hi hv => T.mono (h2 i x vs hi hv) hs, h3⟩
theorem OwnL.lower (h : OwnL T tid w base S v l) {base' : Nat} (hb : base' ≤ base) : OwnL T tid w base' S v l := by
  obtain ⟨vss, h1, h2, h3⟩ := h
  exact ⟨vss, h1, h2, h3.lower hb⟩
theorem OwnL.base_le (h : OwnL T tid w base S v l) {b : Nat} (hb : ownBlk v b) : base ≤ b ∧ b < w.heap.size := by
  obtain ⟨_, h⟩ := h.own
  exact h.base_le hb
/-- read as any slice is read -/
theorem OwnL.sl (h : OwnL T tid w base S v l) (hk : 0 < T.k) (hs : ∀ b, b < w.heap.size → S b → S' b) (ho : ∀ b, base ≤ b → b < w.heap.size → S' b) : Sl T w S' v l := by
  obtain ⟨vss, h1, h2, h3⟩ := h
  obtain ⟨A, c, rfl, hc1, hc2⟩ := h3.form
  refine ⟨A, c, rfl, hc1, hc2, fun pre x post hl => ?_⟩
  have hlen : pre.length < l.length := by rw [hl]; simp
  have hx : l[pre.length]? = some x := by rw [hl]; simp
  have hv : vss[pre.length]? = some (vss[pre.length]'(by omega)) := List.getElem?_eq_getElem (by omega)
  have hr := h2 _ _ _ hx hv
  obtain ⟨g, cap, cur, hv', hb, hg, -⟩ := h3.pos (by omega)
  injection hv' with e1 e2 e3
  subst e1
  refine ⟨g, 0, _, rfl, ho g hb hg, T.mono hr hs, fun j u hj => ?_⟩
  rw [Nat.zero_add]
  refine h3.cell (g := g) (c := c) rfl (flatten_at vss _ j _ u ?_ hv hj)
  intro y hy
  obtain ⟨i, hi⟩ := List.getElem?_of_mem hy
  have hi' : i < l.length := by rw [← h1]; exact (List.getElem?_eq_some_iff.1 hi).1
  exact T.len (h2 i _ y (List.getElem?_eq_getElem hi') hi)
/-- behind an append of one element -/
theorem OwnL.snoc {vss : List (List Value)} {v' : Value} {x : α} {vs : List Value} (h1 : vss.length = l.length) (h2 : ∀ (i : Nat) x vs, l[i]? = some x → vss[i]? = some vs → T.rd w S x vs)
    (hx : T.rd w S x vs) (h3 : Own w base tid T.k v' (l.length + 1) (vss.flatten ++ vs)) : OwnL T tid w base S v' (l ++ [x]) := by
  refine ⟨vss ++ [vs], by simp [h1], fun i y ys hi hv => ?_, by simpa using h3⟩
  by_cases hil : i < l.length
  · rw [List.getElem?_append_left hil] at hi
    rw [List.getElem?_append_left (by omega)] at hv
    exact h2 i y ys hi hv
  · rw [List.getElem?_append_right (by omega)] at hi
    rw [List.getElem?_append_right (by omega)] at hv
    have hi0 : i - l.length = 0 := by
      have := (List.getElem?_eq_some_iff.1 hi).1
      simp at this
      exact this
    rw [hi0] at hi
    rw [h1, hi0] at hv
    simp at hi hv
    subst hi; subst hv
    exact hx
end

/-! ### flat elements: no world, no blocks -/
section
variable {α : Type} {k : Nat} {enc : α → List Value} {hk : ∀ x, (enc x).length = k} {h1 : ∀ x, ∀ u ∈ enc x, u.oneCell' = true} {tid : Nat} {w w' : World} {base : Nat} {S S' : Nat → Prop} {v : Value} {l : List α}
theorem OwnL.flat_iff : OwnL (flat k enc hk h1) tid w base S v l ↔ Own w base tid k v l.length (l.flatMap enc) := by
  constructor
  · rintro ⟨vss, e1, e2, e3⟩
    have : vss = l.map enc := by
      apply List.ext_getElem?
      intro i
      by_cases hi : i < l.length
      · rw [List.getElem?_map, List.getElem?_eq_getElem hi, List.getElem?_eq_getElem (by omega : i < vss.length)]
        simp only [Option.map_some]
        exact congrArg some (e2 i _ _ (List.getElem?_eq_getElem hi) (List.getElem?_eq_getElem (by omega)))
      · rw [List.getElem?_eq_none (by omega), List.getElem?_eq_none (by simp; omega)]
    subst this
    rw [List.flatMap_def]
    exact e3
  · intro h
    refine ⟨l.map enc, by simp, fun i x vs hi hv => ?_, by rw [← List.flatMap_def]; exact h⟩
    rw [List.getElem?_map, hi] at hv
    simp at hv
    exact hv.symm
end
/-! ### a slice as a source -/
theorem Sl.src {α : Type} {T : Shape α} {w : World} {S : Nat → Prop} {A : Option Addr} {n c : Nat} {l : List α} (h : Sl T w S (.slice A n c) l) :
    ∃ vss : List (List Value), vss.length = l.length ∧ (∀ (i : Nat) x vs, l[i]? = some x → vss[i]? = some vs → T.rd w S x vs) ∧ Src w T.k A l.length vss.flatten := by
  have key : ∀ m, m ≤ l.length → ∃ vss : List (List Value), vss.length = m ∧ (∀ (i : Nat) x vs, i < m → l[i]? = some x → vss[i]? = some vs → T.rd w S x vs) ∧ vss.flatten.length = m * T.k ∧ (∀ u ∈ vss.flatten, u.oneCell' = true) ∧
      (0 < m → ∃ b o, A = some ⟨b, o, none⟩ ∧ ∀ j u, vss.flatten[j]? = some u → w.cell? ⟨b, o + j, none⟩ = some u) := by
    intro m
    induction m with
    | zero => exact fun _ => ⟨[], rfl, by omega, by simp, by simp, by omega⟩
    | succ m ih =>
      intro hm
      obtain ⟨vss, h1, h2, h3, h4, h5⟩ := ih (by omega)
      have hsplit : l = l.take m ++ l[m]'(by omega) :: l.drop (m + 1) := by
        rw [List.getElem_cons_drop, List.take_append_drop]
      obtain ⟨b, o, vs, c', hv, hS, hr, hc⟩ := h.at_ hsplit
      injection hv with e1 e2 e3
      subst e1
      have hlm : (l.take m).length = m := by simp; omega
      rw [hlm] at hc
      refine ⟨vss ++ [vs], by simp [h1], fun i x ys hi hx hy => ?_, by simp [h3, T.len hr, Nat.add_mul], fun u hu => ?_, fun _ => ⟨b, o, rfl, fun j u hj => ?_⟩⟩
      · by_cases him : i < m
        · rw [List.getElem?_append_left (by omega)] at hy
          exact h2 i x ys him hx hy
        · have : i = m := by omega
          subst this
          rw [List.getElem?_append_right (by omega), h1] at hy
          simp at hy
          subst hy
          rw [List.getElem?_eq_getElem (by omega)] at hx
          cases hx
          exact hr
      · simp at hu
        rcases hu with ⟨y, hy, hu⟩ | hu
        · exact h4 u (by simp; exact ⟨y, hy, hu⟩)
        · exact T.one hr u hu
      · rw [List.flatten_append] at hj
        by_cases hjl : j < m * T.k
        · rw [List.getElem?_append_left (by omega)] at hj
          have hm0 : 0 < m := by
            rcases Nat.eq_zero_or_pos m with h0 | h0
            · subst h0; simp at hjl
            · exact h0
          obtain ⟨b', o', e, hc'⟩ := h5 hm0
          cases e
          exact hc' j u hj
        · rw [List.getElem?_append_right (by omega), h3] at hj
          have := hc (j - m * T.k) u (by simpa using hj)
          rwa [show o + m * T.k + (j - m * T.k) = o + j by omega] at this
  obtain ⟨vss, h1, h2, h3, h4, h5⟩ := key l.length (Nat.le_refl _)
  exact ⟨vss, h1, fun i x vs hx => h2 i x vs (List.getElem?_eq_some_iff.1 hx).1 hx, h3, h4, h5⟩

theorem Src.keep2 {w w' : World} {k m : Nat} {A : Option Addr} {news : List Value} (h : Src w k A m news) (hb : ∀ b, b < w.heap.size → w'.heap[b]? = w.heap[b]?) : Src w' k A m news :=
  ⟨h.1, h.2.1, fun hm => by
    obtain ⟨b, o, rfl, hc⟩ := h.2.2 hm
    exact ⟨b, o, rfl, fun j u hj => (World.cell?_of_block (a := ⟨b, o + j, none⟩) (hb b (blk_of_cell (hc j u hj)))).trans (hc j u hj)⟩⟩
theorem Src.ext {w w' : World} {k m : Nat} {A : Option Addr} {news : List Value} (h : Src w k A m news) (he : Ext w w') : Src w' k A m news := h.keep2 fun b hb => he.block b hb

end Go.Proofs.YtdikcgmdmcfpfaaGreat
namespace Go.Proofs.YtdikcgmdmcfpfaaGreat

/-- 'a < b' of strings -/
abbrev ltS (a b : Str) : Bool := Op.bytesLess a b
def leS (a b : Str) : Bool := Op.bytesLess a b || a == b

theorem ltS_irrefl : ∀ a : Str, ltS a a = false
  | [] => rfl
  | a :: r => by simp [ltS, Op.bytesLess]; exact ltS_irrefl r
theorem ltS_trans : ∀ {a b c : Str}, ltS a b = true → ltS b c = true → ltS a c = true
  | _, [], _, h, _ => by simp [ltS, Op.bytesLess] at h
  | _, _ :: _, [], _, h => by simp [ltS, Op.bytesLess] at h
  | [], _ :: _, _ :: _, _, _ => rfl
  | a :: x, b :: y, c :: z, h1, h2 => by
    simp only [ltS, Op.bytesLess, Bool.or_eq_true, decide_eq_true_eq, Bool.and_eq_true, beq_iff_eq] at h1 h2 ⊢
    rcases h1 with h1 | ⟨rfl, h1⟩ <;> rcases h2 with h2 | ⟨rfl, h2⟩
    · exact .inl (UInt8.lt_trans h1 h2)
    · exact .inl h1
    · exact .inl h2
    · exact .inr ⟨rfl, ltS_trans h1 h2⟩
theorem u8_tri (a b : UInt8) : a < b ∨ a = b ∨ b < a := by
  rcases Nat.lt_trichotomy a.toNat b.toNat with h | h | h
  · exact .inl (UInt8.lt_iff_toNat_lt.2 h)
  · exact .inr (.inl (UInt8.toNat_inj.1 h))
  · exact .inr (.inr (UInt8.lt_iff_toNat_lt.2 h))
theorem ltS_tri : ∀ a b : Str, ltS a b = true ∨ a = b ∨ ltS b a = true
  | [], [] => .inr (.inl rfl)
  | [], _ :: _ => .inl rfl
  | _ :: _, [] => .inr (.inr rfl)
  | a :: x, b :: y => by
    simp only [ltS, Op.bytesLess, Bool.or_eq_true, decide_eq_true_eq, Bool.and_eq_true, beq_iff_eq]
    rcases u8_tri a b with h | rfl | h
    · exact .inl (.inl h)
    · rcases ltS_tri x y with h | rfl | h
      · exact .inl (.inr ⟨rfl, h⟩)
      · exact .inr (.inl rfl)
      · exact .inr (.inr (.inr ⟨rfl, h⟩))
    · exact .inr (.inr (.inl h))
theorem ltS_asymm {a b : Str} (h : ltS a b = true) : ltS b a = false := by
  cases h' : ltS b a with
  | false => rfl
  | true => have := ltS_trans h h'; rw [ltS_irrefl] at this; cases this
theorem ltS_ne {a b : Str} (h : ltS a b = true) : a ≠ b := by rintro rfl; rw [ltS_irrefl] at h; cases h
theorem ltS_nil (a : Str) : ltS a [] = false := by cases a <;> rfl
theorem nil_ltS {a : Str} (h : a ≠ []) : ltS [] a = true := by cases a with | nil => exact absurd rfl h | cons x r => rfl
/-- the three ways of two strings, with all that a walk asks of each -/
theorem str_cases (a b : Str) : (ltS a b = true ∧ ltS b a = false ∧ (a == b) = false ∧ (b == a) = false ∧ a ≠ b) ∨ (a = b) ∨ (ltS a b = false ∧ ltS b a = true ∧ (a == b) = false ∧ (b == a) = false ∧ a ≠ b) := by
  rcases ltS_tri a b with h | h | h
  · have hn := ltS_ne h
    exact .inl ⟨h, ltS_asymm h, by simpa using hn, by simpa using hn.symm, hn⟩
  · exact .inr (.inl h)
  · have hn := (ltS_ne h).symm
    exact .inr (.inr ⟨ltS_asymm h, h, by simpa using hn, by simpa using hn.symm, hn⟩)

/-- strings.Compare -/
def cmpS (a b : Str) : Int := if ltS a b then -1 else if a == b then 0 else 1
def cmpN (a b : Nat) : Int := if a < b then -1 else if b < a then 1 else 0

/-! ### vectors -/
abbrev Mark := Str × Nat
/-- up to which number by's events are known -/
def ofM (l : List Mark) (s : Str) : Nat := l.foldl (fun n m => if m.1 == s && !s.isEmpty then max n m.2 else n) 0
def hasM (l : List Mark) (d : Mark) : Bool := decide (1 ≤ d.2) && decide (d.2 ≤ ofM l d.1)
def mayFrom : Str → List Mark → Bool
  | _, [] => true
  | last, m :: r => !leS m.1 last && decide (1 ≤ m.2) && decide (m.2 ≤ 281474976710656) && mayFrom m.1 r
def mayM (l : List Mark) : Bool := decide (l.length ≤ 512) && mayFrom [] l
end Go.Proofs.YtdikcgmdmcfpfaaGreat
namespace Go.Proofs.YtdikcgmdmcfpfaaGreat
open Go.RowKit


abbrev Dot := Str × Nat
abbrev Count := Str × Nat × Nat
abbrev Cell := Nat × Str × Bool
abbrev Item := Str × List Dot
abbrev Place := Str × Dot

def markC (m : Mark) : List Value := [St m.1, U m.2]
def countC (m : Count) : List Value := [St m.1, U m.2.1, U m.2.2]
def strC (s : Str) : List Value := [St s]
def cellC (c : Cell) : List Value := [U c.1, St c.2.1, .bool c.2.2]

abbrev markT : Shape Mark := flat 2 markC (fun _ => rfl) (fun _ u hu => by simp [markC] at hu; rcases hu with rfl | rfl <;> rfl)
abbrev countT : Shape Count := flat 3 countC (fun _ => rfl) (fun _ u hu => by simp [countC] at hu; rcases hu with rfl | rfl | rfl <;> rfl)
abbrev strT : Shape Str := flat 1 strC (fun _ => rfl) (fun _ u hu => by simp [strC] at hu; rcases hu with rfl; rfl)

/-- an item: its text, and its dots -/
def itemT : Shape Item where
  k := 2
  rd w S x vs := ∃ v, vs = [St x.1, v] ∧ Sl markT w S v x.2
  len h := by obtain ⟨v, rfl, -⟩ := h; rfl
  one h := by
    obtain ⟨v, rfl, h⟩ := h
    intro u hu
    simp at hu
    rcases hu with rfl | rfl
    · rfl
    · exact h.one
  keep h hs := by obtain ⟨v, rfl, h⟩ := h; exact ⟨v, rfl, h.keep (by decide) hs⟩
  mono h hs := by obtain ⟨v, rfl, h⟩ := h; exact ⟨v, rfl, h.mono (by decide) hs⟩

structure Entry where
  key : Str
  seen : List Mark
  counts : List Count
  items : List Item
  cell : Cell

/-- an entry: seven cells -/
def entryT : Shape Entry where
  k := 7
  rd w S x vs := ∃ v1 v2 v3, vs = [St x.key, v1, v2, v3, U x.cell.1, St x.cell.2.1, .bool x.cell.2.2] ∧ Sl markT w S v1 x.seen ∧ Sl countT w S v2 x.counts ∧ Sl itemT w S v3 x.items
  len h := by obtain ⟨_, _, _, rfl, -⟩ := h; rfl
  one h := by
    obtain ⟨_, _, _, rfl, h1, h2, h3⟩ := h
    intro u hu
    simp at hu
    rcases hu with rfl | rfl | rfl | rfl | rfl | rfl | rfl
    · rfl
    · exact h1.one
    · exact h2.one
    · exact h3.one
    · rfl
    · rfl
    · rfl
  keep h hs := by
    obtain ⟨v1, v2, v3, rfl, h1, h2, h3⟩ := h
    exact ⟨v1, v2, v3, rfl, h1.keep (by decide) hs, h2.keep (by decide) hs, h3.keep (by decide) hs⟩
  mono h hs := by
    obtain ⟨v1, v2, v3, rfl, h1, h2, h3⟩ := h
    exact ⟨v1, v2, v3, rfl, h1.mono (by decide) hs, h2.mono (by decide) hs, h3.mono (by decide) hs⟩

structure State where
  all : List Mark
  entries : List Entry
  pruned : List Str

/-- a state: three slices -/
def stateT : Shape State where
  k := 3
  rd w S x vs := ∃ v1 v2 v3, vs = [v1, v2, v3] ∧ Sl markT w S v1 x.all ∧ Sl entryT w S v2 x.entries ∧ Sl strT w S v3 x.pruned
  len h := by obtain ⟨_, _, _, rfl, -⟩ := h; rfl
  one h := by
    obtain ⟨_, _, _, rfl, h1, h2, h3⟩ := h
    intro u hu
    simp at hu
    rcases hu with rfl | rfl | rfl
    · exact h1.one
    · exact h2.one
    · exact h3.one
  keep h hs := by
    obtain ⟨v1, v2, v3, rfl, h1, h2, h3⟩ := h
    exact ⟨v1, v2, v3, rfl, h1.keep (by decide) hs, h2.keep (by decide) hs, h3.keep (by decide) hs⟩
  mono h hs := by
    obtain ⟨v1, v2, v3, rfl, h1, h2, h3⟩ := h
    exact ⟨v1, v2, v3, rfl, h1.mono (by decide) hs, h2.mono (by decide) hs, h3.mono (by decide) hs⟩

theorem info_mark : (Tryz.prog.info? 25).map (fun i => (i.zero, i.size, i.bytes)) = some (some (.agg #[St [], U 0]), 2, 24) := by kernel_rfl
theorem info_dot : (Tryz.prog.info? 97).map (fun i => (i.zero, i.size, i.bytes)) = some (some (.agg #[St [], U 0]), 2, 24) := by kernel_rfl
theorem info_count : (Tryz.prog.info? 93).map (fun i => (i.zero, i.size, i.bytes)) = some (some (.agg #[St [], U 0, U 0]), 3, 32) := by kernel_rfl
theorem info_item : (Tryz.prog.info? 96).map (fun i => (i.zero, i.size, i.bytes)) = some (some (.agg #[St [], .slice none 0 0]), 2, 40) := by kernel_rfl
theorem info_str : (Tryz.prog.info? 9).map (fun i => (i.zero, i.size, i.bytes)) = some (some (St []), 1, 16) := by kernel_rfl
theorem info_int : (Tryz.prog.info? 3).map (fun i => (i.zero, i.size, i.bytes)) = some (some (I 0), 1, 8) := by kernel_rfl
theorem info_entry : (Tryz.prog.info? 37).map (fun i => (i.zero, i.size, i.bytes)) = some (some (.agg #[St [], .slice none 0 0, .slice none 0 0, .slice none 0 0, U 0, St [], .bool false]), 7, 120) := by kernel_rfl
end Go.Proofs.YtdikcgmdmcfpfaaGreat
namespace Go.Proofs.YtdikcgmdmcfpfaaGreat
open Go.RowKit

theorem Sl.none_nil {α : Type} {T : Shape α} {w : World} {S : Nat → Prop} {n c : Nat} {l : List α} (h : Sl T w S (.slice none n c) l) : l = [] := by
  cases l with
  | nil => rfl
  | cons x r =>
    obtain ⟨b, o, vs, c', hv', -⟩ := h.at_ (pre := []) rfl
    cases hv'
theorem no_ownBlk {A : Option Addr} {n : Nat} {b : Nat} : ¬ ownBlk (.slice A n 0) b := by
  rintro ⟨g, n', c, h, hc, rfl⟩
  cases h
  omega
/-- the end of a walk of Clone -/
theorem clone_end {α : Type} {T : Shape α} {tid : Nat} {w w1 w' : World} {S : Nat → Prop} {v' : Value} {l : List α} {A : Option Addr} {vss : List (List Value)}
    (h1 : vss.length = l.length) (h2 : ∀ (i : Nat) x vs, l[i]? = some x → vss[i]? = some vs → T.rd w S x vs) (hown : Own w' w.heap.size tid T.k v' (0 + l.length) ([] ++ vss.flatten))
    (he : Ext w w1) (hg : Grew w1 w' (.slice A 0 0) v') : OwnL T tid w' w.heap.size S v' l ∧ Ext w w' := by
  have hx : Ext w w' := he.grew hg (fun b hb => absurd hb no_ownBlk)
  exact ⟨⟨vss, h1, fun i x vs hi hv => T.keep (h2 i x vs hi hv) (fun b _ hb => hx.block b hb), by simpa using hown⟩, hx⟩

set_option maxRecDepth 100000 in
set_option maxHeartbeats 400000 in
theorem clone_mark {S : Nat → Prop} {v : Value} {l : List (Mark)} {w : World} (hv : Sl markT w S v l) (hl : l.length ≤ 1099511627776) :
    Calls Tryz.prog 60 #[v] w fun e w' => ∃ v', e = .returned v' ∧ OwnL markT 25 w' w.heap.size S v' l ∧ Ext w w' := by
  obtain ⟨A, c, rfl, h1, h2⟩ := hv.form
  cases A with
  | none =>
    obtain rfl := hv.none_nil
    have hq := fun W => Lib.run_eql_slice_nil (P := Tryz.prog) W 26 25 none 0 c 0 0 Tryz.underlying26
    clear hv
    go_enter Tryz.func60, Tryz.ntmps60
    go_wp2
    go_ret
    exact ⟨_, rfl, OwnL.nil _ _, Ext.refl _⟩
  | some A =>
    have hq := fun W => Lib.run_eql_slice_nil (P := Tryz.prog) W 26 25 (some A) l.length c 0 0 Tryz.underlying26
    have HS := Lib.hid hv.src
    clear hv
    go_enter Tryz.func60, Tryz.ntmps60
    go_wp2_with (at_builtin; refine wpList_append_Own rfl (.tmp 5) (.tmp 6) 26 rfl w.heap.size 25 2 24 (.agg #[St [], U 0]) Tryz.underlying26 info_mark rfl (by omega) (.slice (some ⟨w.heap.size, 0, none⟩) 0 0) 0 [] rfl (Own.nil _ _ _ _ _) (some A) l.length c (HS.out.choose).flatten rfl (Src.ext HS.out.choose_spec.2.2 ((Ext.refl w).alloc _)) (by omega) (by omega) (by simp) ?_; intro v' w' hown hgr; clear hq)
    go_ret
    exact ⟨v', rfl, clone_end HS.out.choose_spec.1 HS.out.choose_spec.2.1 hown ((Ext.refl w).alloc _) hgr⟩

set_option maxRecDepth 100000 in
set_option maxHeartbeats 400000 in
theorem clone_dot {S : Nat → Prop} {v : Value} {l : List (Dot)} {w : World} (hv : Sl markT w S v l) (hl : l.length ≤ 1099511627776) :
    Calls Tryz.prog 114 #[v] w fun e w' => ∃ v', e = .returned v' ∧ OwnL markT 97 w' w.heap.size S v' l ∧ Ext w w' := by
  obtain ⟨A, c, rfl, h1, h2⟩ := hv.form
  cases A with
  | none =>
    obtain rfl := hv.none_nil
    have hq := fun W => Lib.run_eql_slice_nil (P := Tryz.prog) W 94 97 none 0 c 0 0 Tryz.underlying94
    clear hv
    go_enter Tryz.func114, Tryz.ntmps114
    go_wp2
    go_ret
    exact ⟨_, rfl, OwnL.nil _ _, Ext.refl _⟩
  | some A =>
    have hq := fun W => Lib.run_eql_slice_nil (P := Tryz.prog) W 94 97 (some A) l.length c 0 0 Tryz.underlying94
    have HS := Lib.hid hv.src
    clear hv
    go_enter Tryz.func114, Tryz.ntmps114
    go_wp2_with (at_builtin; refine wpList_append_Own rfl (.tmp 5) (.tmp 6) 94 rfl w.heap.size 97 2 24 (.agg #[St [], U 0]) Tryz.underlying94 info_dot rfl (by omega) (.slice (some ⟨w.heap.size, 0, none⟩) 0 0) 0 [] rfl (Own.nil _ _ _ _ _) (some A) l.length c (HS.out.choose).flatten rfl (Src.ext HS.out.choose_spec.2.2 ((Ext.refl w).alloc _)) (by omega) (by omega) (by simp) ?_; intro v' w' hown hgr; clear hq)
    go_ret
    exact ⟨v', rfl, clone_end HS.out.choose_spec.1 HS.out.choose_spec.2.1 hown ((Ext.refl w).alloc _) hgr⟩

set_option maxRecDepth 100000 in
set_option maxHeartbeats 400000 in
theorem clone_count {S : Nat → Prop} {v : Value} {l : List (Count)} {w : World} (hv : Sl countT w S v l) (hl : l.length ≤ 1099511627776) :
    Calls Tryz.prog 112 #[v] w fun e w' => ∃ v', e = .returned v' ∧ OwnL countT 93 w' w.heap.size S v' l ∧ Ext w w' := by
  obtain ⟨A, c, rfl, h1, h2⟩ := hv.form
  cases A with
  | none =>
    obtain rfl := hv.none_nil
    have hq := fun W => Lib.run_eql_slice_nil (P := Tryz.prog) W 32 93 none 0 c 0 0 Tryz.underlying32
    clear hv
    go_enter Tryz.func112, Tryz.ntmps112
    go_wp2
    go_ret
    exact ⟨_, rfl, OwnL.nil _ _, Ext.refl _⟩
  | some A =>
    have hq := fun W => Lib.run_eql_slice_nil (P := Tryz.prog) W 32 93 (some A) l.length c 0 0 Tryz.underlying32
    have HS := Lib.hid hv.src
    clear hv
    go_enter Tryz.func112, Tryz.ntmps112
    go_wp2_with (at_builtin; refine wpList_append_Own rfl (.tmp 5) (.tmp 6) 32 rfl w.heap.size 93 3 32 (.agg #[St [], U 0, U 0]) Tryz.underlying32 info_count rfl (by omega) (.slice (some ⟨w.heap.size, 0, none⟩) 0 0) 0 [] rfl (Own.nil _ _ _ _ _) (some A) l.length c (HS.out.choose).flatten rfl (Src.ext HS.out.choose_spec.2.2 ((Ext.refl w).alloc _)) (by omega) (by omega) (by simp) ?_; intro v' w' hown hgr; clear hq)
    go_ret
    exact ⟨v', rfl, clone_end HS.out.choose_spec.1 HS.out.choose_spec.2.1 hown ((Ext.refl w).alloc _) hgr⟩

set_option maxRecDepth 100000 in
set_option maxHeartbeats 400000 in
theorem clone_item {S : Nat → Prop} {v : Value} {l : List (Item)} {w : World} (hv : Sl itemT w S v l) (hl : l.length ≤ 1099511627776) :
    Calls Tryz.prog 113 #[v] w fun e w' => ∃ v', e = .returned v' ∧ OwnL itemT 96 w' w.heap.size S v' l ∧ Ext w w' := by
  obtain ⟨A, c, rfl, h1, h2⟩ := hv.form
  cases A with
  | none =>
    obtain rfl := hv.none_nil
    have hq := fun W => Lib.run_eql_slice_nil (P := Tryz.prog) W 33 96 none 0 c 0 0 Tryz.underlying33
    clear hv
    go_enter Tryz.func113, Tryz.ntmps113
    go_wp2
    go_ret
    exact ⟨_, rfl, OwnL.nil _ _, Ext.refl _⟩
  | some A =>
    have hq := fun W => Lib.run_eql_slice_nil (P := Tryz.prog) W 33 96 (some A) l.length c 0 0 Tryz.underlying33
    have HS := Lib.hid hv.src
    clear hv
    go_enter Tryz.func113, Tryz.ntmps113
    go_wp2_with (at_builtin; refine wpList_append_Own rfl (.tmp 5) (.tmp 6) 33 rfl w.heap.size 96 2 40 (.agg #[St [], .slice none 0 0]) Tryz.underlying33 info_item rfl (by omega) (.slice (some ⟨w.heap.size, 0, none⟩) 0 0) 0 [] rfl (Own.nil _ _ _ _ _) (some A) l.length c (HS.out.choose).flatten rfl (Src.ext HS.out.choose_spec.2.2 ((Ext.refl w).alloc _)) (by omega) (by omega) (by simp) ?_; intro v' w' hown hgr; clear hq)
    go_ret
    exact ⟨v', rfl, clone_end HS.out.choose_spec.1 HS.out.choose_spec.2.1 hown ((Ext.refl w).alloc _) hgr⟩

set_option maxRecDepth 100000 in
set_option maxHeartbeats 400000 in
theorem clone_str {S : Nat → Prop} {v : Value} {l : List (Str)} {w : World} (hv : Sl strT w S v l) (hl : l.length ≤ 1099511627776) :
    Calls Tryz.prog 61 #[v] w fun e w' => ∃ v', e = .returned v' ∧ OwnL strT 9 w' w.heap.size S v' l ∧ Ext w w' := by
  obtain ⟨A, c, rfl, h1, h2⟩ := hv.form
  cases A with
  | none =>
    obtain rfl := hv.none_nil
    have hq := fun W => Lib.run_eql_slice_nil (P := Tryz.prog) W 28 9 none 0 c 0 0 Tryz.underlying28
    clear hv
    go_enter Tryz.func61, Tryz.ntmps61
    go_wp2
    go_ret
    exact ⟨_, rfl, OwnL.nil _ _, Ext.refl _⟩
  | some A =>
    have hq := fun W => Lib.run_eql_slice_nil (P := Tryz.prog) W 28 9 (some A) l.length c 0 0 Tryz.underlying28
    have HS := Lib.hid hv.src
    clear hv
    go_enter Tryz.func61, Tryz.ntmps61
    go_wp2_with (at_builtin; refine wpList_append_Own rfl (.tmp 5) (.tmp 6) 28 rfl w.heap.size 9 1 16 (St []) Tryz.underlying28 info_str rfl (by omega) (.slice (some ⟨w.heap.size, 0, none⟩) 0 0) 0 [] rfl (Own.nil _ _ _ _ _) (some A) l.length c (HS.out.choose).flatten rfl (Src.ext HS.out.choose_spec.2.2 ((Ext.refl w).alloc _)) (by omega) (by omega) (by simp) ?_; intro v' w' hown hgr; clear hq)
    go_ret
    exact ⟨v', rfl, clone_end HS.out.choose_spec.1 HS.out.choose_spec.2.1 hown ((Ext.refl w).alloc _) hgr⟩
end Go.Proofs.YtdikcgmdmcfpfaaGreat
namespace Go.Proofs.YtdikcgmdmcfpfaaGreat
open Go.RowKit

/-- block g is a row of cells: xs, then tail; it may be written -/
def RowIs (w : World) (g T : Nat) (xs tail : List Value) : Prop := w.heap[g]? = some (.cells (xs ++ tail).toArray T (0, 0))

section
variable {w w' : World} {g T : Nat} {xs tail : List Value}
theorem RowIs.lt (h : RowIs w g T xs tail) : g < w.heap.size := (Array.getElem?_eq_some_iff.1 h).1
theorem RowIs.cell (h : RowIs w g T xs tail) {j : Nat} {u : Value} (hj : xs[j]? = some u) : w.cell? ⟨g, j, none⟩ = some u := by
  rw [cell_of_row w g j _ T (0, 0) h]
  have := (List.getElem?_eq_some_iff.1 hj).1
  simpa [List.getElem?_append_left this] using hj
theorem RowIs.frozen (h : RowIs w g T xs tail) (j : Nat) : w.frozen? ⟨g, j, none⟩ = false := by
  simp [World.frozen?, show w.heap[g]? = _ from h]
theorem RowIs.keep (h : RowIs w g T xs tail) (hs : w'.heap[g]? = w.heap[g]?) : RowIs w' g T xs tail := hs.trans h
theorem RowIs.ext (h : RowIs w g T xs tail) (he : Ext w w') : RowIs w' g T xs tail := h.keep (he.block g h.lt)
theorem RowIs.alloc (h : RowIs w g T xs tail) (o : Obj) : RowIs (w.alloc o) g T xs tail := h.ext ((Ext.refl w).alloc o)
theorem RowIs.other (h : RowIs w g T xs tail) {p : Addr} (hp : p.block ≠ g) (u : Value) : RowIs (w.setCell p u) g T xs tail := h.keep (Below.heap_setCell w p u g hp.symm)
theorem RowIs.set (h : RowIs w g T xs tail) {j : Nat} (hj : j < xs.length) (u : Value) : RowIs (w.setCell ⟨g, j, none⟩ u) g T (xs.set j u) tail := by
  unfold RowIs at h ⊢
  simp only [World.setCell, Array.getElem?_modify, h, if_true, Option.map_some, Option.isSome_none, Bool.false_eq_true, if_false]
  congr 2
  apply Array.ext'
  simp [List.set_append, hj]
theorem RowIs.setRow (h : RowIs w g T xs tail) (ys : List Value) : RowIs (w.setRow g (ys ++ tail).toArray) g T ys tail := setRow_heap w g _ _ T (0, 0) h
theorem Ext.setRow {w0 : World} (h : Ext w0 w) (hg : w0.heap.size ≤ g) (cs : Array Value) : Ext w0 (w.setRow g cs) :=
  ⟨h.os, h.tape, h.output, Nat.le_trans h.size (by simp [World.setRow]), fun k hk => (setRow_other w g k _ (by omega)).trans (h.block k hk)⟩
/-- a row of the call's own that has cells, known whole -/
theorem Own.row {base k n : Nat} {v : Value} (h : Own w base T k v n xs) (hn : 0 < n) : ∃ g cap tail, v = .slice (some ⟨g, 0, none⟩) n cap ∧ base ≤ g ∧ RowIs w g T xs tail ∧ n ≤ cap ∧ cap ≤ 9223372036854775807 ∧ (xs ++ tail).length = cap * k := by
  obtain ⟨g, cap, cur, hv, hb, hg, hh, hc, hm, hs, ht⟩ := h.pos hn
  refine ⟨g, cap, cur.toList.drop (n * k), hv, hb, ?_, hc, hm, ?_⟩
  · unfold RowIs
    rw [← ht, List.take_append_drop]
    exact hh
  · rw [← ht, List.take_append_drop]
    simpa using hs
theorem RowIs.own {base k n cap : Nat} {ys : List Value} (h : RowIs w g T ys tail) (hb : base ≤ g) (hn : n ≤ cap) (hm : cap ≤ 9223372036854775807) (hl : (ys ++ tail).length = cap * k) (hx : ys.take (n * k) = xs) (hlen : xs.length = n * k) : Own w base T k (.slice (some ⟨g, 0, none⟩) n cap) n xs := by
  refine ⟨hlen, .inr ⟨g, cap, _, rfl, hb, h, hn, hm, by simpa using hl, ?_⟩⟩
  rw [← hx] at hlen ⊢
  have : n * k ≤ ys.length := by rw [List.length_take] at hlen; omega
  simp [List.take_append_of_le_length this]
end

/-- clear(s[o:]) on a row that is known whole -/
theorem run_clear_row {P : Program} {w : World} {g t T k o n c : Nat} {i : TypeInfo} {z : Value} {xs tail : List Value} (ht : P.underlying t = some (.slice T)) (hi : P.info? T = some i) (hz : i.zero = some z) (hk : z.cells.size = k)
    (h1 : ∀ u ∈ z.cells.toList, u.oneCell' = true) (h : RowIs w g T xs tail) (hn : 0 < n) (hx : xs.length = (o + n) * k) (ty : TypeId) :
    ∃ zs : List Value, zs.length = n * k ∧ (Builtin.clear_ #[t] ty #[.slice (some ⟨g, o * k, none⟩) n c]).run P w = .ok (.tuple #[]) (w.setRow g ((xs.take (o * k) ++ zs) ++ tail).toArray) := by
  have hzl : (Builtin.zeroCells z.cells n).toList.length = n * k := by simp [Builtin.zeroCells, hk]
  refine ⟨(Builtin.zeroCells z.cells n).toList, hzl, ?_⟩
  have hz1 : ∀ u ∈ (Builtin.zeroCells z.cells n).toList, u.oneCell' = true := by
    intro u hu
    simp only [Builtin.zeroCells, Array.toList_map, List.mem_map] at hu
    obtain ⟨j, hj, rfl⟩ := hu
    simp at hj
    have hk0 : 0 < z.cells.size := by
      rcases Nat.eq_zero_or_pos z.cells.size with h0 | h0
      · rw [h0] at hj; simp at hj
      · exact h0
    have hlt := Nat.mod_lt j hk0
    refine h1 _ ?_
    rw [getElem!_pos z.cells (j % z.cells.size) hlt]
    exact Array.getElem_mem_toList hlt
  have hst := run_storeCells_at P g (o * k) T (Builtin.zeroCells z.cells n).toList 0 (xs ++ tail).toArray w h (by rw [hzl]; simp [hx, Nat.add_mul]) hz1
  simp only [Nat.add_zero] at hst
  have e : ((xs ++ tail).toArray.toList.take (o * k) ++ (Builtin.zeroCells z.cells n).toList ++ (xs ++ tail).toArray.toList.drop (o * k + (Builtin.zeroCells z.cells n).toList.length)) = (xs.take (o * k) ++ (Builtin.zeroCells z.cells n).toList) ++ tail := by
    rw [hzl]
    have e1 : o * k ≤ xs.length := by rw [hx, Nat.add_mul]; omega
    have e2 : o * k + n * k = xs.length := by rw [hx, Nat.add_mul]
    simp only [List.take_append_of_le_length e1]
    rw [e2, List.drop_left]
  rw [e] at hst
  cases n with
  | zero => omega
  | succ n => simp [Builtin.clear_, run_underlying ht, zeroValue, typeInfo, hi, hz, hst]
end Go.Proofs.YtdikcgmdmcfpfaaGreat
namespace Go.Proofs.YtdikcgmdmcfpfaaGreat
open Go.RowKit

theorem mark_at {w wr : World} {S : Nat → Prop} {A : Option Addr} {n c : Nat} {l pre post : List Mark} {m : Mark} (h : Sl markT w S (.slice A n c) l) (hb : Ext w wr) (hl : l = pre ++ m :: post) :
    ∃ b o, A = some ⟨b, o, none⟩ ∧ wr.cell? ⟨b, o + pre.length * 2, none⟩ = some (St m.1) ∧ wr.cell? ⟨b, o + pre.length * 2 + 1, none⟩ = some (U m.2) := by
  obtain ⟨b, o, vs, c', hv, hS, rfl, hc⟩ := h.at_ hl
  injection hv with e1 e2 e3
  subst e1
  exact ⟨b, o, rfl, hb.cell (hc 0 _ rfl), hb.cell (hc 1 _ rfl)⟩

/-- what is asked of a predicate on marks: in each world of C, which hangs on nothing from base on -/
structure PredM (P : Program) (g : Nat) (cb : Array Value) (base : Nat) (C : World → Prop) (p : Mark → Bool) : Prop where
  enters : ∀ args w, (callFunc g args).run P w = .ok (.enter g args) w
  keep : ∀ W W', C W → Below base W W' → C W'
  does : ∀ m W, C W → Calls P g (#[.agg #[St m.1, U m.2]] ++ cb) W fun e w' => e = .returned (.bool (p m)) ∧ Ext W w'

theorem Ext.below {w w' : World} (h : Ext w w') {n : Nat} (hn : n ≤ w.heap.size) : Below n w w' := Below.mono h hn

theorem snoc_all {α : Type} {Q : α → Prop} {pre : List α} {m : α} (h : ∀ x ∈ pre, Q x) (hm : Q m) : ∀ x ∈ pre ++ [m], Q x := fun x hx => by
  rcases List.mem_append.1 hx with h1 | h1
  · exact h x h1
  · rw [List.mem_singleton.1 h1]; exact hm

/-- the first place where p says yes -/
def idxM (p : Mark → Bool) (l : List Mark) : Int := match l.findIdx? p with | some i => i | none => -1
theorem idxM_none {p : Mark → Bool} {l : List Mark} (h : ∀ m ∈ l, p m = false) : idxM p l = -1 := by
  unfold idxM
  rw [List.findIdx?_eq_none_iff.2 (fun x hx => h x hx)]
theorem idxM_some {p : Mark → Bool} {pre post : List Mark} {m : Mark} (h : ∀ x ∈ pre, p x = false) (hm : p m = true) : idxM p (pre ++ m :: post) = pre.length := by
  unfold idxM
  have : (pre ++ m :: post).findIdx? p = some pre.length := by
    rw [List.findIdx?_append, List.findIdx?_eq_none_iff.2 (fun x hx => h x hx)]
    simp [List.findIdx?_cons, hm]
  rw [this]

set_option maxRecDepth 100000 in
set_option maxHeartbeats 400000 in
theorem index_mark {S : Nat → Prop} {v : Value} {l : List Mark} {w : World} {g base : Nat} {cb : Array Value} {C : World → Prop} {p : Mark → Bool} (hv : Sl markT w S v l) (hp : PredM Tryz.prog g cb base C p) (hC : C w) (hbase : base ≤ w.heap.size) :
    Calls Tryz.prog 215 #[v, .func (.func g) #[] cb] w fun e w' => e = .returned (I (idxM p l)) ∧ Ext w w' := by
  have hv' := hv
  obtain ⟨A, c, rfl, h1, h2⟩ := hv.form
  have HC := Lib.hid hC
  have eg := hp.enters
  clear hv hC
  go_enter Tryz.func215, Tryz.ntmps215
  go_wp2
  go_loopw [8] (fun i wr => ∃ pre post, l = pre ++ post ∧ i = I pre.length ∧ (∀ x ∈ pre, p x = false) ∧ Ext w wr) (fun i _ => l.length - (intOf i).toNat)
  case atStart => exact ⟨[], l, rfl, rfl, by simp, Ext.refl _⟩
  case round =>
    obtain ⟨pre, post, hl, rfl, hpre, hb⟩ := hrel
    cases post with
    | cons m post =>
      obtain ⟨b, o, rfl, hd0, hd1⟩ := mark_at hv' hb hl
      have hlt : pre.length < l.length := by rw [hl]; simp
      have HL := Lib.hid hl
      have HP := Lib.hid hpre
      have HD := Lib.hid (hp.does m wr (hp.keep _ _ HC.out (hb.below hbase)))
      clear hl hv' hp hpre
      cases hpm : p m
      all_goals
        rw [hpm] at HD
        go_wp2_with fail
        refine HD.out.mono ?_
        rintro e w1 ⟨rfl, hb1⟩
        go_wp2
      · go_roundw
        case rel => exact ⟨pre ++ [m], post, by rw [HL.out]; simp, by simp, snoc_all HP.out hpm, hb.trans hb1⟩
        case measure => simp [intOf]; omega
      · go_ret
        exact ⟨by rw [HL.out, idxM_some HP.out hpm]; rfl, hb.trans hb1⟩
    | nil =>
      rw [List.append_nil] at hl; subst hl
      have HP := Lib.hid hpre
      clear hv' hpre hp
      go_wp2
      go_ret
      exact ⟨by rw [idxM_none HP.out]; rfl, hb⟩

theorem markC_len (l : List Mark) : (l.flatMap markC).length = l.length * 2 := by
  induction l with
  | nil => rfl
  | cons a r ih => simp [ih, markC]; omega
theorem markC_at (A B : List Mark) (x : Mark) : ((A ++ x :: B).flatMap markC)[A.length * 2]? = some (St x.1) ∧ ((A ++ x :: B).flatMap markC)[A.length * 2 + 1]? = some (U x.2) := by
  rw [List.flatMap_append, ← markC_len A]
  constructor
  · rw [List.getElem?_append_right (Nat.le_refl _)]; simp [markC]
  · rw [List.getElem?_append_right (by omega)]; simp [markC]
theorem markC_set (A B : List Mark) (x y : Mark) : (((A ++ x :: B).flatMap markC).set (A.length * 2) (St y.1)).set (A.length * 2 + 1) (U y.2) = (A ++ y :: B).flatMap markC := by
  rw [List.flatMap_append, List.flatMap_append, ← markC_len A, List.set_append_right _ _ (Nat.le_refl _), List.set_append_right _ _ (by omega)]
  simp [markC]
theorem markC_take (A B : List Mark) : ((A ++ B).flatMap markC).take (A.length * 2) = A.flatMap markC := by
  rw [List.flatMap_append, ← markC_len A]
  simp

theorem own_markT {tid base : Nat} {S : Nat → Prop} {v : Value} {l : List Mark} {w : World} : OwnL markT tid w base S v l ↔ Own w base tid 2 v l.length (l.flatMap markC) := OwnL.flat_iff
theorem own_slMark {tid base : Nat} {v : Value} {l : List Mark} {w : World} (h : Own w base tid 2 v l.length (l.flatMap markC)) : Sl markT w (fun b => base ≤ b) v l :=
  (own_markT (S := fun b => base ≤ b).2 h).sl (by decide) (fun _ _ h => h) (fun _ h _ => h)

theorem below_setRow {base : Nat} {w w1 : World} {g : Nat} (h : Below base w w1) (hg : base ≤ g) (cs : Array Value) : Below base w (w1.setRow g cs) :=
  ⟨h.os, h.tape, h.output, Nat.le_trans h.size (by simp [World.setRow]), fun k hk => (setRow_other w1 g k _ (by omega)).trans (h.block k hk)⟩

/-- the two stores of a mark into a row -/
theorem RowIs.setMark {w : World} {g T : Nat} {A B : List Mark} {x : Mark} {tail : List Value} (h : RowIs w g T ((A ++ x :: B).flatMap markC) tail) (y : Mark) :
    RowIs ((w.setCell ⟨g, A.length * 2, none⟩ (St y.1)).setCell ⟨g, A.length * 2 + 1, none⟩ (U y.2)) g T ((A ++ y :: B).flatMap markC) tail := by
  have hl : ((A ++ x :: B).flatMap markC).length = A.length * 2 + 2 + B.length * 2 := by rw [markC_len]; simp; omega
  have h1 := h.set (j := A.length * 2) (by omega) (St y.1)
  have h2 := h1.set (j := A.length * 2 + 1) (by rw [List.length_set]; omega) (U y.2)
  rwa [markC_set] at h2

set_option maxRecDepth 100000 in
set_option maxHeartbeats 1000000 in
theorem delete_mark {v : Value} {l : List Mark} {w : World} {g base : Nat} {cb : Array Value} {C : World → Prop} {p : Mark → Bool} (hv : Own w base 25 2 v l.length (l.flatMap markC)) (hp : PredM Tryz.prog g cb base C p) (hC : C w) (hbase : base ≤ w.heap.size) :
    Calls Tryz.prog 142 #[v, .func (.func g) #[] cb] w fun e w' => ∃ v', e = .returned v' ∧ Own w' base 25 2 v' (l.filter fun m => !p m).length ((l.filter fun m => !p m).flatMap markC) ∧ Below base w w' := by
  have hsl := own_slMark hv
  have HI := Lib.hid (index_mark hsl hp hC hbase)
  by_cases hall : ∀ m ∈ l, p m = false
  · have hi := idxM_none hall
    rw [hi] at HI
    have hf : (l.filter fun m => !p m) = l := List.filter_eq_self.2 (fun m hm => by simp [hall m hm])
    have HF := Lib.hid hf
    have HV := Lib.hid hv
    clear hi hf hv hsl hp hall
    go_enter Tryz.func142, Tryz.ntmps142
    go_wp2_with fail
    refine HI.out.mono ?_
    rintro e w1 ⟨rfl, hb1⟩
    go_wp2
    go_ret
    exact ⟨_, rfl, by rw [HF.out]; exact HV.out.ext hb1, hb1.below hbase⟩
  · obtain ⟨pre0, m0, post0, hl0, hpre0, hm0⟩ : ∃ pre m post, l = pre ++ m :: post ∧ (∀ x ∈ pre, p x = false) ∧ p m = true := by
      clear HI hsl hv
      induction l with
      | nil => exact absurd (by simp) hall
      | cons a r ih =>
        cases ha : p a with
        | true => exact ⟨[], a, r, rfl, by simp, ha⟩
        | false =>
          obtain ⟨pre, m, post, e1, e2, e3⟩ := ih (fun h => hall (by simp [ha]; exact fun a b hab => h _ hab))
          exact ⟨a :: pre, m, post, by rw [e1]; rfl, by simp [ha]; exact fun a b hab => e2 _ hab, e3⟩
    have hi := idxM_some (post := post0) hpre0 hm0
    rw [← hl0] at hi
    rw [hi] at HI
    have hlen : pre0.length < l.length := by rw [hl0]; simp
    obtain ⟨gb, cap, tail, rfl, hgb, hrow, hnc, hcm, hcl⟩ := hv.row (by omega)
    have HR := Lib.hid hrow
    have HCL := Lib.hid hcl
    have HL0 := Lib.hid hl0
    have HP0 := Lib.hid hpre0
    have HM0 := Lib.hid hm0
    have HCw := Lib.hid hC
    have eg := hp.enters
    have HPr := Lib.hid hp
    have hq0 : ((pre0.length : Int) == -1) = false := by rw [beq_eq_false_iff_ne]; omega
    clear hi hrow hcl hl0 hpre0 hm0 hC hp hv hsl hall
    go_enter Tryz.func142, Tryz.ntmps142
    go_wp2_with fail
    refine HI.out.mono ?_
    rintro e w1 ⟨rfl, hb1⟩
    go_wp2_with fail
    go_loopw [5, 6] (fun i j wr => ∃ pre post kept junk : List Mark, l = pre ++ post ∧ j = I pre.length ∧ i = I kept.length ∧ kept = pre.filter (fun m => !p m) ∧ kept.length + junk.length = pre.length ∧ 0 < junk.length ∧ RowIs wr gb 25 ((kept ++ junk ++ post).flatMap markC) tail ∧ Below base w wr) (fun _ j _ => l.length - (intOf j).toNat)
    case atStart =>
      refine ⟨pre0 ++ [m0], post0, pre0, [m0], by rw [HL0.out]; simp, by simp, rfl, ?_, by simp, by simp, ?_, hb1.below hbase⟩
      · rw [List.filter_append, List.filter_eq_self.2 (fun m hm => by simp [HP0.out m hm])]; simp [HM0.out]
      · have := HR.out.ext hb1
        rw [HL0.out] at this
        simpa using this
    case round =>
      obtain ⟨pre, post, kept, junk, hl, rfl, rfl, hkept, hkj, hj0, hrow, hb⟩ := hrel
      cases post with
      | cons m post =>
        obtain ⟨x, junk, rfl⟩ : ∃ x r, junk = x :: r := by cases junk with | nil => simp at hj0 | cons x r => exact ⟨x, r, rfl⟩
        have hlt : pre.length < l.length := by rw [hl]; simp
        have hm := markC_at (kept ++ x :: junk) post m
        rw [List.length_append, hkj] at hm
        have hd0 := hrow.cell hm.1
        have hd1 := hrow.cell hm.2
        have HD := Lib.hid (HPr.out.does m (wr.alloc (.cells #[St m.1, U m.2] 25)) (HPr.out.keep _ _ HCw.out (Below.trans hb (((Ext.refl wr).alloc _).below (Nat.le_trans hbase hb.size)))))
        have HL := Lib.hid hl
        have HK := Lib.hid hkept
        have HKJ := Lib.hid hkj
        have HRow := Lib.hid hrow
        have hkl : kept.length < pre.length := by simp at hkj; omega
        clear hl hkept hkj hrow hm hj0
        cases hpm : p m
        all_goals
          rw [hpm] at HD
          go_wp2_with fail
          refine HD.out.mono ?_
          rintro e w2 ⟨rfl, hb2⟩
          have hb3 : Below base w w2 := Below.trans hb ((((Ext.refl wr).alloc _).trans hb2).below (Nat.le_trans hbase hb.size))
          have hrow2 := (HRow.out.alloc (.cells #[St m.1, U m.2] 25)).ext hb2
        · have hx := markC_at kept (junk ++ m :: post) x
          have hrow3 : RowIs w2 gb 25 ((kept ++ x :: (junk ++ m :: post)).flatMap markC) tail := by simpa using hrow2
          have hc0 := hrow3.cell hx.1
          have hc1 := hrow3.cell hx.2
          have hf0 := hrow3.frozen (kept.length * 2)
          have hf1 := hrow3.frozen (kept.length * 2 + 1)
          have hb0 : w2.cell? ⟨wr.heap.size, 0, none⟩ = some (St m.1) := hb2.cell (by simp [go_sem])
          have hb1' : w2.cell? ⟨wr.heap.size, 1, none⟩ = some (U m.2) := hb2.cell (by simp [go_sem])
          have HR3 := Lib.hid hrow3
          clear hrow3 hrow2 hx
          go_wp2
          go_roundw
          case rel =>
            refine ⟨pre ++ [m], post, kept ++ [m], junk ++ [m], by rw [HL.out]; simp, by simp, by simp, by rw [List.filter_append, ← HK.out]; simp [hpm], ?_, by simp, ?_, ?_⟩
            · have := HKJ.out; simp at this ⊢; omega
            · have := HR3.out.setMark m
              simpa using this
            · exact (hb3.setCell (by simp; omega) _).setCell (by simp; omega) _
          case measure => simp [intOf]; omega
        · go_wp2
          go_roundw
          case rel =>
            refine ⟨pre ++ [m], post, kept, x :: junk ++ [m], by rw [HL.out]; simp, by simp, rfl, by rw [List.filter_append, ← HK.out]; simp [hpm], ?_, by simp, by simpa using hrow2, hb3⟩
            have := HKJ.out; simp at this ⊢; omega
          case measure => simp [intOf]; omega
      | nil =>
        rw [List.append_nil] at hl
        subst hl
        have HK := Lib.hid hkept
        rw [List.append_nil] at hrow
        have hkl : kept.length < l.length := by omega
        have hz : kept.length + junk.length = l.length := hkj
        have hxl : ((kept ++ junk).flatMap markC).length = (kept.length + (l.length - kept.length)) * 2 := by rw [markC_len, List.length_append]; omega
        obtain ⟨i, hi, hzero, -, -⟩ := info_parts info_mark
        obtain ⟨zs, hzl, hcl⟩ := run_clear_row (P := Tryz.prog) (t := 26) (o := kept.length) (n := l.length - kept.length) (c := cap - kept.length) Tryz.underlying26 hi hzero (k := 2) rfl (by intro u hu; simp [Value.cells] at hu; rcases hu with rfl | rfl <;> rfl) hrow (by omega) hxl 0
        rw [markC_take] at hcl
        have HRow := Lib.hid hrow
        have HZ := Lib.hid hzl
        have hne : ¬ cap = kept.length := by omega
        clear hkept hkj hrow hz hxl hi hzero hzl
        go_wp2_with fail
        go_ret
        rw [← HK.out]
        have hW := HRow.out.setRow (kept.flatMap markC ++ zs)
        rw [List.append_assoc] at hW
        refine ⟨_, rfl, hW.own hgb (by omega) hcm ?_ ?_ (markC_len _), ?_⟩
        · have h1 := HCL.out
          have h2 := HZ.out
          simp only [List.length_append, markC_len] at h1 ⊢
          omega
        · rw [← markC_len kept, List.take_left]
        · exact below_setRow hb hgb _
end Go.Proofs.YtdikcgmdmcfpfaaGreat
namespace Go.Proofs.YtdikcgmdmcfpfaaGreat
open Go.RowKit

set_option maxRecDepth 100000 in
set_option maxHeartbeats 400000 in
theorem may_any {S : Nat → Prop} {v : Value} {l : List Mark} {w : World} (hv : Sl markT w S v l) :
    Calls Tryz.prog 64 #[v] w fun e w' => e = .returned (.bool (mayM l)) ∧ Ext w w' := by
  have hv' := hv
  obtain ⟨A, c, rfl, h1, h2⟩ := hv.form
  by_cases h512 : l.length ≤ 512
  · have HM := Lib.hid (show mayM l = mayFrom [] l by simp [mayM, h512])
    have h5 : ¬ (l.length : Int) > 512 := by omega
    clear hv
    go_enter Tryz.func64, Tryz.ntmps64
    go_wp2
    go_loopw [3, 11] (fun last i wr => ∃ pre post la, l = pre ++ post ∧ i = I pre.length ∧ last = St la ∧ mayFrom [] l = mayFrom la post ∧ Ext w wr) (fun _ i _ => l.length - (intOf i).toNat)
    case atStart => exact ⟨[], l, [], rfl, rfl, rfl, rfl, Ext.refl _⟩
    case round =>
      obtain ⟨pre, post, la, hl, rfl, rfl, hm, hb⟩ := hrel
      cases post with
      | cons m post =>
        obtain ⟨b, o, rfl, hd0, hd1⟩ := mark_at hv' hb hl
        have hlt : pre.length < l.length := by rw [hl]; simp
        have HL := Lib.hid hl
        have HM2 := Lib.hid hm
        clear hl hv' hm
        rcases str_cases m.1 la with ⟨q1, q2, q3, q4, q5⟩ | q | ⟨q1, q2, q3, q4, q5⟩
        · go_wp2
          go_ret
          exact ⟨by rw [HM.out, HM2.out]; simp [mayFrom, leS, q1], hb.alloc _⟩
        · subst q
          go_wp2
          go_ret
          exact ⟨by rw [HM.out, HM2.out]; simp [mayFrom, leS], hb.alloc _⟩
        · by_cases r1 : m.2 < 1
          · have r2 : (m.2 : Int) < 1 := by omega
            go_wp2
            go_ret
            exact ⟨by rw [HM.out, HM2.out]; simp [mayFrom, leS, q1, q3]; omega, hb.alloc _⟩
          · have r2 : ¬ (m.2 : Int) < 1 := by omega
            by_cases r3 : m.2 ≤ 281474976710656
            · have r4 : ¬ (m.2 : Int) > 281474976710656 := by omega
              go_wp2
              go_roundw
              case rel => exact ⟨pre ++ [m], post, m.1, by rw [HL.out]; simp, by simp, rfl, by rw [HM2.out]; simp [mayFrom, leS, q1, q3]; omega, hb.alloc _⟩
              case measure => simp [intOf]; omega
            · have r4 : (m.2 : Int) > 281474976710656 := by omega
              go_wp2
              go_ret
              exact ⟨by rw [HM.out, HM2.out]; simp [mayFrom, leS, q1, q3]; omega, hb.alloc _⟩
      | nil =>
        rw [List.append_nil] at hl; subst hl
        have HM2 := Lib.hid hm
        clear hm hv'
        go_wp2
        go_ret
        exact ⟨by rw [HM.out, HM2.out]; rfl, hb⟩
  · have HM := Lib.hid (show mayM l = false by simp [mayM, h512])
    have h5 : (l.length : Int) > 512 := by omega
    clear hv hv'
    go_enter Tryz.func64, Tryz.ntmps64
    go_wp2
    go_ret
    exact ⟨by rw [HM.out]; rfl, Ext.refl _⟩

set_option maxRecDepth 100000 in
set_option maxHeartbeats 400000 in
theorem of1_any (s : Str) (m : Mark) {b : Nat} {w : World} (hb : w.cell? ⟨b, 0, none⟩ = some (St s)) :
    Calls Tryz.prog 85 #[.agg #[St m.1, U m.2], .pointer (some ⟨b, 0, none⟩)] w fun e w' => e = .returned (.bool (m.1 == s && !s.isEmpty)) ∧ Ext w w' := by
  have hlt := blk_of_cell hb
  by_cases h : m.1 = s
  · have h' : (m.1 == s) = true := by simpa using h
    go_enter Tryz.func85, Tryz.ntmps85
    go_wp2
    go_ret
    exact ⟨by simp [h], (Ext.refl _).alloc _⟩
  · have h' : (m.1 == s) = false := by simpa using h
    go_enter Tryz.func85, Tryz.ntmps85
    go_wp2
    go_ret
    exact ⟨by simp [h'], (Ext.refl _).alloc _⟩

theorem u_max (a b : Nat) : U (if true = true then max a b else a) = Value.int IntKind.u64 (if a < b then (b : Int) else a) := by
  simp only [U, if_true]
  congr 1
  split <;> omega

theorem ofM_snoc (l : List Mark) (m : Mark) (s : Str) : ofM (l ++ [m]) s = if m.1 == s && !s.isEmpty then max (ofM l s) m.2 else ofM l s := by simp [ofM]

set_option maxRecDepth 100000 in
set_option maxHeartbeats 400000 in
theorem most_any {S : Nat → Prop} {v : Value} {l : List Mark} {w : World} {s : Str} {bs : Nat} (hv : Sl markT w S v l) (hs : w.cell? ⟨bs, 0, none⟩ = some (St s)) :
    Calls Tryz.prog 84 #[v, .func (.func 85) #[] #[.pointer (some ⟨bs, 0, none⟩)]] w fun e w' => e = .returned (U (ofM l s)) ∧ Ext w w' := by
  have hv' := hv
  obtain ⟨A, c, rfl, h1, h2⟩ := hv.form
  have HS := Lib.hid hs
  clear hv hs
  go_enter Tryz.func84, Tryz.ntmps84
  go_wp2
  go_loopw [5, 10] (fun n i wr => ∃ pre post, l = pre ++ post ∧ i = I pre.length ∧ n = U (ofM pre s) ∧ Ext w wr) (fun _ i _ => l.length - (intOf i).toNat)
  case atStart => exact ⟨[], l, rfl, rfl, rfl, Ext.refl _⟩
  case round =>
    obtain ⟨pre, post, hl, rfl, rfl, hb⟩ := hrel
    cases post with
    | cons m post =>
      obtain ⟨b, o, rfl, hd0, hd1⟩ := mark_at hv' hb hl
      have hlt : pre.length < l.length := by rw [hl]; simp
      have HL := Lib.hid hl
      have HN := Lib.hid (ofM_snoc pre m s)
      have HC := Lib.hid (of1_any s m (w := wr.alloc (.cells #[St m.1, U m.2] 25)) ((hb.alloc _).cell HS.out))
      clear hl hv'
      go_wp2_with fail
      refine HC.out.mono ?_
      rintro e w1 ⟨rfl, hb1⟩
      have hd2 : w1.cell? ⟨wr.heap.size, 1, none⟩ = some (U m.2) := hb1.cell (by simp [go_sem])
      cases hf : m.1 == s && !s.isEmpty
      · go_wp2
        go_roundw
        case rel => exact ⟨pre ++ [m], post, by rw [HL.out]; simp, by simp, by rw [HN.out, hf]; rfl, (hb.alloc _).trans hb1⟩
        case measure => simp [intOf]; omega
      · go_wp2
        go_roundw
        case rel => exact ⟨pre ++ [m], post, by rw [HL.out]; simp, by simp, by rw [HN.out, hf]; exact (u_max _ _).symm, (hb.alloc _).trans hb1⟩
        case measure => simp [intOf]; omega
    | nil =>
      rw [List.append_nil] at hl; subst hl
      clear hv'
      go_wp2
      go_ret
      exact ⟨rfl, hb⟩

set_option maxRecDepth 100000 in
set_option maxHeartbeats 400000 in
theorem of_any {S : Nat → Prop} {v : Value} {l : List Mark} {w : World} (s : Str) (hv : Sl markT w S v l) :
    Calls Tryz.prog 37 #[v, St s] w fun e w' => e = .returned (U (ofM l s)) ∧ Ext w w' := by
  have HC := Lib.hid (most_any (s := s) (bs := w.heap.size) (hv.ext (by decide) ((Ext.refl w).alloc (.cells #[St s] 9))) (by simp [go_sem]))
  clear hv
  go_enter Tryz.func37, Tryz.ntmps37
  go_wp2_with fail
  refine HC.out.mono ?_
  rintro e w1 ⟨rfl, hb1⟩
  go_wp2
  go_ret
  exact ⟨rfl, ((Ext.refl _).alloc _).trans hb1⟩

set_option maxRecDepth 100000 in
set_option maxHeartbeats 400000 in
theorem has_any {S : Nat → Prop} {v : Value} {l : List Mark} {w : World} (d : Mark) (hv : Sl markT w S v l) :
    Calls Tryz.prog 93 #[v, .agg #[St d.1, U d.2]] w fun e w' => e = .returned (.bool (hasM l d)) ∧ Ext w w' := by
  by_cases h : 1 ≤ d.2
  · have hd : (d.2 : Int) ≥ 1 := by omega
    have HC := Lib.hid (fun (W : World) (hW : Ext w W) => of_any d.1 (hv.ext (by decide) hW))
    clear hv
    go_enter Tryz.func93, Tryz.ntmps93
    go_wp2_with fail
    go_region_held3 (fun W => W.cell? ⟨w.heap.size, 0, none⟩ = some (St d.1) ∧ W.cell? ⟨w.heap.size, 1, none⟩ = some (U d.2) ∧ Ext w W) (first | exact ⟨by simp [go_sem], by simp [go_sem], ((Ext.refl _).alloc _).drew⟩ | exact ⟨hb1.cell ‹_ ∧ _ ∧ Ext w _›.1, hb1.cell ‹_ ∧ _ ∧ Ext w _›.2.1, ‹_ ∧ _ ∧ Ext w _›.2.2.trans hb1⟩) (first | (go_at_call 37; refine (HC.out _ ‹_ ∧ _ ∧ Ext w _›.2.2).mono ?_; rintro e w1 ⟨rfl, hb1⟩))
    go_wp2
    go_ret
    exact ⟨by simp [hasM, h], ‹_ ∧ _ ∧ Ext w _›.2.2⟩
  · obtain ⟨ds, dn⟩ := d
    obtain rfl : dn = 0 := by simp at h; exact h
    clear hv h
    go_enter Tryz.func93, Tryz.ntmps93
    go_wp2_with fail
    go_quiet (fail)
    go_wp2
    go_ret
    exact ⟨by simp [hasM], ((Ext.refl _).alloc _).drewN _⟩
end Go.Proofs.YtdikcgmdmcfpfaaGreat
namespace Go.Proofs.YtdikcgmdmcfpfaaGreat
open Go.Sort

def insBy {α : Type} (lt : α → α → Bool) (x : α) : List α → List α
  | [] => [x]
  | a :: r => if lt a x then a :: insBy lt x r else x :: a :: r
def isort {α : Type} (lt : α → α → Bool) : List α → List α
  | [] => []
  | a :: r => insBy lt a (isort lt r)

section
variable {α : Type} {lt : α → α → Bool}
theorem insBy_perm (x : α) : ∀ l, (insBy lt x l).Perm (x :: l)
  | [] => .refl _
  | a :: r => by
    unfold insBy
    split
    · exact ((insBy_perm x r).cons a).trans (.swap x a r)
    · exact .refl _
theorem isort_perm : ∀ l : List α, (isort lt l).Perm l
  | [] => .refl _
  | a :: r => (insBy_perm a _).trans ((isort_perm r).cons a)
theorem insBy_sorted (hO : SWO lt) (x : α) : ∀ l : List α, l.Pairwise (fun a b => lt b a = false) → (insBy lt x l).Pairwise (fun a b => lt b a = false)
  | [], _ => by simp [insBy]
  | a :: r, h => by
    obtain ⟨h1, h2⟩ := List.pairwise_cons.1 h
    unfold insBy
    split
    · rename_i hax
      refine List.pairwise_cons.2 ⟨fun y hy => ?_, insBy_sorted hO x r h2⟩
      rcases List.mem_cons.1 ((insBy_perm x r).mem_iff.1 hy) with rfl | hy
      · cases hya : lt y a with
        | false => rfl
        | true => have := hO.trans _ _ _ hya hax; rw [hO.irrefl] at this; cases this
      · exact h1 y hy
    · rename_i hax
      have hax' : lt a x = false := by simpa using hax
      refine List.pairwise_cons.2 ⟨fun y hy => ?_, h⟩
      rcases List.mem_cons.1 hy with rfl | hy
      · exact hax'
      · exact hO.ntrans _ _ _ (h1 y hy) hax'
theorem isort_sorted (hO : SWO lt) : ∀ l : List α, (isort lt l).Pairwise (fun a b => lt b a = false)
  | [] => .nil
  | a :: r => insBy_sorted hO a _ (isort_sorted hO r)
theorem sorted_unique (anti : ∀ a b, lt a b = false → lt b a = false → a = b) : ∀ {l1 l2 : List α}, l1.Perm l2 → l1.Pairwise (fun a b => lt b a = false) → l2.Pairwise (fun a b => lt b a = false) → l1 = l2
  | [], l2, hp, _, _ => by rw [List.nil_perm.1 hp]
  | a :: r1, [], hp, _, _ => by simp at hp
  | a :: r1, b :: r2, hp, h1, h2 => by
    obtain ⟨ha, hr1⟩ := List.pairwise_cons.1 h1
    obtain ⟨hb, hr2⟩ := List.pairwise_cons.1 h2
    have hab : a = b := by
      rcases List.mem_cons.1 (hp.mem_iff.1 (List.mem_cons_self (a := a) (l := r1))) with h | h
      · exact h
      · rcases List.mem_cons.1 (hp.mem_iff.2 (List.mem_cons_self (a := b) (l := r2))) with h' | h'
        · exact h'.symm
        · exact anti a b (hb a h) (ha b h')
    subst hab
    rw [sorted_unique anti (List.Perm.cons_inv hp) hr1 hr2]
/-- what a sort leaves is the insertion sort's list -/
theorem sort_is (hO : SWO lt) (anti : ∀ a b, lt a b = false → lt b a = false → a = b) [Inhabited α] {l : List α} {d' : Array α} (hp : PermIn 0 l.toArray.size l.toArray d') (hs : SortedIn lt 0 l.toArray.size d') : d'.toList = isort lt l := by
  obtain ⟨h1, -, h3⟩ := hp
  have hsz : d'.size = l.length := by simpa using h1
  have h3' : d'.toList.Perm l := by
    have e : d'.extract 0 l.toArray.size = d' := by rw [← h1]; simp
    rw [e] at h3
    simpa using h3
  refine sorted_unique anti (h3'.trans (isort_perm l).symm) ?_ (isort_sorted hO l)
  rw [List.pairwise_iff_getElem]
  intro i j hi hj hij
  have := hs i j (Nat.zero_le _) hij (by simp at hj ⊢; omega)
  rw [getElem!_pos d' i (by simpa using hi), getElem!_pos d' j (by simpa using hj)] at this
  simpa using this
end

/-! ### the order of marks -/
def orI (a b : Int) : Int := if a ≠ 0 then a else b
/-- by path, then the greater number first -/
def cmpM (a b : Mark) : Int := orI (cmpS a.1 b.1) (cmpN b.2 a.2)
/-- by path, then by number -/
def cmpD (a b : Mark) : Int := orI (cmpS a.1 b.1) (cmpN a.2 b.2)
theorem cmpS_lt {a b : Str} : cmpS a b < 0 ↔ ltS a b = true := by
  unfold cmpS
  rcases str_cases a b with ⟨h1, h2, h3, h4, h5⟩ | rfl | ⟨h1, h2, h3, h4, h5⟩
  · simp [h1]
  · simp [ltS_irrefl]
  · simp [h1, h3]
theorem cmpS_eq {a b : Str} : cmpS a b = 0 ↔ a = b := by
  unfold cmpS
  rcases str_cases a b with ⟨h1, h2, h3, h4, h5⟩ | rfl | ⟨h1, h2, h3, h4, h5⟩
  · simp [h1, h5]
  · simp [ltS_irrefl]
  · simp [h1, h3, h5]
theorem cmpN_lt {a b : Nat} : cmpN a b < 0 ↔ a < b := by unfold cmpN; split <;> (try split) <;> omega
theorem cmpN_eq {a b : Nat} : cmpN a b = 0 ↔ a = b := by unfold cmpN; split <;> (try split) <;> omega
theorem cmpM_lt {a b : Mark} : ltOf cmpM a b = true ↔ ltS a.1 b.1 = true ∨ (a.1 = b.1 ∧ b.2 < a.2) := by
  unfold ltOf cmpM orI
  rw [decide_eq_true_eq]
  by_cases h : a.1 = b.1
  · rw [if_neg (by rw [cmpS_eq.2 h]; simp), cmpN_lt]
    simp [h, ltS_irrefl]
  · rw [if_pos (fun e => h (cmpS_eq.1 e)), cmpS_lt]
    simp [h]
theorem cmpD_lt {a b : Mark} : ltOf cmpD a b = true ↔ ltS a.1 b.1 = true ∨ (a.1 = b.1 ∧ a.2 < b.2) := by
  unfold ltOf cmpD orI
  rw [decide_eq_true_eq]
  by_cases h : a.1 = b.1
  · rw [if_neg (by rw [cmpS_eq.2 h]; simp), cmpN_lt]
    simp [h, ltS_irrefl]
  · rw [if_pos (fun e => h (cmpS_eq.1 e)), cmpS_lt]
    simp [h]
theorem cmpM_ge {a b : Mark} (h : ltOf cmpM a b = false) : ltS b.1 a.1 = true ∨ (a.1 = b.1 ∧ a.2 ≤ b.2) := by
  rcases ltS_tri a.1 b.1 with h1 | h1 | h1
  · rw [cmpM_lt.2 (.inl h1)] at h; cases h
  · refine .inr ⟨h1, ?_⟩
    rcases Nat.lt_or_ge b.2 a.2 with h2 | h2
    · rw [cmpM_lt.2 (.inr ⟨h1, h2⟩)] at h; cases h
    · exact h2
  · exact .inl h1
theorem cmpD_ge {a b : Mark} (h : ltOf cmpD a b = false) : ltS b.1 a.1 = true ∨ (a.1 = b.1 ∧ b.2 ≤ a.2) := by
  rcases ltS_tri a.1 b.1 with h1 | h1 | h1
  · rw [cmpD_lt.2 (.inl h1)] at h; cases h
  · refine .inr ⟨h1, ?_⟩
    rcases Nat.lt_or_ge a.2 b.2 with h2 | h2
    · rw [cmpD_lt.2 (.inr ⟨h1, h2⟩)] at h; cases h
    · exact h2
  · exact .inl h1
theorem bool_false_of {b : Bool} (h : b = true → False) : b = false := by cases b; rfl; exact (h rfl).elim
theorem cmpM_swo : SWO (ltOf cmpM) where
  irrefl x := bool_false_of fun h => by
    rcases cmpM_lt.1 h with h | ⟨-, h⟩
    · rw [ltS_irrefl] at h; cases h
    · omega
  trans x y z h1 h2 := by
    rw [cmpM_lt] at *
    rcases h1 with h1 | ⟨e1, h1⟩ <;> rcases h2 with h2 | ⟨e2, h2⟩
    · exact .inl (ltS_trans h1 h2)
    · exact .inl (e2 ▸ h1)
    · exact .inl (e1 ▸ h2)
    · exact .inr ⟨e1.trans e2, by omega⟩
  ntrans x y z h1 h2 := bool_false_of fun h => by
    rcases cmpM_ge h1 with h1 | ⟨e1, h1⟩ <;> rcases cmpM_ge h2 with h2 | ⟨e2, h2⟩ <;> rcases cmpM_lt.1 h with h | ⟨e, h⟩
    · have := ltS_trans (ltS_trans h2 h1) h; rw [ltS_irrefl] at this; cases this
    · have := ltS_trans h2 h1; rw [e, ltS_irrefl] at this; cases this
    · rw [← e2] at h; have := ltS_trans h1 h; rw [ltS_irrefl] at this; cases this
    · rw [e2, ← e, ltS_irrefl] at h1; cases h1
    · rw [e1] at h; have := ltS_trans h2 h; rw [ltS_irrefl] at this; cases this
    · rw [← e1, e, ltS_irrefl] at h2; cases h2
    · rw [e1, e2, ltS_irrefl] at h; cases h
    · omega
theorem cmpM_anti (a b : Mark) (h1 : ltOf cmpM a b = false) (h2 : ltOf cmpM b a = false) : a = b := by
  rcases cmpM_ge h1 with h1 | ⟨e1, h1⟩ <;> rcases cmpM_ge h2 with h2 | ⟨e2, h2⟩
  · have := ltS_trans h1 h2; rw [ltS_irrefl] at this; cases this
  · rw [e2, ltS_irrefl] at h1; cases h1
  · rw [e1, ltS_irrefl] at h2; cases h2
  · exact Prod.ext e1 (by omega)

def compactFrom : Mark → List Mark → List Mark
  | _, [] => []
  | last, m :: r => if m.1 == last.1 then compactFrom m r else m :: compactFrom m r
def compactM : List Mark → List Mark
  | [] => []
  | m :: r => m :: compactFrom m r
/-- a mark that is none -/
def noM (m : Mark) : Bool := m.1.isEmpty || m.2 == 0
/-- the marks that are some, rising, of several of one path the greatest -/
def tidyM (l : List Mark) : List Mark := compactM (isort (ltOf cmpM) (l.filter fun m => !noM m))
end Go.Proofs.YtdikcgmdmcfpfaaGreat
namespace Go.Proofs.YtdikcgmdmcfpfaaGreat
open Go.RowKit

theorem compactFrom_snoc : ∀ (l : List Mark) (a x m : Mark), compactFrom a (l ++ [x, m]) = compactFrom a (l ++ [x]) ++ (if m.1 == x.1 then [] else [m])
  | [], a, x, m => by
    simp only [List.nil_append, compactFrom]
    by_cases h1 : x.1 == a.1 <;> by_cases h2 : m.1 == x.1 <;> simp [h1, h2]
  | b :: l, a, x, m => by
    simp only [List.cons_append, compactFrom]
    have ih := compactFrom_snoc l b x m
    by_cases h1 : b.1 == a.1 <;> simp [h1, ih]
theorem compactM_snoc (q : List Mark) (x m : Mark) : compactM (q ++ [x] ++ [m]) = compactM (q ++ [x]) ++ (if m.1 == x.1 then [] else [m]) := by
  cases q with
  | nil => simp only [List.nil_append, List.cons_append, compactM, compactFrom]
  | cons a q => simpa [compactM] using compactFrom_snoc q a x m

set_option maxRecDepth 100000 in
set_option maxHeartbeats 400000 in
theorem tidy3_any (a b : Mark) (W : World) : Calls Tryz.prog 184 #[.agg #[St a.1, U a.2], .agg #[St b.1, U b.2]] W fun e w' => e = .returned (.bool (a.1 == b.1)) ∧ Ext W w' := by
  go_enter Tryz.func184, Tryz.ntmps184
  go_wp2
  go_ret
  exact ⟨rfl, ((Ext.refl _).alloc _).alloc _⟩

set_option maxRecDepth 100000 in
set_option maxHeartbeats 2000000 in
theorem compact_mark {v : Value} {l : List Mark} {w : World} {base : Nat} (hv : Own w base 25 2 v l.length (l.flatMap markC)) (hbase : base ≤ w.heap.size) :
    Calls Tryz.prog 183 #[v, .func (.func 184) #[] #[]] w fun e w' => ∃ v', e = .returned v' ∧ Own w' base 25 2 v' (compactM l).length ((compactM l).flatMap markC) ∧ Below base w w' := by
  by_cases hlt2 : l.length < 2
  · obtain ⟨A, c, rfl, -, -⟩ := hv.form
    have hc : compactM l = l := by
      match l, hlt2 with
      | [], _ => rfl
      | [m], _ => rfl
    have HV := Lib.hid hv
    have HC := Lib.hid hc
    have hq : (l.length : Int) < 2 := by omega
    clear hv hc
    go_enter Tryz.func183, Tryz.ntmps183
    go_wp2
    go_ret
    exact ⟨_, rfl, by rw [HC.out]; exact HV.out, Below.refl _ _⟩
  · obtain ⟨gb, cap, tail, rfl, hgb, hrow, hnc, hcm, hcl⟩ := hv.row (by omega)
    obtain ⟨a0, r0, hl0⟩ : ∃ a r, l = a :: r := by cases l with | nil => simp at hlt2 | cons a r => exact ⟨a, r, rfl⟩
    have HR := Lib.hid hrow
    have HCL := Lib.hid hcl
    have HL0 := Lib.hid hl0
    have hq : ¬ (l.length : Int) < 2 := by omega
    have HV := Lib.hid hv
    have HT := Lib.hid tidy3_any
    clear hrow hcl hv hl0
    go_enter Tryz.func183, Tryz.ntmps183
    go_wp2_with fail
    go_loopw [5] (fun i wr => ∃ (q post : List Mark) (la : Mark), l = q ++ la :: post ∧ i = I ((q.length : Int) + 1) ∧ compactM (q ++ [la]) = q ++ [la] ∧ Ext w wr) (fun i _ => l.length - (intOf i).toNat)
    case atStart => exact ⟨[], r0, a0, HL0.out, rfl, rfl, Ext.refl _⟩
    case round =>
      obtain ⟨q, post, la, hl, rfl, hcq, hb⟩ := hrel
      have hlen : l.length = q.length + 1 + post.length := by rw [hl]; simp; omega
      have hle : q.length + 1 ≤ l.length := by omega
      cases post with
      | cons m post =>
        have hlt : q.length + 1 < l.length := by simp at hlen; omega
        have hrow := HR.out.ext hb
        rw [hl] at hrow
        have hx := markC_at q (m :: post) la
        have hy := markC_at (q ++ [la]) post m
        rw [List.append_assoc, List.length_append] at hy
        have hd0 := hrow.cell hx.1
        have hd1 := hrow.cell hx.2
        have hd2 := hrow.cell hy.1
        have hd3 := hrow.cell hy.2
        simp only [List.length_cons, List.length_nil, Nat.zero_add] at hd2 hd3
        have HL := Lib.hid hl
        have HQ := Lib.hid hcq
        clear hl hcq hrow hx hy hlen
        have hw : IntKind.i64.wrap ((q.length : Int) + 1 - 1) = q.length := by
          rw [IntWalk.i64_in _ (by omega)]; omega
        have hw2 : IntKind.i64.wrap (q.length : Int) = q.length := IntWalk.i64_in _ (by omega)
        have k0 : (0 : Int) ≤ (q.length : Int) + 1 := by omega
        have k1 : (q.length : Int) + 1 < (l.length : Int) := by omega
        have k2 : (0 : Int) ≤ (q.length : Int) := by omega
        have k3 : (q.length : Int) < (l.length : Int) := by omega
        have k4 : ((q.length : Int) + 1).toNat = q.length + 1 := by omega
        go_wp2_with fail
        go_region_held3 (fun W => W.cell? ⟨gb, q.length * 2, none⟩ = some (St la.1) ∧ W.cell? ⟨gb, q.length * 2 + 1, none⟩ = some (U la.2) ∧ W.cell? ⟨gb, (q.length + 1) * 2, none⟩ = some (St m.1) ∧ W.cell? ⟨gb, (q.length + 1) * 2 + 1, none⟩ = some (U m.2) ∧ Ext wr W) (first | exact ⟨hd0, hd1, hd2, hd3, (Ext.refl _).drew⟩ | exact ⟨hb1.cell ‹_ ∧ _ ∧ _ ∧ _ ∧ Ext wr _›.1, hb1.cell ‹_ ∧ _ ∧ _ ∧ _ ∧ Ext wr _›.2.1, hb1.cell ‹_ ∧ _ ∧ _ ∧ _ ∧ Ext wr _›.2.2.1, hb1.cell ‹_ ∧ _ ∧ _ ∧ _ ∧ Ext wr _›.2.2.2.1, ‹_ ∧ _ ∧ _ ∧ _ ∧ Ext wr _›.2.2.2.2.trans hb1⟩) (first | (go_at_call 184; refine (HT.out m la _).mono ?_; rintro e w1 ⟨rfl, hb1⟩))
        have hx1 : Ext wr w1 := ‹_ ∧ _ ∧ _ ∧ _ ∧ Ext wr _›.2.2.2.2
        have hb2 : Ext w w1 := hb.trans hx1
        rename_i hheld
        clear hheld hd0 hd1 hd2 hd3
        cases hqm : m.1 == la.1
        · go_wp2
          go_roundw
          case rel => exact ⟨q ++ [la], post, m, by rw [HL.out]; simp, by simp, by rw [compactM_snoc, HQ.out, hqm]; rfl, hb2⟩
          case measure => simp [intOf]; omega
        · have hne : ¬ cap = q.length + 1 := by omega
          have hwk : RowIs w1 gb 25 (l.flatMap markC) tail := HR.out.ext hb2
          have HK := Lib.hid hwk
          clear hwk
          go_wp2_with fail
          go_loopw [5, 7] (fun i k wr => ∃ (p0 post kept junk : List Mark) (la : Mark) (j : Nat), l = p0 ++ la :: post ∧ i = I kept.length ∧ k = I ((j : Int) + 1) ∧ kept = compactM (p0 ++ [la]) ∧ kept.length + junk.length = p0.length ∧ p0.length = q.length + 1 + j ∧ RowIs wr gb 25 ((kept ++ junk ++ la :: post).flatMap markC) tail ∧ Below base w wr) (fun _ k _ => l.length - (intOf k).toNat)
          case atStart =>
            refine ⟨q ++ [la], post, q ++ [la], [], m, 0, by rw [HL.out]; simp, by simp, rfl, by rw [compactM_snoc, HQ.out, hqm]; simp, by simp, by simp, ?_, hb2.below hbase⟩
            have := HK.out
            rw [HL.out] at this
            simpa using this
          case round =>
            clear hb hx1 hb2 hb1 HL HQ HK hw hw2 k0 k1 k2 k3 k4
            obtain ⟨p0, post, kept, junk, la, j, hl, rfl, rfl, hk, hkj, hp0, hrow, hb⟩ := hrel
            have hlen : l.length = q.length + 1 + j + 1 + post.length := by rw [hl]; simp; omega
            cases post with
            | cons m post =>
              have hx := markC_at (kept ++ junk) (m :: post) la
              have hy := markC_at (kept ++ junk ++ [la]) post m
              rw [List.length_append, hkj, hp0] at hx
              rw [List.append_assoc, List.length_append, List.length_append, hkj, hp0] at hy
              have hd0 := hrow.cell hx.1
              have hd1 := hrow.cell hx.2
              have hd2 := hrow.cell hy.1
              have hd3 := hrow.cell hy.2
              simp only [List.length_cons, List.length_nil, Nat.zero_add] at hd2 hd3
              rw [show (q.length + 1 + j) * 2 = (q.length + 1) * 2 + j * 2 by omega] at hd0 hd1
              rw [show (q.length + 1 + j + 1) * 2 = (q.length + 1) * 2 + (j + 1) * 2 by omega] at hd2 hd3
              have hkl : kept.length < l.length := by omega
              have hjl : j + 1 < l.length - (q.length + 1) := by simp at hlen; omega
              have hw : IntKind.i64.wrap ((j : Int) + 1 - 1) = j := by
                rw [IntWalk.i64_in _ (by omega)]; omega
              have hw2 : IntKind.i64.wrap (j : Int) = j := IntWalk.i64_in _ (by omega)
              have k0 : (0 : Int) ≤ (j : Int) + 1 := by omega
              have k1 : (j : Int) + 1 < ((l.length - (q.length + 1) : Nat) : Int) := by omega
              have k2 : (0 : Int) ≤ (j : Int) := by omega
              have k3 : (j : Int) < ((l.length - (q.length + 1) : Nat) : Int) := by omega
              have k4 : ((j : Int) + 1).toNat = j + 1 := by omega
              have HL := Lib.hid hl
              have HK := Lib.hid hk
              have HKJ := Lib.hid hkj
              have HP0 := Lib.hid hp0
              have HRow := Lib.hid hrow
              clear hl hk hkj hp0 hrow hx hy hlen
              go_wp2_with fail
              go_region_held3 (fun W => W.cell? ⟨gb, (q.length + 1) * 2 + j * 2, none⟩ = some (St la.1) ∧ W.cell? ⟨gb, (q.length + 1) * 2 + j * 2 + 1, none⟩ = some (U la.2) ∧ W.cell? ⟨gb, (q.length + 1) * 2 + (j + 1) * 2, none⟩ = some (St m.1) ∧ W.cell? ⟨gb, (q.length + 1) * 2 + (j + 1) * 2 + 1, none⟩ = some (U m.2) ∧ Ext wr W) (first | exact ⟨hd0, hd1, hd2, hd3, (Ext.refl _).drew⟩ | exact ⟨hb1.cell ‹_ ∧ _ ∧ _ ∧ _ ∧ Ext wr _›.1, hb1.cell ‹_ ∧ _ ∧ _ ∧ _ ∧ Ext wr _›.2.1, hb1.cell ‹_ ∧ _ ∧ _ ∧ _ ∧ Ext wr _›.2.2.1, hb1.cell ‹_ ∧ _ ∧ _ ∧ _ ∧ Ext wr _›.2.2.2.1, ‹_ ∧ _ ∧ _ ∧ _ ∧ Ext wr _›.2.2.2.2.trans hb1⟩) (first | (go_at_call 184; refine (HT.out m la _).mono ?_; rintro e w2 ⟨rfl, hb1⟩))
              have hx2 : Ext wr w2 := ‹_ ∧ _ ∧ _ ∧ _ ∧ Ext wr _›.2.2.2.2
              have hm2 := ‹_ ∧ _ ∧ _ ∧ _ ∧ Ext wr _›.2.2.1
              have hm3 := ‹_ ∧ _ ∧ _ ∧ _ ∧ Ext wr _›.2.2.2.1
              have hb2 : Below base w w2 := Below.trans hb (hx2.below (Nat.le_trans hbase hb.size))
              have hrow2 := HRow.out.ext hx2
              rename_i hheld
              clear hheld hd0 hd1 hd2 hd3 hb1
              cases hqm2 : m.1 == la.1
              · obtain ⟨x, rest, hjx⟩ : ∃ x rest, junk ++ [la] = x :: rest := by cases junk with | nil => exact ⟨la, [], rfl⟩ | cons x r => exact ⟨x, r ++ [la], rfl⟩
                have hr3 : RowIs w2 gb 25 ((kept ++ x :: (rest ++ m :: post)).flatMap markC) tail := by
                  have e : kept ++ junk ++ la :: m :: post = kept ++ x :: (rest ++ m :: post) := by
                    rw [show kept ++ junk ++ la :: m :: post = kept ++ (junk ++ [la]) ++ (m :: post) by simp, hjx]; simp
                  rwa [e] at hrow2
                have hz := markC_at kept (rest ++ m :: post) x
                have hc0 := hr3.cell hz.1
                have hc1 := hr3.cell hz.2
                have hf0 := hr3.frozen (kept.length * 2)
                have hf1 := hr3.frozen (kept.length * 2 + 1)
                have HR3 := Lib.hid hr3
                have HJX := Lib.hid (congrArg List.length hjx)
                clear hr3 hrow2 hz hjx
                go_wp2
                go_roundw
                case rel =>
                  refine ⟨p0 ++ [la], post, kept ++ [m], rest, m, j + 1, by rw [HL.out]; simp, by simp, by simp, by rw [compactM_snoc, ← HK.out, hqm2]; rfl, ?_, ?_, ?_, ?_⟩
                  · have h1 := HKJ.out
                    have h2 := HJX.out
                    simp at h2 ⊢; omega
                  · have := HP0.out; simp; omega
                  · have := HR3.out.setMark m
                    simpa using this
                  · exact (hb2.setCell (by simp; omega) _).setCell (by simp; omega) _
                case measure => simp [intOf]; omega
              · go_wp2
                go_roundw
                case rel =>
                  refine ⟨p0 ++ [la], post, kept, junk ++ [la], m, j + 1, by rw [HL.out]; simp, by simp, by simp, by rw [compactM_snoc, ← HK.out, hqm2]; simp, ?_, ?_, by simpa using hrow2, hb2⟩
                  · have h1 := HKJ.out
                    simp; omega
                  · have := HP0.out; simp; omega
                case measure => simp [intOf]; omega
            | nil =>
              have hxl : ((kept ++ junk ++ [la]).flatMap markC).length = (kept.length + (l.length - kept.length)) * 2 := by
                rw [markC_len]; simp at hlen ⊢; omega
              have hkl : kept.length < l.length := by simp at hlen; omega
              have hjl : ¬ (j : Int) + 1 < ((l.length - (q.length + 1) : Nat) : Int) := by simp at hlen; omega
              obtain ⟨i, hi, hzero, -, -⟩ := info_parts info_mark
              obtain ⟨zs, hzl, hcl⟩ := run_clear_row (P := Tryz.prog) (t := 26) (o := kept.length) (n := l.length - kept.length) (c := cap - kept.length) Tryz.underlying26 hi hzero (k := 2) rfl (by intro u hu; simp [Value.cells] at hu; rcases hu with rfl | rfl <;> rfl) hrow (by omega) hxl 0
              rw [List.append_assoc kept junk [la], markC_take] at hcl
              have HRow := Lib.hid hrow
              have HZ := Lib.hid hzl
              have hne2 : ¬ cap = kept.length := by omega
              have HK := Lib.hid hk
              have HL := Lib.hid hl
              clear hkj hp0 hrow hxl hi hzero hzl hk hl hlen
              go_wp2_with fail
              go_ret
              rw [HL.out, ← HK.out]
              have hW := HRow.out.setRow (kept.flatMap markC ++ zs)
              rw [List.append_assoc] at hW
              refine ⟨_, rfl, hW.own hgb (by omega) hcm ?_ ?_ (markC_len _), ?_⟩
              · have h1 := HCL.out
                have h2 := HZ.out
                simp only [List.length_append, markC_len] at h1 ⊢
                omega
              · rw [← markC_len kept, List.take_left]
              · exact below_setRow hb hgb _
      | nil =>
        have hq2 : ¬ (q.length : Int) + 1 < (l.length : Int) := by simp at hlen; omega
        have HC : compactM l = l := by rw [hl]; exact hcq
        have HC' := Lib.hid HC
        clear hl hcq hlen HC
        go_wp2_with fail
        go_ret
        exact ⟨_, rfl, by rw [HC'.out]; exact HV.out.ext hb, hb.below hbase⟩
end Go.Proofs.YtdikcgmdmcfpfaaGreat
