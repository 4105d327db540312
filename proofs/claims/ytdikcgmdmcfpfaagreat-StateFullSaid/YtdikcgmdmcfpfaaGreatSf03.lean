/- Contracts of the functions that the statement goes through, with their plain words: Plain words on vectors: what tidy, join, covers, drop, set say of 'up to which number'. No program is walked here. slices.BinarySearchFunc at []api.Mark, by path: where the path stands, or would. Maps as lists of entries: made, read, written, deleted from. No program in sight. 'for k, v := range m' over a map whose entries are known: begun, one step, the entry. No program in sight. Map keys that are structs: a dot, a place (a text and a dot). Sets: maps whose values say nothing. Package bag: of: the dots of items, each with its text. Package bag: that: the places that stay, whatever predicate. maps.Copy at two sets of places; Put's and Take's predicate. -/
import Derived.Test.YtdikcgmdmcfpfaaGreatSf02
import Derived.MapKept
import Derived.Carry
import Derived.RangeFuncRecord
import Derived.Maps.Range
import Derived.Maps.RangeRun
import Derived.Laws.StructEq
import Derived.Shelf.Abstract
namespace Go.Proofs.YtdikcgmdmcfpfaaGreat
open Go.Sort

theorem ofM_foldl (s : Str) : ∀ (l : List Mark) (a x : Nat), l.foldl (fun n m => if m.1 == s && !s.isEmpty then max n m.2 else n) a ≤ x ↔ a ≤ x ∧ ∀ m ∈ l, m.1 = s → s ≠ [] → m.2 ≤ x
  | [], a, x => by simp
  | m :: r, a, x => by
    rw [List.foldl_cons, ofM_foldl s r]
    by_cases h : m.1 = s
    · by_cases h0 : s = []
      · subst h0; simp
      · have : (m.1 == s && !s.isEmpty) = true := by simp [h, h0]
        rw [this, if_pos rfl]
        constructor
        · rintro ⟨h1, h2⟩
          refine ⟨by omega, fun y hy => ?_⟩
          rcases List.mem_cons.1 hy with rfl | hy
          · exact fun _ _ => by omega
          · exact h2 y hy
        · rintro ⟨h1, h2⟩
          have := h2 m (by simp) h h0
          exact ⟨by omega, fun y hy => h2 y (by simp [hy])⟩
    · have : (m.1 == s && !s.isEmpty) = false := by simp [h]
      rw [this]
      simp [h]
/-- the one law of 'up to which number' -/
theorem ofM_le {l : List Mark} {s : Str} {x : Nat} : ofM l s ≤ x ↔ ∀ m ∈ l, m.1 = s → s ≠ [] → m.2 ≤ x := by
  unfold ofM
  rw [ofM_foldl]
  simp
theorem le_ofM {l : List Mark} {m : Mark} (h : m ∈ l) (h0 : m.1 ≠ []) : m.2 ≤ ofM l m.1 := ofM_le.1 (Nat.le_refl _) m h rfl h0
theorem ofM_ext {a b : List Mark} {s t : Str} (h : ∀ x, ofM a s ≤ x ↔ ofM b t ≤ x) : ofM a s = ofM b t := Nat.le_antisymm ((h _).2 (Nat.le_refl _)) ((h _).1 (Nat.le_refl _))
theorem ofM_nil (s : Str) : ofM [] s = 0 := rfl
theorem ofM_empty (l : List Mark) : ofM l [] = 0 := Nat.le_zero.1 (ofM_le.2 fun _ _ _ h => absurd rfl h)
theorem ofM_mem {l : List Mark} {s : Str} (h : ofM l s ≠ 0) : ∃ m ∈ l, m.1 = s ∧ s ≠ [] ∧ m.2 = ofM l s := by
  refine Classical.byContradiction fun hn => ?_
  have : ofM l s ≤ ofM l s - 1 := ofM_le.2 fun m hm h1 h2 => by
    have h3 : m.2 ≤ ofM l s := by subst h1; exact le_ofM hm h2
    have h4 : m.2 ≠ ofM l s := fun e => hn ⟨m, hm, h1, h2, e⟩
    omega
  omega
theorem ofM_congr {a b : List Mark} (h : ∀ m, m ∈ a ↔ m ∈ b) (s : Str) : ofM a s = ofM b s := ofM_ext fun x => by
  rw [ofM_le, ofM_le]
  exact ⟨fun k m hm => k m ((h m).2 hm), fun k m hm => k m ((h m).1 hm)⟩
theorem ofM_append (a b : List Mark) (s : Str) : ofM (a ++ b) s = max (ofM a s) (ofM b s) := by
  refine Nat.le_antisymm (ofM_le.2 fun m hm h1 h2 => ?_) (Nat.max_le.2 ⟨ofM_le.2 fun m hm h1 h2 => ?_, ofM_le.2 fun m hm h1 h2 => ?_⟩)
  · subst h1
    rcases List.mem_append.1 hm with h | h
    · exact Nat.le_trans (le_ofM h h2) (Nat.le_max_left _ _)
    · exact Nat.le_trans (le_ofM h h2) (Nat.le_max_right _ _)
  · subst h1; exact le_ofM (by simp [hm]) h2
  · subst h1; exact le_ofM (by simp [hm]) h2

/-- rising, by path -/
def SortedM (l : List Mark) : Prop := l.Pairwise fun a b => ltS a.1 b.1 = true
/-- rising, and each mark is some -/
def GoodM (l : List Mark) : Prop := SortedM l ∧ ∀ m ∈ l, m.1 ≠ [] ∧ 1 ≤ m.2

theorem SortedM.uniq {l : List Mark} (h : SortedM l) {a b : Mark} (ha : a ∈ l) (hb : b ∈ l) (e : a.1 = b.1) : a = b := by
  induction l with
  | nil => simp at ha
  | cons x r ih =>
    obtain ⟨h1, h2⟩ := List.pairwise_cons.1 h
    rcases List.mem_cons.1 ha with rfl | ha' <;> rcases List.mem_cons.1 hb with rfl | hb'
    · rfl
    · have := h1 b hb'; rw [e, ltS_irrefl] at this; cases this
    · have := h1 a ha'; rw [← e, ltS_irrefl] at this; cases this
    · exact ih h2 ha' hb'
theorem SortedM.of {l : List Mark} (h : SortedM l) {m : Mark} (hm : m ∈ l) (h0 : m.1 ≠ []) : ofM l m.1 = m.2 := by
  refine Nat.le_antisymm (ofM_le.2 fun y hy h1 _ => ?_) (le_ofM hm h0)
  rw [h.uniq hy hm h1]
  exact Nat.le_refl _
theorem SortedM.nodup {l : List Mark} (h : SortedM l) : l.Nodup := h.imp fun {a b} hab e => by subst e; rw [ltS_irrefl] at hab; cases hab
theorem GoodM.mem_iff {l : List Mark} (h : GoodM l) {m : Mark} : m ∈ l ↔ m.1 ≠ [] ∧ 1 ≤ m.2 ∧ ofM l m.1 = m.2 := by
  constructor
  · intro hm
    exact ⟨(h.2 m hm).1, (h.2 m hm).2, h.1.of hm (h.2 m hm).1⟩
  · rintro ⟨h1, h2, h3⟩
    obtain ⟨y, hy, e1, -, e2⟩ := ofM_mem (l := l) (s := m.1) (by omega)
    have : y = m := Prod.ext e1 (by omega)
    rwa [this] at hy
theorem sortedM_unique {a b : List Mark} (ha : SortedM a) (hb : SortedM b) (h : ∀ m, m ∈ a ↔ m ∈ b) : a = b := by
  have hp : a.Perm b := (List.perm_ext_iff_of_nodup ha.nodup hb.nodup).2 h
  have key : ∀ {l : List Mark}, SortedM l → l.Pairwise (fun x y => ltOf cmpM y x = false) := fun hl => hl.imp fun {x y} hxy => bool_false_of fun h => by
    rcases cmpM_lt.1 h with h | ⟨h, -⟩
    · have := ltS_trans hxy h; rw [ltS_irrefl] at this; cases this
    · rw [h, ltS_irrefl] at hxy; cases hxy
  exact sorted_unique cmpM_anti hp (key ha) (key hb)
/-- two such vectors that know the same are one -/
theorem GoodM.ext {a b : List Mark} (ha : GoodM a) (hb : GoodM b) (h : ∀ s, ofM a s = ofM b s) : a = b :=
  sortedM_unique ha.1 hb.1 fun m => by rw [ha.mem_iff, hb.mem_iff, h]

/-! ### tidy -/
theorem noM_false {m : Mark} : noM m = false ↔ m.1 ≠ [] ∧ 1 ≤ m.2 := by
  unfold noM
  obtain ⟨s, n⟩ := m
  cases s <;> simp <;> omega
theorem ofM_some (l : List Mark) (s : Str) : ofM (l.filter fun m => !noM m) s = ofM l s := ofM_ext fun x => by
  rw [ofM_le, ofM_le]
  constructor
  · intro h m hm h1 h2
    cases hn : noM m with
    | false => exact h m (List.mem_filter.2 ⟨hm, by simp [hn]⟩) h1 h2
    | true =>
      have : ¬ (m.1 ≠ [] ∧ 1 ≤ m.2) := fun k => by rw [noM_false.2 k] at hn; cases hn
      have h3 : m.1 ≠ [] := by rw [h1]; exact h2
      have : ¬ 1 ≤ m.2 := fun k => this ⟨h3, k⟩
      omega
  · exact fun h m hm => h m (List.mem_filter.1 hm).1
theorem compactFrom_path {a b : Mark} (h : a.1 = b.1) (l : List Mark) : compactFrom a l = compactFrom b l := by
  cases l with
  | nil => rfl
  | cons m r => unfold compactFrom; rw [h]
theorem compactFrom_mem : ∀ (l : List Mark) (a m : Mark), m ∈ compactFrom a l → m ∈ l
  | [], _, _, h => by simp [compactFrom] at h
  | b :: r, a, m, h => by
    unfold compactFrom at h
    split at h
    · exact List.mem_cons_of_mem _ (compactFrom_mem r b m h)
    · rcases List.mem_cons.1 h with rfl | h
      · simp
      · exact List.mem_cons_of_mem _ (compactFrom_mem r b m h)
theorem compactM_mem {l : List Mark} {m : Mark} (h : m ∈ compactM l) : m ∈ l := by
  cases l with
  | nil => exact h
  | cons a r =>
    rcases List.mem_cons.1 h with rfl | h
    · simp
    · exact List.mem_cons_of_mem _ (compactFrom_mem r a m h)
/-- each mark has one behind the compaction that is as great -/
theorem compactFrom_has : ∀ (l : List Mark) (a m : Mark), (a :: l).Pairwise (fun x y => ltOf cmpM y x = false) → m ∈ a :: l → ∃ y ∈ a :: compactFrom a l, y.1 = m.1 ∧ m.2 ≤ y.2
  | [], a, m, _, hm => ⟨a, by simp, by simp at hm; subst hm; exact ⟨rfl, Nat.le_refl _⟩⟩
  | b :: r, a, m, hp, hm => by
    obtain ⟨h1, h2⟩ := List.pairwise_cons.1 hp
    obtain ⟨h3, h4⟩ := List.pairwise_cons.1 h2
    unfold compactFrom
    by_cases hb : b.1 = a.1
    · have : (b.1 == a.1) = true := by simpa using hb
      rw [this, if_pos rfl, compactFrom_path hb]
      rcases List.mem_cons.1 hm with rfl | hm
      · exact ⟨_, by simp, rfl, Nat.le_refl _⟩
      · have ha : ltOf cmpM b a = false := h1 b (by simp)
        rcases List.mem_cons.1 hm with rfl | hm
        · refine ⟨a, by simp, hb.symm, ?_⟩
          rcases cmpM_ge ha with h | ⟨-, h⟩
          · rw [hb, ltS_irrefl] at h; cases h
          · exact h
        · exact compactFrom_has r a m (List.pairwise_cons.2 ⟨fun y hy => h1 y (by simp [hy]), h4⟩) (by simp [hm])
    · have : (b.1 == a.1) = false := by simpa using hb
      rw [this]
      simp only [Bool.false_eq_true, if_false]
      rcases List.mem_cons.1 hm with rfl | hm
      · exact ⟨_, by simp, rfl, Nat.le_refl _⟩
      · obtain ⟨y, hy, e⟩ := compactFrom_has r b m h2 hm
        exact ⟨y, by simp only [List.mem_cons] at hy ⊢; exact .inr hy, e⟩
theorem compactFrom_sorted : ∀ (l : List Mark) (a : Mark), (a :: l).Pairwise (fun x y => ltOf cmpM y x = false) → SortedM (a :: compactFrom a l)
  | [], a, _ => by simp [compactFrom, SortedM]
  | b :: r, a, hp => by
    obtain ⟨h1, h2⟩ := List.pairwise_cons.1 hp
    obtain ⟨h3, h4⟩ := List.pairwise_cons.1 h2
    unfold compactFrom
    by_cases hb : b.1 = a.1
    · have : (b.1 == a.1) = true := by simpa using hb
      rw [this, if_pos rfl, compactFrom_path hb]
      exact compactFrom_sorted r a (List.pairwise_cons.2 ⟨fun y hy => h1 y (by simp [hy]), h4⟩)
    · have : (b.1 == a.1) = false := by simpa using hb
      rw [this]
      simp only [Bool.false_eq_true, if_false]
      have ih := compactFrom_sorted r b h2
      have hab : ltS a.1 b.1 = true := by
        rcases cmpM_ge (h1 b (by simp)) with h | ⟨h, -⟩
        · exact h
        · exact absurd h hb
      refine List.pairwise_cons.2 ⟨fun y hy => ?_, ih⟩
      rcases List.mem_cons.1 hy with rfl | hy
      · exact hab
      · exact ltS_trans hab ((List.pairwise_cons.1 ih).1 y hy)
theorem compactM_sorted {l : List Mark} (hp : l.Pairwise (fun x y => ltOf cmpM y x = false)) : SortedM (compactM l) := by
  cases l with
  | nil => simp [compactM, SortedM]
  | cons a r => exact compactFrom_sorted r a hp
theorem ofM_compact {l : List Mark} (hp : l.Pairwise (fun x y => ltOf cmpM y x = false)) (s : Str) : ofM (compactM l) s = ofM l s := by
  refine Nat.le_antisymm (ofM_le.2 fun m hm h1 h2 => by subst h1; exact le_ofM (compactM_mem hm) h2) (ofM_le.2 fun m hm h1 h2 => ?_)
  cases l with
  | nil => simp at hm
  | cons a r =>
    obtain ⟨y, hy, e1, e2⟩ := compactFrom_has r a m hp hm
    refine Nat.le_trans e2 ?_
    rw [← h1, ← e1]
    exact le_ofM (l := compactM (a :: r)) hy (by rw [e1, h1]; exact h2)
theorem ofM_tidy (l : List Mark) (s : Str) : ofM (tidyM l) s = ofM l s := by
  unfold tidyM
  rw [ofM_compact (isort_sorted cmpM_swo _), ofM_congr (fun m => (isort_perm _).mem_iff), ofM_some]
theorem tidyM_good (l : List Mark) : GoodM (tidyM l) := by
  refine ⟨compactM_sorted (isort_sorted cmpM_swo _), fun m hm => ?_⟩
  have := (isort_perm _).mem_iff.1 (compactM_mem hm)
  have h2 := (List.mem_filter.1 this).2
  exact noM_false.1 (by simpa using h2)
theorem GoodM.tidy {l : List Mark} (h : GoodM l) : tidyM l = l := (tidyM_good l).ext h fun s => ofM_tidy l s

/-! ### pairs -/
theorem pairsL_mem (a b : List Mark) : ∀ p ∈ pairsL a b, (∃ m ∈ a, m.1 = p.1) ∨ (∃ m ∈ b, m.1 = p.1) := by
  fun_induction pairsL a b with
  | case1 => simp
  | case2 x r ih =>
    intro p hp
    rcases List.mem_cons.1 hp with rfl | hp
    · exact .inl ⟨x, by simp, rfl⟩
    · rcases ih p hp with ⟨m, hm, e⟩ | ⟨m, hm, e⟩
      · exact .inl ⟨m, by simp [hm], e⟩
      · simp at hm
  | case3 y s ih =>
    intro p hp
    rcases List.mem_cons.1 hp with rfl | hp
    · exact .inr ⟨y, by simp, rfl⟩
    · rcases ih p hp with ⟨m, hm, e⟩ | ⟨m, hm, e⟩
      · simp at hm
      · exact .inr ⟨m, by simp [hm], e⟩
  | case4 x r y s h ih =>
    intro p hp
    rcases List.mem_cons.1 hp with rfl | hp
    · exact .inr ⟨y, by simp, rfl⟩
    · rcases ih p hp with ⟨m, hm, e⟩ | ⟨m, hm, e⟩
      · exact .inl ⟨m, by simp [hm], e⟩
      · exact .inr ⟨m, by simp [hm], e⟩
  | case5 x r y s h h' ih =>
    intro p hp
    rcases List.mem_cons.1 hp with rfl | hp
    · exact .inl ⟨x, by simp, rfl⟩
    · rcases ih p hp with ⟨m, hm, e⟩ | ⟨m, hm, e⟩
      · exact .inl ⟨m, by simp [hm], e⟩
      · exact .inr ⟨m, hm, e⟩
  | case6 x r y s h h' ih =>
    intro p hp
    rcases List.mem_cons.1 hp with rfl | hp
    · exact .inr ⟨y, by simp, rfl⟩
    · rcases ih p hp with ⟨m, hm, e⟩ | ⟨m, hm, e⟩
      · exact .inl ⟨m, hm, e⟩
      · exact .inr ⟨m, by simp [hm], e⟩
theorem GoodM.tail {x : Mark} {r : List Mark} (h : GoodM (x :: r)) : GoodM r := ⟨(List.pairwise_cons.1 h.1).2, fun m hm => h.2 m (by simp [hm])⟩
theorem GoodM.head {x : Mark} {r : List Mark} (h : GoodM (x :: r)) : ∀ m ∈ r, ltS x.1 m.1 = true := (List.pairwise_cons.1 h.1).1
theorem goodM_nil : GoodM [] := ⟨.nil, by simp⟩
theorem ofM_cons_ne {x : Mark} {r : List Mark} {s : Str} (h : x.1 ≠ s) : ofM (x :: r) s = ofM r s := ofM_ext fun n => by
  rw [ofM_le, ofM_le]
  exact ⟨fun k m hm => k m (by simp [hm]), fun k m hm h1 h2 => by
    rcases List.mem_cons.1 hm with rfl | hm
    · exact absurd h1 h
    · exact k m hm h1 h2⟩
theorem ofM_none {l : List Mark} {s : Str} (h : ∀ m ∈ l, m.1 ≠ s) : ofM l s = 0 := Nat.le_zero.1 (ofM_le.2 fun m hm h1 _ => absurd h1 (h m hm))
theorem GoodM.of_head {x : Mark} {r : List Mark} (h : GoodM (x :: r)) : ofM (x :: r) x.1 = x.2 := h.1.of (by simp) (h.2 x (by simp)).1
theorem ne_of_ltS {a b : Str} (h : ltS a b = true) : b ≠ a := (ltS_ne h).symm

theorem pairsL_sorted (a b : List Mark) : GoodM a → GoodM b → (pairsL a b).Pairwise fun p q => ltS p.1 q.1 = true := by
  fun_induction pairsL a b with
  | case1 => exact fun _ _ => .nil
  | case2 x r ih =>
    intro ha hb
    refine List.pairwise_cons.2 ⟨fun p hp => ?_, ih ha.tail hb⟩
    rcases pairsL_mem _ _ p hp with ⟨m, hm, e⟩ | ⟨m, hm, e⟩
    · rw [← e]; exact ha.head m hm
    · simp at hm
  | case3 y s ih =>
    intro ha hb
    refine List.pairwise_cons.2 ⟨fun p hp => ?_, ih ha hb.tail⟩
    rcases pairsL_mem _ _ p hp with ⟨m, hm, e⟩ | ⟨m, hm, e⟩
    · simp at hm
    · rw [← e]; exact hb.head m hm
  | case4 x r y s h ih =>
    intro ha hb
    have h' : x.1 = y.1 := by simpa using h
    refine List.pairwise_cons.2 ⟨fun p hp => ?_, ih ha.tail hb.tail⟩
    rcases pairsL_mem _ _ p hp with ⟨m, hm, e⟩ | ⟨m, hm, e⟩
    · rw [← e]; show ltS y.1 m.1 = true; rw [← h']; exact ha.head m hm
    · rw [← e]; exact hb.head m hm
  | case5 x r y s h h' ih =>
    intro ha hb
    refine List.pairwise_cons.2 ⟨fun p hp => ?_, ih ha.tail hb⟩
    rcases pairsL_mem _ _ p hp with ⟨m, hm, e⟩ | ⟨m, hm, e⟩
    · rw [← e]; exact ha.head m hm
    · rw [← e]
      rcases List.mem_cons.1 hm with rfl | hm
      · exact h'
      · exact ltS_trans h' (hb.head m hm)
  | case6 x r y s h h' ih =>
    intro ha hb
    have hyx : ltS y.1 x.1 = true := by
      rcases ltS_tri x.1 y.1 with k | k | k
      · exact absurd k h'
      · exact absurd (by simpa using k) h
      · exact k
    refine List.pairwise_cons.2 ⟨fun p hp => ?_, ih ha hb.tail⟩
    rcases pairsL_mem _ _ p hp with ⟨m, hm, e⟩ | ⟨m, hm, e⟩
    · rw [← e]
      rcases List.mem_cons.1 hm with rfl | hm
      · exact hyx
      · exact ltS_trans hyx (ha.head m hm)
    · rw [← e]; exact hb.head m hm

theorem pairsL_val (a b : List Mark) : GoodM a → GoodM b → ∀ p ∈ pairsL a b, p.2.1 = ofM a p.1 ∧ p.2.2 = ofM b p.1 := by
  fun_induction pairsL a b with
  | case1 => intro _ _ p hp; simp at hp
  | case2 x r ih =>
    intro ha hb p hp
    have hs := pairsL_sorted (x :: r) [] ha hb
    rw [pairsL_cons_nil] at hs
    rcases List.mem_cons.1 hp with rfl | hp
    · exact ⟨ha.of_head.symm, (ofM_nil _).symm⟩
    · obtain ⟨e1, e2⟩ := ih ha.tail hb p hp
      rw [ofM_cons_ne (ltS_ne ((List.pairwise_cons.1 hs).1 p hp))]
      exact ⟨e1, e2⟩
  | case3 y s ih =>
    intro ha hb p hp
    have hs := pairsL_sorted [] (y :: s) ha hb
    rw [pairsL_nil_cons] at hs
    rcases List.mem_cons.1 hp with rfl | hp
    · exact ⟨(ofM_nil _).symm, hb.of_head.symm⟩
    · obtain ⟨e1, e2⟩ := ih ha hb.tail p hp
      rw [ofM_cons_ne (x := y) (ltS_ne ((List.pairwise_cons.1 hs).1 p hp))]
      exact ⟨e1, e2⟩
  | case4 x r y s h ih =>
    intro ha hb p hp
    obtain ⟨xs, xn⟩ := x
    obtain ⟨ys, yn⟩ := y
    have h' : xs = ys := by simpa using h
    subst h'
    have hs := pairsL_sorted ((xs, xn) :: r) ((xs, yn) :: s) ha hb
    rw [pairsL_eq] at hs
    rcases List.mem_cons.1 hp with rfl | hp
    · exact ⟨ha.of_head.symm, hb.of_head.symm⟩
    · obtain ⟨e1, e2⟩ := ih ha.tail hb.tail p hp
      have hne := ltS_ne ((List.pairwise_cons.1 hs).1 p hp)
      rw [ofM_cons_ne (x := (xs, xn)) hne, ofM_cons_ne (x := (xs, yn)) hne]
      exact ⟨e1, e2⟩
  | case5 x r y s h h' ih =>
    intro ha hb p hp
    have hs := pairsL_sorted (x :: r) (y :: s) ha hb
    rw [pairsL_lt r s (by simpa using h) h'] at hs
    rcases List.mem_cons.1 hp with rfl | hp
    · refine ⟨ha.of_head.symm, (ofM_none fun m hm => ?_).symm⟩
      rcases List.mem_cons.1 hm with rfl | hm
      · exact ne_of_ltS h'
      · exact ne_of_ltS (ltS_trans h' (hb.head m hm))
    · obtain ⟨e1, e2⟩ := ih ha.tail hb p hp
      rw [ofM_cons_ne (ltS_ne ((List.pairwise_cons.1 hs).1 p hp))]
      exact ⟨e1, e2⟩
  | case6 x r y s h h' ih =>
    intro ha hb p hp
    have hyx : ltS y.1 x.1 = true := by
      rcases ltS_tri x.1 y.1 with k | k | k
      · exact absurd k h'
      · exact absurd (by simpa using k) h
      · exact k
    have hs := pairsL_sorted (x :: r) (y :: s) ha hb
    rw [pairsL_gt r s (by simpa using h) (by simpa using h')] at hs
    rcases List.mem_cons.1 hp with rfl | hp
    · refine ⟨(ofM_none fun m hm => ?_).symm, hb.of_head.symm⟩
      rcases List.mem_cons.1 hm with rfl | hm
      · exact ne_of_ltS hyx
      · exact ne_of_ltS (ltS_trans hyx (ha.head m hm))
    · obtain ⟨e1, e2⟩ := ih ha hb.tail p hp
      rw [ofM_cons_ne (x := y) (ltS_ne ((List.pairwise_cons.1 hs).1 p hp))]
      exact ⟨e1, e2⟩

theorem pairsL_has (a b : List Mark) (s : Str) : (∃ m ∈ a, m.1 = s) ∨ (∃ m ∈ b, m.1 = s) → ∃ p ∈ pairsL a b, p.1 = s := by
  fun_induction pairsL a b with
  | case1 => simp
  | case2 x r ih =>
    rintro (⟨m, hm, e⟩ | ⟨m, hm, e⟩)
    · rcases List.mem_cons.1 hm with rfl | hm
      · exact ⟨_, List.mem_cons_self, e⟩
      · obtain ⟨p, hp, e'⟩ := ih (.inl ⟨m, hm, e⟩)
        exact ⟨p, by simp only [List.mem_cons]; exact .inr hp, e'⟩
    · simp at hm
  | case3 y s' ih =>
    rintro (⟨m, hm, e⟩ | ⟨m, hm, e⟩)
    · simp at hm
    · rcases List.mem_cons.1 hm with rfl | hm
      · exact ⟨_, List.mem_cons_self, e⟩
      · obtain ⟨p, hp, e'⟩ := ih (.inr ⟨m, hm, e⟩)
        exact ⟨p, by simp only [List.mem_cons]; exact .inr hp, e'⟩
  | case4 x r y s' h ih =>
    have h' : x.1 = y.1 := by simpa using h
    rintro (⟨m, hm, e⟩ | ⟨m, hm, e⟩)
    · rcases List.mem_cons.1 hm with rfl | hm
      · exact ⟨_, List.mem_cons_self, h'.symm.trans e⟩
      · obtain ⟨p, hp, e'⟩ := ih (.inl ⟨m, hm, e⟩)
        exact ⟨p, by simp only [List.mem_cons]; exact .inr hp, e'⟩
    · rcases List.mem_cons.1 hm with rfl | hm
      · exact ⟨_, List.mem_cons_self, e⟩
      · obtain ⟨p, hp, e'⟩ := ih (.inr ⟨m, hm, e⟩)
        exact ⟨p, by simp only [List.mem_cons]; exact .inr hp, e'⟩
  | case5 x r y s' h h' ih =>
    rintro (⟨m, hm, e⟩ | ⟨m, hm, e⟩)
    · rcases List.mem_cons.1 hm with rfl | hm
      · exact ⟨_, List.mem_cons_self, e⟩
      · obtain ⟨p, hp, e'⟩ := ih (.inl ⟨m, hm, e⟩)
        exact ⟨p, by simp only [List.mem_cons]; exact .inr hp, e'⟩
    · obtain ⟨p, hp, e'⟩ := ih (.inr ⟨m, hm, e⟩)
      exact ⟨p, by simp only [List.mem_cons]; exact .inr hp, e'⟩
  | case6 x r y s' h h' ih =>
    rintro (⟨m, hm, e⟩ | ⟨m, hm, e⟩)
    · obtain ⟨p, hp, e'⟩ := ih (.inl ⟨m, hm, e⟩)
      exact ⟨p, by simp only [List.mem_cons]; exact .inr hp, e'⟩
    · rcases List.mem_cons.1 hm with rfl | hm
      · exact ⟨_, List.mem_cons_self, e⟩
      · obtain ⟨p, hp, e'⟩ := ih (.inr ⟨m, hm, e⟩)
        exact ⟨p, by simp only [List.mem_cons]; exact .inr hp, e'⟩

/-! ### join, covers, drop, set -/
theorem joinM_good (a b : List Mark) : GoodM (joinM a b) := by
  have ga := tidyM_good a
  have gb := tidyM_good b
  refine ⟨?_, fun m hm => ?_⟩
  · unfold joinM SortedM
    rw [List.pairwise_map]
    exact pairsL_sorted _ _ ga gb
  · unfold joinM at hm
    obtain ⟨p, hp, rfl⟩ := List.mem_map.1 hm
    obtain ⟨e1, e2⟩ := pairsL_val _ _ ga gb p hp
    rcases pairsL_mem _ _ p hp with ⟨m, hm, e⟩ | ⟨m, hm, e⟩
    · have h1 := ga.2 m hm
      have h2 := ga.1.of hm h1.1
      rw [e] at h1 h2
      exact ⟨h1.1, by show 1 ≤ max p.2.1 p.2.2; rw [e1, h2]; omega⟩
    · have h1 := gb.2 m hm
      have h2 := gb.1.of hm h1.1
      rw [e] at h1 h2
      exact ⟨h1.1, by show 1 ≤ max p.2.1 p.2.2; rw [e2, h2]; omega⟩
theorem ofM_join (a b : List Mark) (s : Str) : ofM (joinM a b) s = max (ofM a s) (ofM b s) := by
  have ga := tidyM_good a
  have gb := tidyM_good b
  rw [← ofM_tidy a, ← ofM_tidy b]
  by_cases h0 : s = []
  · subst h0; rw [ofM_empty, ofM_empty, ofM_empty]; rfl
  by_cases h : (∃ m ∈ tidyM a, m.1 = s) ∨ (∃ m ∈ tidyM b, m.1 = s)
  · obtain ⟨p, hp, e⟩ := pairsL_has _ _ s h
    obtain ⟨e1, e2⟩ := pairsL_val _ _ ga gb p hp
    have hm : (p.1, max p.2.1 p.2.2) ∈ joinM a b := List.mem_map.2 ⟨p, hp, rfl⟩
    have := (joinM_good a b).1.of hm (by rw [e]; exact h0)
    rw [e] at this e1 e2
    rw [this, e1, e2]
  · have h1 : ∀ m ∈ tidyM a, m.1 ≠ s := fun m hm e => h (.inl ⟨m, hm, e⟩)
    have h2 : ∀ m ∈ tidyM b, m.1 ≠ s := fun m hm e => h (.inr ⟨m, hm, e⟩)
    rw [ofM_none h1, ofM_none h2]
    refine ofM_none fun m hm e => ?_
    unfold joinM at hm
    obtain ⟨p, hp, rfl⟩ := List.mem_map.1 hm
    rcases pairsL_mem _ _ p hp with ⟨m, hm, e'⟩ | ⟨m, hm, e'⟩
    · exact h1 m hm (e'.trans e)
    · exact h2 m hm (e'.trans e)
theorem coversM_iff {a b : List Mark} : coversM a b = true ↔ ∀ s, ofM b s ≤ ofM a s := by
  have ga := tidyM_good a
  have gb := tidyM_good b
  unfold coversM
  rw [List.all_eq_true]
  constructor
  · intro h s
    rw [← ofM_tidy a, ← ofM_tidy b]
    by_cases h0 : ofM (tidyM b) s = 0
    · omega
    · obtain ⟨m, hm, e, -, e'⟩ := ofM_mem h0
      obtain ⟨p, hp, e2⟩ := pairsL_has (tidyM a) (tidyM b) s (.inr ⟨m, hm, e⟩)
      obtain ⟨e3, e4⟩ := pairsL_val _ _ ga gb p hp
      have := h p hp
      simp at this
      rw [e2] at e3 e4
      omega
  · intro h p hp
    obtain ⟨e3, e4⟩ := pairsL_val _ _ ga gb p hp
    have := h p.1
    rw [← ofM_tidy a, ← ofM_tidy b] at this
    simp
    omega
theorem coversM_false {a b : List Mark} : coversM a b = false ↔ ∃ s, ofM a s < ofM b s := by
  cases h : coversM a b with
  | true => simp; exact coversM_iff.1 h
  | false =>
    simp only [true_iff]
    refine Classical.byContradiction fun hn => ?_
    have : coversM a b = true := coversM_iff.2 fun s => Nat.le_of_not_lt fun k => hn ⟨s, k⟩
    rw [h] at this; cases this
theorem dropM_good (l : List Mark) (s : Str) : GoodM (dropM l s) := by
  have h := tidyM_good l
  exact ⟨h.1.sublist List.filter_sublist, fun m hm => h.2 m (List.mem_filter.1 hm).1⟩
theorem ofM_drop (l : List Mark) (s t : Str) : ofM (dropM l s) t = if t = s then 0 else ofM l t := by
  rw [← ofM_tidy l]
  unfold dropM
  split
  · rename_i h
    subst h
    exact ofM_none fun m hm e => by
      have := (List.mem_filter.1 hm).2
      simp [e] at this
  · rename_i h
    refine ofM_ext fun x => ?_
    rw [ofM_le, ofM_le]
    constructor
    · intro k m hm h1 h2
      exact k m (List.mem_filter.2 ⟨hm, by simp [h1, h]⟩) h1 h2
    · exact fun k m hm => k m (List.mem_filter.1 hm).1
theorem setM_good (l : List Mark) (s : Str) (n : Nat) : GoodM (setM l s n) := joinM_good _ _
theorem ofM_one (s : Str) (n : Nat) (t : Str) : ofM [(s, n)] t = if t = s ∧ s ≠ [] then n else 0 := by
  unfold ofM
  by_cases h : t = s
  · subst h
    by_cases h0 : t = []
    · subst h0; simp
    · simp [h0]
  · have : s ≠ t := fun e => h e.symm
    simp [this, h]
theorem ofM_set (l : List Mark) (s : Str) (n : Nat) (t : Str) : ofM (setM l s n) t = if t = s then (if s = [] then 0 else n) else ofM l t := by
  unfold setM
  rw [ofM_join, ofM_drop, ofM_one]
  by_cases h : t = s
  · by_cases h0 : s = [] <;> simp [h, h0]
  · simp [h]

/-! ### vectors that may be -/
theorem mayFrom_good : ∀ (l : List Mark) (last : Str), mayFrom last l = true ↔ (∀ m ∈ l, ltS last m.1 = true) ∧ SortedM l ∧ ∀ m ∈ l, 1 ≤ m.2 ∧ m.2 ≤ 281474976710656
  | [], _ => by simp [mayFrom, SortedM]
  | m :: r, last => by
    have hle : (leS m.1 last = false) ↔ ltS last m.1 = true := by
      unfold leS
      rcases str_cases m.1 last with ⟨q1, q2, q3, q4, q5⟩ | q | ⟨q1, q2, q3, q4, q5⟩
      · simp only [ltS] at *; simp [q1, q2]
      · have := ltS_irrefl last; simp only [ltS] at *; simp [q, this]
      · simp only [ltS] at *; simp [q1, q2, q5]
    simp only [mayFrom, Bool.and_eq_true, Bool.not_eq_true', decide_eq_true_eq, mayFrom_good r m.1, hle]
    constructor
    · rintro ⟨⟨⟨h1, h2⟩, h3⟩, h4, h5, h6⟩
      refine ⟨fun y hy => ?_, List.pairwise_cons.2 ⟨h4, h5⟩, fun y hy => ?_⟩
      · rcases List.mem_cons.1 hy with rfl | hy
        · exact h1
        · exact ltS_trans h1 (h4 y hy)
      · rcases List.mem_cons.1 hy with rfl | hy
        · exact ⟨h2, h3⟩
        · exact h6 y hy
    · rintro ⟨h1, h2, h3⟩
      obtain ⟨k1, k2⟩ := List.pairwise_cons.1 h2
      exact ⟨⟨⟨h1 m (by simp), (h3 m (by simp)).1⟩, (h3 m (by simp)).2⟩, k1, k2, fun y hy => h3 y (by simp [hy])⟩
theorem mayM_iff {l : List Mark} : mayM l = true ↔ l.length ≤ 512 ∧ GoodM l ∧ ∀ m ∈ l, m.2 ≤ 281474976710656 := by
  unfold mayM
  rw [Bool.and_eq_true, decide_eq_true_eq, mayFrom_good]
  constructor
  · rintro ⟨h0, h1, h2, h3⟩
    exact ⟨h0, ⟨h2, fun m hm => ⟨fun e => (by have := h1 m hm; rw [e, ltS_nil] at this; cases this), (h3 m hm).1⟩⟩, fun m hm => (h3 m hm).2⟩
  · rintro ⟨h0, ⟨h1, h2⟩, h3⟩
    exact ⟨h0, fun m hm => nil_ltS (h2 m hm).1, h1, fun m hm => ⟨(h2 m hm).2, h3 m hm⟩⟩
theorem joinM_nil {l : List Mark} (h : GoodM l) : joinM l [] = l := (joinM_good _ _).ext h fun s => by rw [ofM_join, ofM_nil]; omega
theorem joinM_nil_tidy (l : List Mark) : joinM l [] = tidyM l := (joinM_good _ _).ext (tidyM_good _) fun s => by rw [ofM_join, ofM_nil, ofM_tidy]; omega
theorem joinM_comm (a b : List Mark) : joinM a b = joinM b a := (joinM_good _ _).ext (joinM_good _ _) fun s => by rw [ofM_join, ofM_join]; omega
theorem joinM_assoc (a b c : List Mark) : joinM (joinM a b) c = joinM a (joinM b c) := (joinM_good _ _).ext (joinM_good _ _) fun s => by simp only [ofM_join]; omega
end Go.Proofs.YtdikcgmdmcfpfaaGreat
namespace Go.Proofs.YtdikcgmdmcfpfaaGreat
open Go.RowKit Go.Shelf

set_option maxRecDepth 100000 in
set_option maxHeartbeats 400000 in
theorem knows11_any (m : Mark) (s : Str) (W : World) : Calls Tryz.prog 232 #[.agg #[St m.1, U m.2], St s] W fun e w' => e = .returned (I (cmpS m.1 s)) ∧ Ext W w' := by
  have H1 := Lib.hid scmp_any
  go_enter Tryz.func232, Tryz.ntmps232
  go_wp2_with fail
  refine (H1.out _ _ _).mono ?_
  rintro e w' ⟨rfl, rfl⟩
  go_wp2
  go_ret
  exact ⟨rfl, (Ext.refl _).alloc _⟩

/-- all ahead of i are less, none from j on is -/
def Cut (l : List Str) (s : Str) (i j : Nat) : Prop := (∀ k x, k < i → l[k]? = some x → ltS x s = true) ∧ (∀ k x, j ≤ k → l[k]? = some x → ltS x s = false)
theorem cmpS_lt_dec {a s : Str} : (decide (cmpS a s < 0) = true) ↔ ltS a s = true := by rw [decide_eq_true_eq, cmpS_lt]
/-- rising strings -/
def RiseS (l : List Str) : Prop := l.Pairwise fun a b => ltS a b = true
theorem RiseS.lt {l : List Str} (h : RiseS l) {i j : Nat} {x y : Str} (hij : i < j) (hx : l[i]? = some x) (hy : l[j]? = some y) : ltS x y = true := by
  obtain ⟨h1, rfl⟩ := List.getElem?_eq_some_iff.1 hx
  obtain ⟨h2, rfl⟩ := List.getElem?_eq_some_iff.1 hy
  exact List.pairwise_iff_getElem.1 h i j h1 h2 hij
theorem Cut.left {l : List Str} {s x : Str} {i j h : Nat} (hR : RiseS l) (hc : Cut l s i j) (hx : l[h]? = some x) (hlt : ltS x s = true) : Cut l s (h + 1) j := by
  refine ⟨fun k y hk hy => ?_, hc.2⟩
  rcases Nat.lt_or_ge k h with h1 | h1
  · exact ltS_trans (hR.lt h1 hy hx) hlt
  · obtain rfl : k = h := by omega
    rw [hx] at hy; cases hy; exact hlt
theorem Cut.right {l : List Str} {s x : Str} {i j h : Nat} (hR : RiseS l) (hc : Cut l s i j) (hx : l[h]? = some x) (hlt : ltS x s = false) : Cut l s i h := by
  refine ⟨hc.1, fun k y hk hy => bool_false_of fun hy2 => ?_⟩
  rcases Nat.lt_or_ge h k with h1 | h1
  · rw [ltS_trans (hR.lt h1 hx hy) hy2] at hlt; cases hlt
  · obtain rfl : k = h := by omega
    rw [hx] at hy; cases hy; rw [hlt] at hy2; cases hy2
theorem riseS_map {l : List Mark} (h : SortedM l) : RiseS (l.map (·.1)) := by unfold RiseS; rw [List.pairwise_map]; exact h
/-- what a search of a rising list tells -/
def Found (l : List Str) (s : Str) (i : Nat) (is : Bool) : Prop := i ≤ l.length ∧ Cut l s i i ∧ is = (l[i]? == some s)
theorem Found.yes {l : List Str} {s : Str} {i : Nat} (h : Found l s i true) : l[i]? = some s := by have := h.2.2; simpa using this.symm
theorem Found.no {l : List Str} {s : Str} {i : Nat} (hR : RiseS l) (h : Found l s i false) : s ∉ l := fun hs => by
  obtain ⟨k, hk⟩ := List.getElem?_of_mem hs
  rcases Nat.lt_trichotomy k i with h1 | h1 | h1
  · have := h.2.1.1 k s h1 hk; rw [ltS_irrefl] at this; cases this
  · subst h1
    have := h.2.2
    rw [hk] at this
    simp at this
  · have hil : i < l.length := Nat.lt_trans h1 (List.getElem?_eq_some_iff.1 hk).1
    have hx : l[i]? = some l[i] := List.getElem?_eq_getElem hil
    have h2 := h.2.1.2 i _ (Nat.le_refl _) hx
    rw [hR.lt h1 hx hk] at h2
    cases h2

theorem half_wrap {i j : Nat} (h : i + j ≤ 9223372036854775807) : IntKind.i64.wrap ((i : Int) + j) = ((i + j : Nat) : Int) := IntWalk.i64_in _ (by omega)

set_option maxRecDepth 100000 in
set_option maxHeartbeats 1000000 in
theorem bsearch_mark {S : Nat → Prop} {v : Value} {l : List Mark} {w : World} (s : Str) (hv : Sl markT w S v l) (hR : SortedM l) (hl40 : l.length ≤ 1099511627776) :
    Calls Tryz.prog 231 #[v, St s, .func (.func 232) #[] #[]] w fun e w' =>
      ∃ (i : Nat) (is : Bool), e = .returned (.tuple #[I i, .bool is]) ∧ Found (l.map (·.1)) s i is ∧ Ext w w' := by
  have hv' := hv
  obtain ⟨A, c, rfl, h1, h2⟩ := hv.form
  have eg : ∀ args w, (callFunc 232 args).run Tryz.prog w = .ok (.enter 232 args) w := enters_of Tryz.func232 (by kernel_rfl) rfl
  have HK := Lib.hid knows11_any
  have HR := Lib.hid (riseS_map hR)
  have HAT := Lib.hid (fun (k : Nat) (m : Mark) (wr : World) (h : Ext w wr) (hm : l[k]? = some m) => by
    have hlt := (List.getElem?_eq_some_iff.1 hm).1
    have hs : l = l.take k ++ m :: l.drop (k + 1) := by
      have e := (List.getElem?_eq_some_iff.1 hm).2
      rw [← e, List.getElem_cons_drop, List.take_append_drop]
    have := mark_at hv' h hs
    rwa [show (l.take k).length = k by simp; omega] at this)
  clear hv hv' hR
  go_enter Tryz.func231, Tryz.ntmps231
  go_wp2_with fail
  go_loopw [9, 10] (fun a b wr => ∃ i j : Nat, a = I i ∧ b = I j ∧ i ≤ j ∧ j ≤ l.length ∧ Hid (Cut (l.map (·.1)) s i j) ∧ Ext w wr) (fun a b _ => (intOf b).toNat - (intOf a).toNat)
  case atStart => exact ⟨0, l.length, rfl, rfl, Nat.zero_le _, Nat.le_refl _, Lib.hid ⟨fun k x hk => by omega, fun k x hk hx => by have := (List.getElem?_eq_some_iff.1 hx).1; simp at this; omega⟩, Ext.refl _⟩
  case round =>
    obtain ⟨i, j, rfl, rfl, hij, hjn, hcut, hx⟩ := hrel
    by_cases hlt : i < j
    · obtain ⟨h, hh⟩ : ∃ h, (i + j) / 2 = h := ⟨_, rfl⟩
      have hh1 : i ≤ h := by omega
      have hh2 : h < j := by omega
      have hhl : h < l.length := by omega
      obtain ⟨m, hm⟩ : ∃ m, l[h]? = some m := ⟨_, List.getElem?_eq_getElem hhl⟩
      obtain ⟨b, o, rfl, hd0, hd1⟩ := HAT.out h m wr hx hm
      have HD := Lib.hid (HK.out m s wr)
      have HM := Lib.hid hm
      have HX := Lib.hid hx
      clear hm hx
      have hsum : IntKind.i64.wrap ((i : Int) + j) = (i : Int) + j := IntWalk.i64_in _ (by omega)
      have hmid : ∀ n : Int, n = (i + j) / 2 → n = h := fun n hn => by omega
      have HMID := Lib.hid hmid
      clear hmid
      have hx' : (l.map (·.1))[h]? = some m.1 := by rw [List.getElem?_map, HM.out]; rfl
      have HX' := Lib.hid hx'
      clear hx'
      cases hq : ltS m.1 s
      · have hneg : ¬ cmpS m.1 s < 0 := fun k => by rw [cmpS_lt.1 k] at hq; cases hq
        have HQ := Lib.hid hq
        clear hq
        go_wp2_with fail
        refine HD.out.mono ?_
        rintro e w2 ⟨rfl, hx2⟩
        go_wp2_with fail
        go_roundw
        case rel => exact ⟨i, h, rfl, congrArg (Value.int .i64) (HMID.out _ rfl), hh1, by omega, Lib.hid (Cut.right HR.out hcut.out HX'.out HQ.out), HX.out.trans hx2⟩
        case measure => simp only [intOf]; omega
      · have hneg : cmpS m.1 s < 0 := cmpS_lt.2 hq
        have HQ := Lib.hid hq
        clear hq
        go_wp2_with fail
        refine HD.out.mono ?_
        rintro e w2 ⟨rfl, hx2⟩
        go_wp2_with fail
        go_roundw
        case rel => exact ⟨h + 1, j, congrArg (Value.int .i64) (by have := HMID.out _ rfl; omega), rfl, by omega, hjn, Lib.hid (Cut.left HR.out hcut.out HX'.out HQ.out), HX.out.trans hx2⟩
        case measure => simp only [intOf]; omega
    · obtain rfl : i = j := by omega
      have HX := Lib.hid hx
      clear hx
      by_cases hin : i < l.length
      · obtain ⟨m, hm⟩ : ∃ m, l[i]? = some m := ⟨_, List.getElem?_eq_getElem hin⟩
        obtain ⟨b, o, rfl, hd0, hd1⟩ := HAT.out i m wr HX.out hm
        have HD := Lib.hid (HK.out m s wr)
        have hx' : (l.map (·.1))[i]? = some m.1 := by rw [List.getElem?_map, hm]; rfl
        have HX' := Lib.hid hx'
        clear hx' hm
        by_cases he : m.1 = s
        · have h0 : cmpS m.1 s = 0 := cmpS_eq.2 he
          have HE := Lib.hid he
          have H0 := Lib.hid h0
          clear he h0
          go_wp2_with fail
          refine HD.out.mono ?_
          rintro e w2 ⟨rfl, hx2⟩
          rw [H0.out]
          go_wp2_with fail
          go_ret2
          exact ⟨i, true, rfl, ⟨by simpa using Nat.le_of_lt hin, hcut.out, by rw [HX'.out, HE.out]; simp⟩, HX.out.trans hx2⟩
        · have h0 : (cmpS m.1 s == 0) = false := by rw [beq_eq_false_iff_ne]; exact fun k => he (cmpS_eq.1 k)
          have HE := Lib.hid he
          clear he
          go_wp2_with fail
          refine HD.out.mono ?_
          rintro e w2 ⟨rfl, hx2⟩
          go_wp2_with fail
          go_ret2
          exact ⟨i, false, rfl, ⟨by simpa using Nat.le_of_lt hin, hcut.out, by rw [HX'.out]; simp [HE.out]⟩, HX.out.trans hx2⟩
      · go_wp2_with fail
        go_ret2
        exact ⟨i, false, rfl, ⟨by simpa using hjn, hcut.out, by rw [List.getElem?_eq_none (by simp; omega)]; simp⟩, HX.out⟩
end Go.Proofs.YtdikcgmdmcfpfaaGreat
set_option linter.unusedSectionVars false
namespace Go.Proofs.YtdikcgmdmcfpfaaGreat
open Go.RowKit

/-- block b is a map whose entries are L, in the order in which they came -/
def MapIs {κ ν : Type} (K : κ → Value) (V : ν → Value) (w : World) (b : Nat) (L : List (κ × ν)) : Prop :=
  ∃ es clock, w.heap[b]? = some (.map es clock) ∧ es.toList.map (fun e => (e.key, e.val)) = L.map (fun p => (K p.1, V p.2)) ∧ (L.map Prod.fst).Nodup ∧ (∀ e ∈ es.toList, e.born < clock) ∧ (es.toList.map (·.born)).Nodup

section
variable {κ ν : Type} [DecidableEq κ] {K : κ → Value} {V : ν → Value} {w w' : World} {b : Nat} {L : List (κ × ν)}

def getL (z : ν) (L : List (κ × ν)) (k : κ) : ν := (L.lookup k).getD z
def putL (L : List (κ × ν)) (k : κ) (v : ν) : List (κ × ν) := if k ∈ L.map Prod.fst then L.map (fun p => if p.1 = k then (k, v) else p) else L ++ [(k, v)]
def delL (L : List (κ × ν)) (k : κ) : List (κ × ν) := L.filter fun p => decide (p.1 ≠ k)

theorem MapIs.lt (h : MapIs K V w b L) : b < w.heap.size := by obtain ⟨_, _, h, _⟩ := h; exact (Array.getElem?_eq_some_iff.1 h).1
theorem MapIs.keep (h : MapIs K V w b L) (hs : w'.heap[b]? = w.heap[b]?) : MapIs K V w' b L := by
  obtain ⟨es, c, h1, h2⟩ := h
  exact ⟨es, c, hs.trans h1, h2⟩
theorem MapIs.ext (h : MapIs K V w b L) (he : Ext w w') : MapIs K V w' b L := h.keep (he.block b h.lt)
theorem MapIs.new (w : World) : MapIs K V (w.alloc (.map #[] 0)) w.heap.size ([] : List (κ × ν)) :=
  ⟨#[], 0, Go.heap_alloc_new w _, rfl, by simp, by simp, by simp⟩
theorem MapIs.nodup (h : MapIs K V w b L) : (L.map Prod.fst).Nodup := by obtain ⟨_, _, _, _, h, _⟩ := h; exact h

/-- what is asked of a type of keys -/
structure KeyOk (P : Program) (kt : TypeId) (K : κ → Value) : Prop where
  check : ∀ e x w, (Instr.checkKey e 10000 kt (K x)).run P w = .ok () w
  find : ∀ x (es : List MapEntry) (ks : List κ) w, es.map (·.key) = ks.map K → (Instr.findKey kt (K x) es).run P w = .ok ((ks.findIdx? (fun y => decide (y = x))).bind fun i => (es[i]?).map fun e => (i, e.val)) w
  same : ∀ x, Instr.sameBits 10000 (K x) (K x) = true

omit [DecidableEq κ] in
theorem find_idx (L : List (κ × ν)) [DecidableEq κ] (x : κ) : ((L.map Prod.fst).findIdx? (fun y => decide (y = x))) = L.findIdx? (fun p => decide (p.1 = x)) := by
  rw [List.findIdx?_map]; rfl

theorem bytes_mk_beq (a b : Str) : ((⟨a.toArray⟩ : ByteArray) == ⟨b.toArray⟩) = decide (b = a) := by
  by_cases h : b = a
  · subst h; rw [decide_eq_true rfl]; exact (MapKept.bytes_beq _ _).2 rfl
  · rw [decide_eq_false h]
    cases hb : ((⟨a.toArray⟩ : ByteArray) == ⟨b.toArray⟩) with
    | false => rfl
    | true =>
      have := (MapKept.bytes_beq _ _).1 hb
      injection this with e
      have e' := congrArg Array.toList e
      exact absurd e'.symm h

theorem findNow_str (x : Str) : ∀ (es : List MapEntry) (ks : List Str) (i : Nat), es.map (·.key) = ks.map St →
    Instr.findNow .string (St x) es i = some ((ks.findIdx? (fun y => decide (y = x))).bind fun j => (es[j]?).map fun e => (i + j, e.val))
  | [], [], _, _ => rfl
  | [], _ :: _, _, h => by simp at h
  | _ :: _, [], _, h => by simp at h
  | e :: es, k :: ks, i, h => by
    simp only [List.map_cons, List.cons.injEq] at h
    obtain ⟨h1, h2⟩ := h
    unfold Instr.findNow
    rw [h1]
    simp only [Instr.sameNow, bytes_mk_beq]
    by_cases hk : k = x
    · subst hk
      simp [List.findIdx?_cons]
    · simp only [findNow_str x es ks (i + 1) h2, List.findIdx?_cons, hk, decide_false, Bool.false_eq_true, if_false]
      cases hf : ks.findIdx? (fun y => decide (y = x)) with
      | none => rfl
      | some j =>
        simp only [Option.bind_some, Option.map_some, List.getElem?_cons_succ, Option.some.injEq]
        congr 1
        funext e
        simp
        omega

theorem keyOk_str {P : Program} {kt : TypeId} (hk : P.underlying kt = some .string) : KeyOk P kt St where
  check e x w := by
    unfold Instr.checkKey
    simp [run_underlying hk]
  find x es ks w h := by
    refine Go.MapKept.run_findKey hk ?_
    rw [findNow_str x es ks 0 h]
    simp
  same x := by
    unfold Instr.sameBits
    simp [bytes_mk_beq]

/-! ### the four operations -/
theorem lookup_of_idx {L : List (κ × ν)} {k : κ} : L.lookup k = (L.findIdx? (fun p => decide (p.1 = k))).bind fun i => (L[i]?).map Prod.snd := by
  induction L with
  | nil => rfl
  | cons p r ih =>
    obtain ⟨a, v⟩ := p
    by_cases h : a = k
    · subst h; simp [List.lookup_cons, List.findIdx?_cons]
    · have h' : (k == a) = false := by rw [beq_eq_false_iff_ne]; exact fun e => h e.symm
      rw [List.lookup_cons, h', List.findIdx?_cons]
      simp only [h, decide_false, Bool.false_eq_true, if_false, ih]
      cases r.findIdx? (fun p => decide (p.1 = k)) <;> simp

theorem MapIs.find {P : Program} {kt : TypeId} (KO : KeyOk P kt K) {es : Array MapEntry} (h : es.toList.map (fun e => (e.key, e.val)) = L.map (fun p => (K p.1, V p.2))) (k : κ) (w : World) :
    (Instr.findKey kt (K k) es.toList).run P w = .ok ((L.findIdx? (fun p => decide (p.1 = k))).bind fun i => (L[i]?).map fun p => (i, V p.2)) w := by
  have h1 : es.toList.map (·.key) = (L.map Prod.fst).map K := by
    have := congrArg (List.map Prod.fst) h
    rw [List.map_map, List.map_map] at this
    rw [List.map_map]
    exact this
  rw [KO.find k es.toList (L.map Prod.fst) w h1, find_idx]
  congr 1
  cases hf : L.findIdx? (fun p => decide (p.1 = k)) with
  | none => rfl
  | some i =>
    simp only [Option.bind_some]
    have := congrArg (fun l => l[i]?) h
    simp only [List.getElem?_map] at this
    cases he : es.toList[i]? with
    | none =>
      rw [he] at this
      cases hl : L[i]? with
      | none => rfl
      | some p => rw [hl] at this; simp at this
    | some e =>
      rw [he] at this
      cases hl : L[i]? with
      | none => rw [hl] at this; simp at this
      | some p => rw [hl] at this; simp at this; simp [this.2]

theorem run_lookup_MapIs {P : Program} {t kt et : TypeId} (ht : P.underlying t = some (.map kt et)) (KO : KeyOk P kt K) {z : ν} (hz : ∀ w, (zeroValue et).run P w = .ok (V z) w) (h : MapIs K V w b L) (k : κ) :
    (Instr.lookup t (.map (some b)) (K k) false).run P w = .ok (V (getL z L k)) w ∧ (Instr.lookup t (.map (some b)) (K k) true).run P w = .ok (.tuple #[V (getL z L k), .bool (decide (k ∈ L.map Prod.fst))]) w := by
  obtain ⟨es, c, h1, h2, h3, -⟩ := h
  have hf := MapIs.find KO h2 k w
  have hg : (getObj b).run P w = .ok (.map es c) w := MapKept.run_getObj_map h1
  have hmem : decide (k ∈ L.map Prod.fst) = (L.findIdx? (fun p => decide (p.1 = k))).isSome := by
    rw [List.findIdx?_isSome]
    by_cases hk : k ∈ L.map Prod.fst
    · rw [decide_eq_true hk]
      obtain ⟨p, hp, rfl⟩ := List.mem_map.1 hk
      symm
      rw [List.any_eq_true]
      exact ⟨p, hp, by simp⟩
    · rw [decide_eq_false hk]
      symm
      rw [List.any_eq_false]
      intro p hp
      simp
      intro e
      exact hk (List.mem_map.2 ⟨p, hp, e⟩)
  rw [hmem]
  unfold getL
  rw [lookup_of_idx]
  cases hi : L.findIdx? (fun p => decide (p.1 = k)) with
  | none =>
    rw [hi] at hf
    simp only [Option.bind_none] at hf
    constructor <;> simp [Instr.lookup, run_underlying ht, hg, KO.check, hf, hz]
  | some i =>
    rw [hi] at hf
    have hil : i < L.length := by
      have := List.findIdx?_eq_some_iff_getElem.1 hi
      exact this.1
    simp only [Option.bind_some, List.getElem?_eq_getElem hil, Option.map_some] at hf
    constructor <;> simp [Instr.lookup, run_underlying ht, hg, KO.check, hf, List.getElem?_eq_getElem hil]

theorem mem_idx {k : κ} : (k ∈ L.map Prod.fst) ↔ (L.findIdx? (fun p => decide (p.1 = k))).isSome = true := by
  rw [List.findIdx?_isSome, List.any_eq_true]
  constructor
  · intro hk
    obtain ⟨p, hp, rfl⟩ := List.mem_map.1 hk
    exact ⟨p, hp, by simp⟩
  · rintro ⟨p, hp, e⟩
    exact List.mem_map.2 ⟨p, hp, by simpa using e⟩

theorem putL_keys (L : List (κ × ν)) (k : κ) (v : ν) : (putL L k v).map Prod.fst = if k ∈ L.map Prod.fst then L.map Prod.fst else L.map Prod.fst ++ [k] := by
  unfold putL
  split
  · rw [List.map_map]
    apply List.map_congr_left
    intro p _
    simp only [Function.comp]
    split
    · rename_i h; exact h.symm
    · rfl
  · simp
theorem putL_nodup (h : (L.map Prod.fst).Nodup) (k : κ) (v : ν) : ((putL L k v).map Prod.fst).Nodup := by
  rw [putL_keys]
  split
  · exact h
  · rename_i hk
    rw [List.nodup_append]
    exact ⟨h, by simp, fun a ha b hb => by simp at hb; subst hb; rintro rfl; exact hk ha⟩

/-- one map has turned: all else lies as it lay -/
structure Turned (w w' : World) (b : Nat) : Prop where
  os : w'.os = w.os
  tape : w'.tape = w.tape
  output : w'.output = w.output
  size : w'.heap.size = w.heap.size
  other : ∀ j, j ≠ b → w'.heap[j]? = w.heap[j]?
theorem Turned.put (w : World) (b : Nat) (o : Obj) : Turned w (w.putObj b o) b := ⟨rfl, rfl, rfl, World.putObj_size, fun _ h => World.putObj_heap_other h⟩
theorem Ext.turned {w0 : World} (h : Ext w0 w) (t : Turned w w' b) (hb : w0.heap.size ≤ b) : Ext w0 w' :=
  ⟨t.os.trans h.os, t.tape.trans h.tape, t.output.trans h.output, by rw [t.size]; exact h.size, fun k hk => (t.other k (by omega)).trans (h.block k hk)⟩
theorem Turned.cell (t : Turned w w' b) {c o : Nat} {v : Value} (h : w.cell? ⟨c, o, none⟩ = some v) (hc : c ≠ b) : w'.cell? ⟨c, o, none⟩ = some v :=
  (World.cell?_of_block (a := ⟨c, o, none⟩) (t.other c hc)).trans h
theorem MapIs.turned {κ' ν' : Type} [DecidableEq κ'] {K' : κ' → Value} {V' : ν' → Value} {b' : Nat} {L' : List (κ' × ν')} (h : MapIs K' V' w b' L') (t : Turned w w' b) (hb : b' ≠ b) : MapIs K' V' w' b' L' := h.keep (t.other b' hb)

theorem nodup_idx {l : List κ} (h : l.Nodup) {i j : Nat} {x : κ} (hi : l[i]? = some x) (hj : l[j]? = some x) : i = j := by
  obtain ⟨hi1, hi2⟩ := List.getElem?_eq_some_iff.1 hi
  obtain ⟨hj1, hj2⟩ := List.getElem?_eq_some_iff.1 hj
  have hp := List.pairwise_iff_getElem.1 h
  rcases Nat.lt_trichotomy i j with h1 | h1 | h1
  · exact absurd (hi2.trans hj2.symm) (hp i j hi1 hj1 h1)
  · exact h1
  · exact absurd (hj2.trans hi2.symm) (hp j i hj1 hi1 h1)
omit [DecidableEq κ] in
theorem modify_born (es : Array MapEntry) (i : Nat) (k v : Value) : (es.modify i fun e => { e with key := k, val := v }).toList.map (·.born) = es.toList.map (·.born) := by
  apply List.ext_getElem?
  intro j
  simp only [List.getElem?_map, Array.getElem?_toList, Array.getElem?_modify]
  split
  · cases es[j]? <;> rfl
  · rfl

theorem run_update_obj {P : Program} {t kt et : TypeId} (ht : P.underlying t = some (.map kt et)) (KO : KeyOk P kt K) (h : MapIs K V w b L) (k : κ) (v : ν) :
    ∃ o, ∀ W : World, W.heap[b]? = w.heap[b]? → (Instr.mapUpdate t (.map (some b)) (K k) (V v)).run P W = .ok () (W.putObj b o) ∧ MapIs K V (W.putObj b o) b (putL L k v) := by
  obtain ⟨es, c, h1, h2, h3, h4, h5⟩ := h
  have hf := fun W => MapIs.find (P := P) KO h2 k W
  have hg : ∀ W : World, W.heap[b]? = w.heap[b]? → (getObj b).run P W = .ok (.map es c) W := fun W hW => MapKept.run_getObj_map (hW.trans h1)
  have hset : ∀ W : World, W.heap[b]? = w.heap[b]? → ∀ o, (setObj b o).run P W = .ok () (W.putObj b o) := fun W hW o => MapKept.run_setObj_map o (hW.trans h1)
  have hlen : es.size = L.length := by
    have := congrArg List.length h2
    simpa using this
  have hbW : ∀ W : World, W.heap[b]? = w.heap[b]? → b < W.heap.size := fun W hW => (Array.getElem?_eq_some_iff.1 (hW.trans h1)).1
  cases hi : L.findIdx? (fun p => decide (p.1 = k)) with
  | none =>
    rw [hi] at hf
    simp only [Option.bind_none] at hf
    have hk : k ∉ L.map Prod.fst := fun hk => by rw [mem_idx, hi] at hk; cases hk
    refine ⟨.map (es.push { key := K k, val := V v, born := c }) (c + 1), fun W hW => ⟨?_, es.push { key := K k, val := V v, born := c }, c + 1, World.putObj_heap_same (hbW W hW), ?_, putL_nodup h3 k v, ?_, ?_⟩⟩
    · simp [Instr.mapUpdate, run_underlying ht, hg W hW, KO.check, hf, hset W hW]
    · unfold putL
      rw [if_neg hk, Array.toList_push, List.map_append, h2, List.map_append]
      rfl
    · intro e he
      rw [Array.toList_push, List.mem_append] at he
      rcases he with he | he
      · exact Nat.lt_succ_of_lt (h4 e he)
      · simp at he; subst he; exact Nat.lt_succ_self _
    · rw [Array.toList_push, List.map_append, List.nodup_append]
      refine ⟨h5, by simp, fun x hx y hy => ?_⟩
      simp at hy
      subst hy
      obtain ⟨e, he, rfl⟩ := List.mem_map.1 hx
      have := h4 e he
      omega
  | some i =>
    rw [hi] at hf
    obtain ⟨hil, hik, -⟩ := List.findIdx?_eq_some_iff_getElem.1 hi
    have hik' : (L[i]'hil).1 = k := by simpa using hik
    have hk : k ∈ L.map Prod.fst := List.mem_map.2 ⟨L[i], List.getElem_mem hil, hik'⟩
    simp only [Option.bind_some, List.getElem?_eq_getElem hil, Option.map_some] at hf
    have hie : i < es.size := by omega
    have hkey : (es[i]'hie).key = K k := by
      have := congrArg (fun l => l[i]?) h2
      simp only [List.getElem?_map, List.getElem?_eq_getElem hil, Option.map_some] at this
      rw [List.getElem?_eq_getElem (by simpa using hie)] at this
      simp at this
      rw [this.1, hik']
    refine ⟨.map (es.modify i fun e => { e with key := K k, val := V v }) c, fun W hW => ⟨?_, es.modify i fun e => { e with key := K k, val := V v }, c, World.putObj_heap_same (hbW W hW), ?_, putL_nodup h3 k v, ?_, ?_⟩⟩
    · simp [Instr.mapUpdate, run_underlying ht, hg W hW, KO.check, hf, hset W hW, Instr.keyThatStays, hie, hkey, KO.same]
    · unfold putL
      rw [if_pos hk]
      apply List.ext_getElem?
      intro j
      have hj := congrArg (fun l => l[j]?) h2
      simp only [List.getElem?_map, Array.getElem?_toList] at hj ⊢
      rw [Array.getElem?_modify]
      by_cases hij : i = j
      · subst hij
        simp [hie, hil, hik']
      · rw [if_neg hij, hj]
        cases hl : L[j]? with
        | none => rfl
        | some p =>
          have hjl := (List.getElem?_eq_some_iff.1 hl).1
          have hne : p.1 ≠ k := fun e => by
            exact hij (nodup_idx h3 (x := k) (by simp only [List.getElem?_map, List.getElem?_eq_getElem hil, Option.map_some, hik']) (by simp only [List.getElem?_map, hl, Option.map_some, e]))
          simp [hne]
    · intro e he
      have hm : e.born ∈ (es.modify i fun e => { e with key := K k, val := V v }).toList.map (·.born) := List.mem_map.2 ⟨e, he, rfl⟩
      rw [modify_born] at hm
      obtain ⟨e', he', hb'⟩ := List.mem_map.1 hm
      rw [← hb']
      exact h4 e' he'
    · rw [modify_born]
      exact h5

theorem run_update_MapIs {P : Program} {t kt et : TypeId} (ht : P.underlying t = some (.map kt et)) (KO : KeyOk P kt K) (h : MapIs K V w b L) (k : κ) (v : ν) :
    ∃ w', (Instr.mapUpdate t (.map (some b)) (K k) (V v)).run P w = .ok () w' ∧ MapIs K V w' b (putL L k v) ∧ Turned w w' b := by
  obtain ⟨o, ho⟩ := run_update_obj ht KO h k v
  exact ⟨_, (ho w rfl).1, (ho w rfl).2, Turned.put _ _ _⟩

theorem map_erase {α β : Type} (f : α → β) (l : List α) (i : Nat) : (l.eraseIdx i).map f = (l.map f).eraseIdx i := by
  rw [List.eraseIdx_eq_take_drop_succ, List.eraseIdx_eq_take_drop_succ, List.map_append, List.map_take, List.map_drop]

theorem run_delete_MapIs {P : Program} {t kt et : TypeId} (ty : TypeId) (ht : P.underlying t = some (.map kt et)) (KO : KeyOk P kt K) (h : MapIs K V w b L) (k : κ) :
    ∃ w', (Builtin.delete_ #[t, kt] ty #[.map (some b), K k]).run P w = .ok (.tuple #[]) w' ∧ MapIs K V w' b (delL L k) ∧ Turned w w' b := by
  obtain ⟨es, c, h1, h2, h3, h4, h5⟩ := h
  have hf := MapIs.find KO h2 k w
  have hg : (getObj b).run P w = .ok (.map es c) w := MapKept.run_getObj_map h1
  have hset : ∀ o, (setObj b o).run P w = .ok () (w.putObj b o) := fun o => MapKept.run_setObj_map o h1
  have hlen : es.size = L.length := by
    have := congrArg List.length h2
    simpa using this
  have hb : b < w.heap.size := (Array.getElem?_eq_some_iff.1 h1).1
  have hnd : ((delL L k).map Prod.fst).Nodup := h3.sublist ((List.filter_sublist (l := L)).map _)
  cases hi : L.findIdx? (fun p => decide (p.1 = k)) with
  | none =>
    rw [hi] at hf
    simp only [Option.bind_none] at hf
    have hk : k ∉ L.map Prod.fst := fun hk => by rw [mem_idx, hi] at hk; cases hk
    have hd : delL L k = L := List.filter_eq_self.2 fun p hp => by
      simp only [decide_eq_true_eq]
      rintro rfl
      exact hk (List.mem_map.2 ⟨p, hp, rfl⟩)
    refine ⟨w.putObj b (.map es c), ?_, ⟨es, c, World.putObj_heap_same hb, by rw [hd]; exact h2, hnd, h4, h5⟩, Turned.put _ _ _⟩
    simp [Builtin.delete_, run_underlying ht, hg, KO.check, hf, hset]
  | some i =>
    rw [hi] at hf
    obtain ⟨hil, hik, -⟩ := List.findIdx?_eq_some_iff_getElem.1 hi
    have hik' : (L[i]'hil).1 = k := by simpa using hik
    simp only [Option.bind_some, List.getElem?_eq_getElem hil, Option.map_some] at hf
    have hie : i < es.size := by omega
    have hd : delL L k = L.eraseIdx i := by
      have hsplit : L = L.take i ++ L[i] :: L.drop (i + 1) := by rw [List.getElem_cons_drop, List.take_append_drop]
      have hn : ∀ p ∈ L.take i ++ L.drop (i + 1), p.1 ≠ k := by
        intro p hp e
        rw [hsplit, List.map_append, List.map_cons, List.nodup_append] at h3
        obtain ⟨-, h32, h33⟩ := h3
        rcases List.mem_append.1 hp with hp | hp
        · exact h33 p.1 (List.mem_map.2 ⟨p, hp, rfl⟩) k (by rw [hik']; simp) e
        · rw [List.nodup_cons] at h32
          exact h32.1 (by rw [hik', ← e]; exact List.mem_map.2 ⟨p, hp, rfl⟩)
      rw [List.eraseIdx_eq_take_drop_succ]
      conv => lhs; rw [hsplit]
      unfold delL
      rw [List.filter_append, List.filter_cons_of_neg (by simp [hik']), ← List.filter_append]
      exact List.filter_eq_self.2 fun p hp => by simpa using hn p hp
    refine ⟨w.putObj b (.map (es.eraseIdxIfInBounds i) c), ?_, ⟨es.eraseIdxIfInBounds i, c, World.putObj_heap_same hb, ?_, hnd, ?_, ?_⟩, Turned.put _ _ _⟩
    · simp [Builtin.delete_, run_underlying ht, hg, KO.check, hf, hset]
    all_goals rw [Array.eraseIdxIfInBounds_eq, dif_pos hie, Array.toList_eraseIdx]
    · rw [hd, map_erase, h2, map_erase]
    · exact fun e he => h4 e (List.mem_of_mem_eraseIdx he)
    · rw [map_erase]
      exact h5.sublist (List.eraseIdx_sublist _ _)
end
end Go.Proofs.YtdikcgmdmcfpfaaGreat
set_option linter.unusedSectionVars false
namespace Go.Proofs.YtdikcgmdmcfpfaaGreat
open Go.RowKit Go.ChangeMaps

section
variable {κ ν : Type} [DecidableEq κ] {K : κ → Value} {V : ν → Value} {w w' : World} {b r : Nat} {L rest : List (κ × ν)} {P : Program}

/-- block r is an iterator over the map b, whose entries are L; rest is still to come -/
def RangeIs (K : κ → Value) (V : ν → Value) (w : World) (b r : Nat) (L rest : List (κ × ν)) : Prop :=
  ∃ es clock seen, w.heap[b]? = some (.map es clock) ∧ es.toList.map (fun e => (e.key, e.val)) = L.map (fun p => (K p.1, V p.2)) ∧ (L.map Prod.fst).Nodup ∧ (∀ e ∈ es.toList, e.born < clock) ∧ (es.toList.map (·.born)).Nodup ∧
    w.heap[r]? = some (.mapIter (some b) clock seen clock) ∧ (leftOf es seen).toList.map (fun e => (e.key, e.val)) = rest.map (fun p => (K p.1, V p.2))

theorem RangeIs.map (h : RangeIs K V w b r L rest) : MapIs K V w b L := by
  obtain ⟨es, c, s, h1, h2, h3, h4, h5, h6, h7⟩ := h
  exact ⟨es, c, h1, h2, h3, h4, h5⟩
theorem RangeIs.lt (h : RangeIs K V w b r L rest) : r < w.heap.size := by
  obtain ⟨es, c, s, h1, h2, h3, h4, h5, h6, h7⟩ := h
  exact (Array.getElem?_eq_some_iff.1 h6).1
theorem RangeIs.keep (h : RangeIs K V w b r L rest) (hb : w'.heap[b]? = w.heap[b]?) (hr : w'.heap[r]? = w.heap[r]?) : RangeIs K V w' b r L rest := by
  obtain ⟨es, c, s, h1, h2, h3, h4, h5, h6, h7⟩ := h
  exact ⟨es, c, s, hb.trans h1, h2, h3, h4, h5, hr.trans h6, h7⟩
theorem RangeIs.ext (h : RangeIs K V w b r L rest) (he : Ext w w') : RangeIs K V w' b r L rest := h.keep (he.block b h.map.lt) (he.block r h.lt)
theorem RangeIs.left_eq (h : RangeIs K V w b r L rest) : w.rangeLeft b r = rest.length := by
  obtain ⟨es, c, s, h1, h2, h3, h4, h5, h6, h7⟩ := h
  simp only [World.rangeLeft, h1, h6]
  have := congrArg List.length h7
  simpa using this

theorem run_range_MapIs {t kt et : TypeId} (ht : P.underlying t = some (.map kt et)) (h : MapIs K V w b L) :
    ∃ w', (Instr.range t (.map (some b))).run P w = .ok (.pointer (some ⟨w.heap.size, 0, none⟩)) w' ∧ RangeIs K V w' b w.heap.size L L ∧ Ext w w' ∧ w'.heap.size = w.heap.size + 1 := by
  obtain ⟨es, c, h1, h2, h3, h4, h5⟩ := h
  have hlt := (Array.getElem?_eq_some_iff.1 h1).1
  refine ⟨_, run_range_map w t kt et b es c ht h1, ⟨es, c, #[], (Go.heap_alloc_old w _ hlt).trans h1, h2, h3, h4, h5, Go.heap_alloc_new w _, ?_⟩, (Ext.refl w).alloc _, by simp⟩
  have : (leftOf es #[]) = es := by unfold leftOf; exact Array.filter_eq_self.2 (by simp)
  rw [this]
  exact h2

theorem left_push (es : Array MapEntry) (seen : Array Nat) (e : MapEntry) (hn : (es.toList.map (·.born)).Nodup) (he : e ∈ (leftOf es seen).toList) :
    ∃ l1 l2, (leftOf es seen).toList = l1 ++ e :: l2 ∧ (leftOf es (seen.push e.born)).toList = l1 ++ l2 := by
  have hL : (leftOf es (seen.push e.born)).toList = (leftOf es seen).toList.filter fun x => decide (x.born ≠ e.born) := by
    unfold leftOf
    rw [Array.toList_filter, Array.toList_filter, List.filter_filter]
    apply List.filter_congr
    intro x _
    rw [Array.contains_push]
    by_cases hx : x.born = e.born
    · simp [hx]
    · have : (x.born == e.born) = false := by simpa using hx
      simp [this, hx]
  have hnl : ((leftOf es seen).toList.map (·.born)).Nodup := by
    unfold leftOf
    rw [Array.toList_filter]
    exact hn.sublist ((List.filter_sublist (l := es.toList)).map _)
  obtain ⟨l1, l2, hs⟩ := List.append_of_mem he
  refine ⟨l1, l2, hs, ?_⟩
  rw [hL, hs, List.filter_append, List.filter_cons_of_neg (by simp), ← List.filter_append]
  rw [hs, List.map_append, List.map_cons, List.nodup_append] at hnl
  obtain ⟨-, hn2, hn3⟩ := hnl
  rw [List.nodup_cons] at hn2
  refine List.filter_eq_self.2 fun x hx => ?_
  simp only [decide_eq_true_eq]
  intro hxe
  rcases List.mem_append.1 hx with hx | hx
  · exact hn3 x.born (List.mem_map.2 ⟨x, hx, rfl⟩) e.born (by simp) hxe
  · exact hn2.1 (by rw [← hxe]; exact List.mem_map.2 ⟨x, hx, rfl⟩)

theorem run_next_MapIs (ty : TypeId) (h : RangeIs K V w b r L rest) :
    (rest = [] ∧ (Instr.next (.pointer (some ⟨r, 0, none⟩)) false ty).run P w = .ok (.tuple #[.bool false]) w) ∨
    ∃ r1 p r2 w', rest = r1 ++ p :: r2 ∧ (Instr.next (.pointer (some ⟨r, 0, none⟩)) false ty).run P w = .ok (.tuple #[.bool true, K p.1, V p.2]) w' ∧ RangeIs K V w' b r L (r1 ++ r2) ∧ Turned w w' r ∧
      (Instr.entry (.pointer (some ⟨r, 0, none⟩))).run P w' = .ok (.tuple #[K p.1, V p.2]) w' := by
  obtain ⟨es, c, seen, h1, h2, h3, h4, h5, h6, h7⟩ := h
  have hne : b ≠ r := fun e => by rw [e, h6] at h1; cases h1
  rcases run_next_at (P := P) w ty r b c c seen es c h6 h1 h4 (Nat.le_refl _) with ⟨h0, hrun⟩ | ⟨e, he, w1, hal, hrun⟩
  · refine .inl ⟨?_, hrun⟩
    have := congrArg List.length h7
    simp [h0] at this
    exact List.eq_nil_of_length_eq_zero this.symm
  · obtain ⟨l1, l2, hl, hl'⟩ := left_push es seen e h5 he
    rw [hl, List.map_append, List.map_cons] at h7
    obtain ⟨r1, q2, rfl, e1, e2⟩ := List.map_eq_append_iff.1 h7.symm
    obtain ⟨p, r2, rfl, e3, e4⟩ := List.map_eq_cons_iff.1 e2
    have ek : e.key = K p.1 := (congrArg Prod.fst e3).symm
    have ev : e.val = V p.2 := (congrArg Prod.snd e3).symm
    have hr1 : w1.heap[r]? = some (.mapIter (some b) c seen c) := by rcases hal with rfl | rfl <;> exact h6
    have hb1 : w1.heap[b]? = some (.map es c) := by rcases hal with rfl | rfl <;> exact h1
    have hset := Go.MapKept.heap_set (o' := .mapIter (some b) c (seen.push e.born) c) hr1
    have hb' := (hset.2 b hne).trans hb1
    have hem : e ∈ es.toList := by
      have : e ∈ (leftOf es seen).toList := he
      unfold leftOf at this
      rw [Array.toList_filter] at this
      exact (List.mem_filter.1 this).1
    rw [ek, ev] at hrun
    refine .inr ⟨r1, p, r2, _, rfl, hrun, ⟨es, c, seen.push e.born, hb', h2, h3, h4, h5, hset.1, ?_⟩, ?_, ?_⟩
    · rw [hl', List.map_append, List.map_append, e1, e4]
    · rcases hal with rfl | rfl <;> exact ⟨rfl, rfl, rfl, by simp [setBlock], fun i hi => hset.2 i hi⟩
    · have := run_entry_at (P := P) (setBlock w1 r (.mapIter (some b) c (seen.push e.born) c)) r b c seen es c e hset.1 hb' hem h5
      rw [ek, ev] at this
      exact this
end
end Go.Proofs.YtdikcgmdmcfpfaaGreat
namespace Go.Proofs.YtdikcgmdmcfpfaaGreat
open Go.RowKit

section
variable {κ : Type} [DecidableEq κ] {P : Program} {kt : TypeId} {K : κ → Value}
/-- keys that are asked one by one -/
theorem run_findAsking (heq : ∀ x y w, (Op.equal kt (K x) (K y)).run P w = .ok (decide (y = x)) w) (x : κ) : ∀ (es : List MapEntry) (ks : List κ) (i : Nat) (w : World), es.map (·.key) = ks.map K →
    (Instr.findAsking kt (K x) es i).run P w = .ok ((ks.findIdx? (fun y => decide (y = x))).bind fun j => (es[j]?).map fun e => (i + j, e.val)) w
  | [], [], _, _, _ => rfl
  | [], _ :: _, _, _, h => by simp at h
  | _ :: _, [], _, _, h => by simp at h
  | e :: es, k :: ks, i, w, h => by
    simp only [List.map_cons, List.cons.injEq] at h
    obtain ⟨h1, h2⟩ := h
    unfold Instr.findAsking
    simp only [Sem.run_bind, h1, heq, Result.andThen_ok]
    by_cases hk : k = x
    · subst hk
      simp [List.findIdx?_cons]
    · simp only [hk, decide_false, Bool.false_eq_true, if_false, run_findAsking heq x es ks (i + 1) w h2, List.findIdx?_cons]
      congr 1
      cases hf : ks.findIdx? (fun y => decide (y = x)) with
      | none => rfl
      | some j =>
        simp only [Option.bind_some, Option.map_some, List.getElem?_cons_succ]
        congr 1
        funext e
        simp
        omega

theorem keyOk_asked {fs : Array Field} (ht : P.underlying kt = some (.struct fs)) (hc : ∀ e x w, (Instr.checkKey e 10000 kt (K x)).run P w = .ok () w)
    (heq : ∀ x y w, (Op.equal kt (K x) (K y)).run P w = .ok (decide (y = x)) w) (hs : ∀ x, Instr.sameBits 10000 (K x) (K x) = true) : KeyOk P kt K where
  check := hc
  find x es ks w h := by
    cases es with
    | nil =>
      cases ks with
      | nil => simp [Instr.findKey, run_underlying ht, Instr.findNow]
      | cons k ks => simp at h
    | cons e es =>
      have hn : Instr.findNow (.struct fs) (K x) (e :: es) 0 = none := by
        unfold Instr.findNow
        simp [Instr.sameNow]
      simp only [Instr.findKey, Sem.run_bind, run_underlying ht, Result.andThen_ok, hn]
      rw [run_findAsking heq x (e :: es) ks 0 w h]
      simp
  same := hs
end

abbrev dotV (d : Dot) : Value := .agg #[St d.1, U d.2]
abbrev placeV (p : Place) : Value := .agg #[St p.1, St p.2.1, U p.2.2]
abbrev unitV (_ : Unit) : Value := .agg #[]

theorem beq_bytes (a b : Str) : ((⟨a.toArray⟩ : ByteArray).toList == (⟨b.toArray⟩ : ByteArray).toList) = decide (b = a) := by
  rw [ByteArray.toList_eq, ByteArray.toList_eq]
  by_cases h : b = a
  · subst h; simp
  · rw [decide_eq_false h]
    have : a ≠ b := fun e => h e.symm
    simpa using this

section
set_option maxRecDepth 100000
theorem eqIn_dot (d : Nat) (x y : Dot) (w : World) : (Op.equalIn (d + 1 + 1) 97 (.agg #[St x.1, U x.2]) (.agg #[St y.1, U y.2])).run Tryz.prog w = .ok (decide (y = x)) w := by
  have hS : Tryz.prog.underlying 97 = some (.struct (Tryz.prog.fieldsOf 97)) := by kernel_rfl
  have hp : Tryz.prog.stoodInHeld 97 = false := by kernel_rfl
  have u1 := Tryz.underlying9
  have u2 := Tryz.underlying23
  have a1 := Tryz.isAgg9
  have a2 := Tryz.isAgg23
  have z1 := Tryz.sizeOf9
  have z2 := Tryz.sizeOf23
  rw [run_equalIn_agg w (d + 1) 97 _ _ hS hp]
  simp only [Program.fieldsOf, Tryz.underlying97]
  go_simp
  obtain ⟨x1, x2⟩ := x
  obtain ⟨y1, y2⟩ := y
  by_cases h1 : x1 = y1
  · by_cases h2 : x2 = y2
    · subst h1; subst h2; simp
    · subst h1
      have h3 : ¬ y2 = x2 := fun e => h2 e.symm
      have h4 : ¬ (x2 : Int) = y2 := fun e => h2 (Int.ofNat_inj.1 e)
      simp [h4, h3]
  · have h3 : ¬ y1 = x1 := fun e => h1 e.symm
    simp [h1, h3]
theorem eqv_dot (x y : Dot) (w : World) : (Op.equal 97 (dotV x) (dotV y)).run Tryz.prog w = .ok (decide (y = x)) w := eqIn_dot 9998 x y w

theorem eqv_place (x y : Place) (w : World) : (Op.equal 234 (placeV x) (placeV y)).run Tryz.prog w = .ok (decide (y = x)) w := by
  have hS : Tryz.prog.underlying 234 = some (.struct (Tryz.prog.fieldsOf 234)) := by kernel_rfl
  have hp : Tryz.prog.stoodInHeld 234 = false := by kernel_rfl
  have u1 := Tryz.underlying9
  have a1 := Tryz.isAgg9
  have a3 := Tryz.isAgg97
  have z1 := Tryz.sizeOf9
  have z3 := Tryz.sizeOf97
  have key : ∀ d, (Op.equalIn (d + 1 + 1 + 1) 234 (placeV x) (placeV y)).run Tryz.prog w = .ok (decide (y = x)) w := by
    intro d
    have hin := eqIn_dot d
    rw [run_equalIn_agg w (d + 1 + 1) 234 _ _ hS hp]
    simp only [Program.fieldsOf, Tryz.underlying234]
    go_simp
    obtain ⟨x0, xd⟩ := x
    obtain ⟨y0, yd⟩ := y
    by_cases h0 : x0 = y0
    · subst h0
      by_cases h1 : yd = xd
      · simp [h1]
      · simp [h1]
    · have h2 : ¬ y0 = x0 := fun e => h0 e.symm
      simp [h0, h2]
  exact key 9997

theorem checkKey_str (n : Nat) (e : Bool) (s : Str) (w : World) : (Instr.checkKey e (n + 1) 9 (St s)).run Tryz.prog w = .ok () w := by
  unfold Instr.checkKey
  simp [run_underlying Tryz.underlying9]
theorem checkKey_u64 (n : Nat) (e : Bool) (s : Nat) (w : World) : (Instr.checkKey e (n + 1) 23 (U s)).run Tryz.prog w = .ok () w := by
  unfold Instr.checkKey
  simp [run_underlying Tryz.underlying23]
theorem checkKey_dot (n : Nat) (e : Bool) (x : Dot) (w : World) : (Instr.checkKey e (n + 1 + 1) 97 (.agg #[St x.1, U x.2])).run Tryz.prog w = .ok () w := by
  have a1 := Tryz.isAgg9
  have a2 := Tryz.isAgg23
  have z1 := Tryz.sizeOf9
  have z2 := Tryz.sizeOf23
  have c1 := checkKey_str n e
  have c2 := checkKey_u64 n e
  unfold Instr.checkKey
  simp only [Sem.run_bind, run_underlying Tryz.underlying97, Result.andThen_ok]
  go_simp
theorem checkKey_place (n : Nat) (e : Bool) (x : Place) (w : World) : (Instr.checkKey e (n + 1 + 1 + 1) 234 (placeV x)).run Tryz.prog w = .ok () w := by
  have a1 := Tryz.isAgg9
  have a3 := Tryz.isAgg97
  have z1 := Tryz.sizeOf9
  have z3 := Tryz.sizeOf97
  have c1 := checkKey_str (n + 1) e
  have c2 := checkKey_dot n e
  unfold Instr.checkKey
  simp only [Sem.run_bind, run_underlying Tryz.underlying234, Result.andThen_ok]
  go_simp
theorem same_str (n : Nat) (s : Str) : Instr.sameBits n (St s) (St s) = true := by
  cases n <;> simp [Instr.sameBits, bytes_mk_beq]
theorem same_u (n : Nat) (s : Nat) : Instr.sameBits n (U s) (U s) = true := by
  cases n <;> simp [Instr.sameBits]
theorem same_dot (n : Nat) (x : Dot) : Instr.sameBits (n + 1) (dotV x) (dotV x) = true := by
  simp [Instr.sameBits, same_str, same_u]
theorem same_place (n : Nat) (x : Place) : Instr.sameBits (n + 1) (placeV x) (placeV x) = true := by
  simp [Instr.sameBits, same_str, same_u]
theorem keyOkD : KeyOk Tryz.prog 97 dotV := keyOk_asked Tryz.underlying97 (fun e x w => checkKey_dot 9998 e x w) eqv_dot (same_dot 9999)
theorem keyOkP : KeyOk Tryz.prog 234 placeV := keyOk_asked Tryz.underlying234 (fun e x w => checkKey_place 9997 e x w) eqv_place (same_place 9999)
theorem zeroUnit (w : World) : (zeroValue 124).run Tryz.prog w = .ok (unitV ()) w := Tryz.zeroValue124 w
end
end Go.Proofs.YtdikcgmdmcfpfaaGreat
namespace Go.Proofs.YtdikcgmdmcfpfaaGreat
open Go.RowKit

section
variable {κ : Type} [DecidableEq κ] {K : κ → Value} {w w' : World} {b : Nat} {ks : List κ}
/-- block b is a set of ks, in the order in which they came -/
def SetOf (K : κ → Value) (w : World) (b : Nat) (ks : List κ) : Prop := MapIs K unitV w b (ks.map fun k => (k, ()))
def addK (ks : List κ) (k : κ) : List κ := if k ∈ ks then ks else ks ++ [k]
def setL (ks : List κ) : List κ := ks.foldl addK []
omit [DecidableEq κ] in
theorem unit_keys (ks : List κ) : (ks.map fun k => (k, ())).map Prod.fst = ks := by simp [Function.comp_def]
omit [DecidableEq κ] in
theorem unit_pairs (L : List (κ × Unit)) : L = (L.map Prod.fst).map fun k => (k, ()) := by
  rw [List.map_map]
  exact (List.map_id' L).symm.trans (List.map_congr_left fun p _ => rfl)
theorem putL_unit (ks : List κ) (k : κ) : putL (ks.map fun k => (k, ())) k () = (addK ks k).map fun k => (k, ()) := by
  rw [unit_pairs (putL _ _ _), putL_keys, unit_keys]
  rfl
theorem SetOf.lt (h : SetOf K w b ks) : b < w.heap.size := MapIs.lt h
theorem SetOf.ext (h : SetOf K w b ks) (he : Ext w w') : SetOf K w' b ks := MapIs.ext h he
theorem SetOf.keep (h : SetOf K w b ks) (hs : w'.heap[b]? = w.heap[b]?) : SetOf K w' b ks := MapIs.keep h hs
theorem SetOf.nodup (h : SetOf K w b ks) : ks.Nodup := by have := MapIs.nodup h; rwa [unit_keys] at this
theorem SetOf.new (w : World) : SetOf K (w.alloc (.map #[] 0)) w.heap.size [] := MapIs.new w
theorem mem_addK {ks : List κ} {k x : κ} : x ∈ addK ks k ↔ x ∈ ks ∨ x = k := by
  unfold addK
  split
  · rename_i h
    exact ⟨.inl, fun h' => h'.elim id (fun e => e ▸ h)⟩
  · simp
theorem addK_nodup {ks : List κ} (h : ks.Nodup) (k : κ) : (addK ks k).Nodup := by
  unfold addK
  split
  · exact h
  · rename_i hk
    rw [List.nodup_append]
    exact ⟨h, by simp, fun a ha b hb => by simp at hb; subst hb; rintro rfl; exact hk ha⟩
theorem addK_len (ks : List κ) (k : κ) : (addK ks k).length ≤ ks.length + 1 := by
  unfold addK
  split <;> simp
theorem foldl_addK_mem : ∀ (l ks : List κ) (x : κ), x ∈ l.foldl addK ks ↔ x ∈ ks ∨ x ∈ l
  | [], ks, x => by simp
  | a :: r, ks, x => by
    rw [List.foldl_cons, foldl_addK_mem r, mem_addK, List.mem_cons]
    exact or_assoc
theorem foldl_addK_nodup : ∀ (l ks : List κ), ks.Nodup → (l.foldl addK ks).Nodup
  | [], _, h => h
  | a :: r, ks, h => foldl_addK_nodup r _ (addK_nodup h a)
theorem foldl_addK_len : ∀ (l ks : List κ), (l.foldl addK ks).length ≤ ks.length + l.length
  | [], ks => by simp
  | a :: r, ks => by
    rw [List.foldl_cons, List.length_cons]
    have h1 := foldl_addK_len r (addK ks a)
    have h2 := addK_len ks a
    omega
theorem mem_setL {l : List κ} {x : κ} : x ∈ setL l ↔ x ∈ l := by unfold setL; rw [foldl_addK_mem]; simp
theorem setL_nodup (l : List κ) : (setL l).Nodup := foldl_addK_nodup l [] .nil
theorem setL_len (l : List κ) : (setL l).length ≤ l.length := by have := foldl_addK_len l []; simpa [setL] using this
theorem setL_snoc (l : List κ) (x : κ) : setL (l ++ [x]) = addK (setL l) x := by simp [setL]
theorem setL_nodup_eq : ∀ (l ks : List κ), (ks ++ l).Nodup → l.foldl addK ks = ks ++ l
  | [], ks, _ => by simp
  | a :: r, ks, h => by
    have ha : a ∉ ks := fun hk => by
      rw [List.nodup_append] at h
      exact h.2.2 a hk a (by simp) rfl
    rw [List.foldl_cons, show addK ks a = ks ++ [a] by simp [addK, ha], setL_nodup_eq r (ks ++ [a]) (by simpa using h)]
    simp
theorem perm_of_mem {a b : List κ} (ha : a.Nodup) (hb : b.Nodup) (h : ∀ x, x ∈ a ↔ x ∈ b) : a.Perm b := (List.perm_ext_iff_of_nodup ha hb).2 h

theorem run_add_SetOf {P : Program} {t kt et : TypeId} (ht : P.underlying t = some (.map kt et)) (KO : KeyOk P kt K) (h : SetOf K w b ks) (k : κ) :
    ∃ w', (Instr.mapUpdate t (.map (some b)) (K k) (.agg #[])).run P w = .ok () w' ∧ SetOf K w' b (addK ks k) ∧ Turned w w' b := by
  obtain ⟨w', h1, h2, h3⟩ := run_update_MapIs (V := unitV) ht KO h k ()
  rw [putL_unit] at h2
  exact ⟨w', h1, h2, h3⟩
theorem run_has_SetOf {P : Program} {t kt et : TypeId} (ht : P.underlying t = some (.map kt et)) (KO : KeyOk P kt K) (hz : ∀ w, (zeroValue et).run P w = .ok (.agg #[]) w) (h : SetOf K w b ks) (k : κ) :
    (Instr.lookup t (.map (some b)) (K k) true).run P w = .ok (.tuple #[.agg #[], .bool (decide (k ∈ ks))]) w := by
  have := (run_lookup_MapIs (V := unitV) (z := ()) ht KO hz h k).2
  rwa [unit_keys] at this
end

theorem item_at {w wr : World} {S : Nat → Prop} {A : Option Addr} {n c : Nat} {l pre post : List Item} {m : Item} (h : Sl itemT w S (.slice A n c) l) (hb : Ext w wr) (hl : l = pre ++ m :: post) :
    ∃ b o v, A = some ⟨b, o, none⟩ ∧ wr.cell? ⟨b, o + pre.length * 2, none⟩ = some (St m.1) ∧ wr.cell? ⟨b, o + pre.length * 2 + 1, none⟩ = some v ∧ Sl markT w S v m.2 := by
  obtain ⟨b, o, vs, c', hv, hS, ⟨v, rfl, hv1⟩, hc⟩ := h.at_ hl
  injection hv with e1 e2 e3
  subst e1
  exact ⟨b, o, v, rfl, hb.cell (hc 0 _ rfl), hb.cell (hc 1 _ rfl), hv1⟩
theorem dot_at {w wr : World} {S : Nat → Prop} {A : Option Addr} {n c : Nat} {l pre post : List Dot} {m : Dot} (h : Sl markT w S (.slice A n c) l) (hb : Ext w wr) (hl : l = pre ++ m :: post) :
    ∃ b o, A = some ⟨b, o, none⟩ ∧ wr.cell? ⟨b, o + pre.length * 2, none⟩ = some (St m.1) ∧ wr.cell? ⟨b, o + pre.length * 2 + 1, none⟩ = some (U m.2) := by
  obtain ⟨b, o, vs, c', hv, hS, rfl, hc⟩ := h.at_ hl
  injection hv with e1 e2 e3
  subst e1
  exact ⟨b, o, rfl, hb.cell (hc 0 _ rfl), hb.cell (hc 1 _ rfl)⟩
end Go.Proofs.YtdikcgmdmcfpfaaGreat
namespace Go.Proofs.YtdikcgmdmcfpfaaGreat
open Go.RowKit

theorem placesL_snoc (l : List Item) (it : Item) : placesL (l ++ [it]) = placesL l ++ it.2.map fun d => (it.1, d) := by simp [placesL]

set_option maxRecDepth 100000 in
set_option maxHeartbeats 1000000 in
theorem of_bag {S : Nat → Prop} {v : Value} {l : List Item} {w : World} (hv : Sl itemT w S v l) :
    Calls Tryz.prog 187 #[v] w fun e w' => ∃ p, e = .returned (.map (some p)) ∧ w.heap.size ≤ p ∧ SetOf placeV w' p (setL (placesL l)) ∧ Ext w w' := by
  have hv' := hv
  obtain ⟨A, c, rfl, hc1, hc2⟩ := hv.form
  have HAT := Lib.hid (fun (pre post : List Item) (m : Item) (wr : World) (h : Ext w wr) (hl : l = pre ++ m :: post) => item_at hv' h hl)
  have hmm := @run_makeMap Tryz.prog
  clear hv hv'
  go_enter Tryz.func187, Tryz.ntmps187
  go_wp2_with fail
  go_loopw [11] (fun i wr => ∃ pre post, l = pre ++ post ∧ i = I pre.length ∧ SetOf placeV wr w.heap.size (setL (placesL pre)) ∧ Ext w wr) (fun i _ => l.length - (intOf i).toNat)
  case atStart => exact ⟨[], l, rfl, rfl, SetOf.new w, (Ext.refl w).alloc _⟩
  case round =>
    obtain ⟨pre, post, hl, rfl, hS, hx⟩ := hrel
    cases post with
    | cons it post =>
      obtain ⟨b, o, vd, rfl, hd0, hd1, hsl⟩ := HAT.out pre post it wr hx hl
      have hlt : pre.length < l.length := by rw [hl]; simp
      have hsl' := hsl
      obtain ⟨A2, c2, rfl, hc3, hc4⟩ := hsl.form
      have HL := Lib.hid hl
      have hx1 := (Ext.refl wr).alloc (.cells #[St it.1, .slice A2 it.2.length c2] 96)
      have HS := Lib.hid (hS.ext hx1)
      have HX := Lib.hid (hx.trans hx1)
      have t0 : (wr.alloc (.cells #[St it.1, .slice A2 it.2.length c2] 96)).cell? ⟨wr.heap.size, 0, none⟩ = some (St it.1) := by simp [go_sem]
      have hws := hS.lt
      have HIN := Lib.hid (fun (p2 q2 : List Dot) (x : Dot) (wr' : World) (h : Ext w wr') (hl : it.2 = p2 ++ x :: q2) => dot_at hsl' h hl)
      have hwz : (wr.alloc (.cells #[St it.1, .slice A2 it.2.length c2] 96)).heap.size = wr.heap.size + 1 := by simp
      clear hl hS hsl hsl' hx hx1
      go_wp2_with fail
      generalize hW1 : wr.alloc (.cells #[St it.1, .slice A2 it.2.length c2] 96) = W1 at *
      clear hW1
      obtain ⟨wo, rfl⟩ : ∃ wo : World, wo = wr := ⟨_, rfl⟩
      go_loopw [18] (fun j wr2 => ∃ p2 q2, it.2 = p2 ++ q2 ∧ j = I p2.length ∧ SetOf placeV wr2 w.heap.size (setL (placesL pre ++ p2.map fun d => (it.1, d))) ∧ wr2.cell? ⟨wo.heap.size, 0, none⟩ = some (St it.1) ∧ Ext w wr2) (fun j _ => it.2.length - (intOf j).toNat)
      case atStart => exact ⟨[], it.2, rfl, rfl, by simpa using HS.out, t0, HX.out⟩
      case round =>
        obtain ⟨p2, q2, hl2, rfl, hS2, ht2, hx2⟩ := hrel
        cases q2 with
        | cons x q2 =>
          obtain ⟨b2, o2, rfl, e0, e1⟩ := HIN.out p2 q2 x wr hx2 hl2
          have hlt2 : p2.length < it.2.length := by rw [hl2]; simp
          have hx3 := (Ext.refl wr).alloc (.cells #[St x.1, U x.2] 97)
          have ht3 := hx3.cell ht2
          obtain ⟨wn, hup, hsn, htn⟩ := run_add_SetOf (P := Tryz.prog) Tryz.underlying229 keyOkP (hS2.ext hx3) (it.1, x)
          have htc := htn.cell ht3 (by omega)
          have HSN := Lib.hid hsn
          have HXN := Lib.hid ((hx2.trans hx3).turned htn (Nat.le_refl _))
          have HL2 := Lib.hid hl2
          clear hl2 hS2 hx2 hx3 hsn htn
          go_wp2_with fail
          go_roundw
          case rel => exact ⟨p2 ++ [x], q2, by rw [HL2.out]; simp, by simp, by rw [List.map_append, ← List.append_assoc, List.map_singleton, setL_snoc]; exact HSN.out, htc, HXN.out⟩
          case measure => simp [intOf]; omega
        | nil =>
          rw [List.append_nil] at hl2
          have HS2 := Lib.hid hS2
          have HX2 := Lib.hid hx2
          have hlen : it.2.length = p2.length := by rw [hl2]
          have HL2 := Lib.hid hl2
          clear hS2 hx2 hl2
          go_wp2_with fail
          go_roundw
          case rel => exact ⟨pre ++ [it], post, by rw [HL.out]; simp, by simp, by rw [placesL_snoc, HL2.out]; exact HS2.out, HX2.out⟩
          case measure => simp [intOf]; omega
    | nil =>
      rw [List.append_nil] at hl
      have hlen : l.length = pre.length := by rw [hl]
      have HL := Lib.hid hl
      have HS := Lib.hid hS
      have HX := Lib.hid hx
      clear hl hS hx
      go_wp2_with fail
      go_ret
      exact ⟨_, rfl, Nat.le_refl _, by rw [HL.out]; exact HS.out, HX.out⟩
end Go.Proofs.YtdikcgmdmcfpfaaGreat
namespace Go.Proofs.YtdikcgmdmcfpfaaGreat
open Go.RowKit

/-- what is asked of a predicate on keys: in each world of C, which hangs on nothing from base on -/
structure PredK {κ : Type} (K : κ → Value) (P : Program) (g : Nat) (cb : Array Value) (base : Nat) (C : World → Prop) (p : κ → Bool) : Prop where
  enters : ∀ args w, (callFunc g args).run P w = .ok (.enter g args) w
  keep : ∀ W W', C W → Below base W W' → C W'
  does : ∀ m W, C W → Calls P g (#[K m] ++ cb) W fun e w' => e = .returned (.bool (p m)) ∧ Ext W w'

set_option maxRecDepth 100000 in
set_option maxHeartbeats 1000000 in
theorem that_any {b g base : Nat} {cb : Array Value} {C : World → Prop} {p : Place → Bool} {ks : List Place} {w : World} (hs : SetOf placeV w b ks) (hp : PredK placeV Tryz.prog g cb base C p) (hC : C w) (hbase : base ≤ w.heap.size) :
    Calls Tryz.prog 190 #[.map (some b), .func (.func g) #[] cb] w fun e w' => ∃ q ks', e = .returned (.map (some q)) ∧ w.heap.size ≤ q ∧ ks'.Perm (ks.filter p) ∧ SetOf placeV w' q ks' ∧ Ext w w' := by
  have hx0 := (Ext.refl w).alloc (.map #[] 0)
  obtain ⟨W1, hr, hR, hx1, hsz⟩ := run_range_MapIs (P := Tryz.prog) Tryz.underlying229 (hs.ext hx0)
  have HR := Lib.hid hR
  have HX := Lib.hid (hx0.trans hx1)
  have HN := Lib.hid (SetOf.new (K := placeV) w |>.ext hx1)
  have HND := Lib.hid hs.nodup
  have HP := Lib.hid hp
  have HC := Lib.hid hC
  have eg := hp.enters
  have hbw := hs.lt
  have hmm := @run_makeMap Tryz.prog
  rw [World.size_alloc] at hr hsz
  clear hR hx0 hx1 hs hp hC
  go_enter Tryz.func190, Tryz.ntmps190
  go_wp2_with fail
  go_loopw [10] (fun u wr => ∃ done rest, (done ++ rest.map Prod.fst).Perm ks ∧ RangeIs placeV unitV wr b (w.heap.size + 1) (ks.map fun k => (k, ())) rest ∧ SetOf placeV wr w.heap.size (done.filter p) ∧ Ext w wr) (fun _ wr => wr.rangeLeft b (w.heap.size + 1))
  case atStart => exact ⟨[], _, by rw [unit_keys]; exact .refl _, by have := HR.out; rwa [World.size_alloc] at this, HN.out, HX.out⟩
  case round =>
    obtain ⟨done, rest, hperm, hR, hS, hx⟩ := hrel
    rcases run_next_MapIs (P := Tryz.prog) 0 hR with ⟨rfl, hrun⟩ | ⟨r1, q, r2, wn, rfl, hrun, hR2, ht, hent⟩
    · have hnx : ∀ ty, (Instr.next (.pointer (some ⟨w.heap.size + 1, 0, none⟩)) false ty).run Tryz.prog wr = .ok (.tuple #[.bool false]) wr := fun ty => hrun
      have HPM := Lib.hid hperm
      have HS := Lib.hid hS
      have HX2 := Lib.hid hx
      clear hperm hR hrun hS hx
      go_wp2_with fail
      go_ret
      exact ⟨_, _, rfl, Nat.le_refl _, by have := HPM.out; simp at this; exact this.filter p, HS.out, HX2.out⟩
    · have hnx : ∀ ty, (Instr.next (.pointer (some ⟨w.heap.size + 1, 0, none⟩)) false ty).run Tryz.prog wr = .ok (.tuple #[.bool true, placeV q.1, unitV q.2]) wn := fun ty => hrun
      have hxn := hx.turned ht (by omega)
      have hSn : SetOf placeV wn w.heap.size (done.filter p) := hS.keep (ht.other _ (by omega))
      have hx1 := (Ext.refl wn).alloc (.cells #[St q.1.1, St q.1.2.1, U q.1.2.2] 234)
      have HPR := Lib.hid (HP.out.does q.1 _ (HP.out.keep _ _ HC.out ((hxn.trans hx1).below hbase)))
      have hqn : q.1 ∉ done := fun hq => by
        have := (hperm.nodup_iff.2 HND.out)
        rw [List.nodup_append] at this
        exact this.2.2 q.1 hq q.1 (by simp) rfl
      have HML := Lib.hid hR.left_eq
      have HR2 := Lib.hid hR2
      have HPM := Lib.hid hperm
      have HS1 := Lib.hid (hSn.ext hx1)
      have HX1 := Lib.hid (hxn.trans hx1)
      have hns : w.heap.size < wn.heap.size := hSn.lt
      have hrs : w.heap.size + 1 < wn.heap.size := hR2.lt
      clear hperm hR hrun hR2 hx ht hxn hSn hS hx1
      go_wp2_with fail
      refine HPR.out.mono ?_
      rintro e w2 ⟨rfl, hx2⟩
      have hc0 : w2.cell? ⟨wn.heap.size, 0, none⟩ = some (St q.1.1) := hx2.cell (by simp [go_sem])
      have hc1 : w2.cell? ⟨wn.heap.size, 1, none⟩ = some (St q.1.2.1) := hx2.cell (by simp [go_sem])
      have hc2 : w2.cell? ⟨wn.heap.size, 2, none⟩ = some (U q.1.2.2) := hx2.cell (by simp [go_sem])
      have HR3 := Lib.hid ((HR2.out.ext ((Ext.refl wn).alloc (.cells #[St q.1.1, St q.1.2.1, U q.1.2.2] 234))).ext hx2)
      have HX3 := Lib.hid (HX1.out.trans hx2)
      have hS3 := HS1.out.ext hx2
      have hw2s := hx2.size
      have HPM2 := Lib.hid (show ((done ++ [q.1]) ++ (r1 ++ r2).map Prod.fst).Perm ks by
        have h1 := HPM.out
        simp only [List.map_append, List.map_cons] at h1 ⊢
        rw [List.append_assoc]
        exact ((List.perm_middle (l₁ := r1.map Prod.fst) (a := q.1) (l₂ := r2.map Prod.fst)).symm.append_left done).trans h1)
      clear hx2
      cases hpq : p q.1
      · have HF := Lib.hid (show (done ++ [q.1]).filter p = done.filter p by simp [List.filter_append, hpq])
        have HS4 := Lib.hid hS3
        clear hS3
        go_wp2_with fail
        go_roundw
        case rel => exact ⟨done ++ [q.1], r1 ++ r2, HPM2.out, HR3.out, by rw [HF.out]; exact HS4.out, HX3.out⟩
        case measure => rw [HML.out, HR3.out.left_eq]; simp
      · obtain ⟨w3, hup, hs4, ht4⟩ := run_add_SetOf (P := Tryz.prog) Tryz.underlying229 keyOkP hS3 q.1
        have HF := Lib.hid (show addK (done.filter p) q.1 = (done ++ [q.1]).filter p by
          rw [List.filter_append]
          unfold addK
          rw [if_neg (fun h => hqn (List.mem_filter.1 h).1)]
          simp [hpq])
        have HS4 := Lib.hid hs4
        have HT4 := Lib.hid ht4
        clear hS3 hs4 ht4
        go_wp2_with fail
        have hR4 : RangeIs placeV unitV w3 b (w.heap.size + 1) (ks.map fun k => (k, ())) (r1 ++ r2) := HR3.out.keep (HT4.out.other b (by omega)) (HT4.out.other _ (by omega))
        go_roundw
        case rel => exact ⟨done ++ [q.1], r1 ++ r2, HPM2.out, hR4, by rw [← HF.out]; exact HS4.out, HX3.out.turned HT4.out (Nat.le_refl _)⟩
        case measure => rw [HML.out, hR4.left_eq]; simp
end Go.Proofs.YtdikcgmdmcfpfaaGreat
namespace Go.Proofs.YtdikcgmdmcfpfaaGreat
open Go.RowKit Go.Shelf

theorem Below.turned {base : Nat} {w w1 w2 : World} {b : Nat} (h : Below base w w1) (t : Turned w1 w2 b) (hb : base ≤ b) : Below base w w2 :=
  ⟨t.os.trans h.os, t.tape.trans h.tape, t.output.trans h.output, by rw [t.size]; exact h.size, fun k hk => (t.other k (by omega)).trans (h.block k hk)⟩

set_option maxRecDepth 100000 in
set_option maxHeartbeats 1000000 in
theorem copy_any {p q base : Nat} {ks ls : List Place} {w : World} (hp : SetOf placeV w p ks) (hq : SetOf placeV w q ls) (hne : p ≠ q) (hb : base ≤ p) (hbq : base ≤ w.heap.size) :
    Calls Tryz.prog 192 #[.map (some p), .map (some q)] w fun e w' => ∃ ls' : List Place, e = .returned (.tuple #[]) ∧ ls'.Perm ls ∧ SetOf placeV w' p (ls'.foldl addK ks) ∧ Below base w w' := by
  obtain ⟨W1, hr, hR, hx1, hsz⟩ := run_range_MapIs (P := Tryz.prog) Tryz.underlying229 hq
  have HR := Lib.hid hR
  have HX := Lib.hid hx1
  have HP := Lib.hid (hp.ext hx1)
  have hpw := hp.lt
  have hqw := hq.lt
  clear hR hx1 hp hq
  go_enter Tryz.func192, Tryz.ntmps192
  go_wp2_with fail
  go_loopw [8] (fun u wr => ∃ done rest, (done ++ rest.map Prod.fst).Perm ls ∧ RangeIs placeV unitV wr q w.heap.size (ls.map fun k => (k, ())) rest ∧ SetOf placeV wr p (done.foldl addK ks) ∧ Below base w wr) (fun _ wr => wr.rangeLeft q w.heap.size)
  case atStart => exact ⟨[], _, by rw [unit_keys]; exact .refl _, HR.out, HP.out, HX.out.below hbq⟩
  case round =>
    obtain ⟨done, rest, hperm, hR, hS, hx⟩ := hrel
    rcases run_next_MapIs (P := Tryz.prog) 0 hR with ⟨rfl, hrun⟩ | ⟨r1, k, r2, wn, rfl, hrun, hR2, ht, hent⟩
    · have hnx : ∀ ty, (Instr.next (.pointer (some ⟨w.heap.size, 0, none⟩)) false ty).run Tryz.prog wr = .ok (.tuple #[.bool false]) wr := fun ty => hrun
      have HPM := Lib.hid hperm
      have HS := Lib.hid hS
      have HX2 := Lib.hid hx
      clear hperm hR hrun hS hx
      go_wp2_with fail
      go_end0
      exact ⟨done, rfl, by have := HPM.out; simp at this; exact this, HS.out, HX2.out⟩
    · have hnx : ∀ ty, (Instr.next (.pointer (some ⟨w.heap.size, 0, none⟩)) false ty).run Tryz.prog wr = .ok (.tuple #[.bool true, placeV k.1, unitV k.2]) wn := fun ty => hrun
      have hxn := Below.turned hx ht hbq
      have hSn : SetOf placeV wn p (done.foldl addK ks) := hS.keep (ht.other _ (by omega))
      have hx1 := ((Ext.refl wn).alloc (.cells #[St k.1.1, St k.1.2.1, U k.1.2.2] 234)).alloc (.cells #[] 124)
      obtain ⟨w3, hup, hs4, ht4⟩ := run_add_SetOf (P := Tryz.prog) Tryz.underlying229 keyOkP (hSn.ext hx1) k.1
      have hw3 := hx.size
      have hR4 : RangeIs placeV unitV w3 q w.heap.size (ls.map fun k => (k, ())) (r1 ++ r2) := (hR2.ext hx1).keep (ht4.other q (fun e => hne e.symm)) (ht4.other _ (by omega))
      have HB4 := Lib.hid (Below.turned (Below.trans hxn (hx1.below (by have := hxn.size; omega))) ht4 hb)
      have HML := Lib.hid hR.left_eq
      have HR4 := Lib.hid hR4
      have HS4 := Lib.hid hs4
      have HPM := Lib.hid hperm
      clear hperm hR hrun hR2 hx ht hxn hSn hS hx1 hR4 hs4 ht4
      go_wp2_with fail
      go_roundw
      case rel => exact ⟨done ++ [k.1], r1 ++ r2, by
        have h1 := HPM.out
        simp only [List.map_append, List.map_cons] at h1 ⊢
        rw [List.append_assoc]
        exact ((List.perm_middle (l₁ := r1.map Prod.fst) (a := k.1) (l₂ := r2.map Prod.fst)).symm.append_left done).trans h1, HR4.out, by rw [List.foldl_append]; exact HS4.out, HB4.out⟩
      case measure => rw [HML.out, HR4.out.left_eq]; simp

set_option maxRecDepth 100000 in
set_option maxHeartbeats 400000 in
theorem put1_any (s : Str) (m : Place) {b : Nat} {w : World} (hb : w.cell? ⟨b, 0, none⟩ = some (St s)) :
    Calls Tryz.prog 221 #[placeV m, .pointer (some ⟨b, 0, none⟩)] w fun e w' => e = .returned (.bool (m.1 != s)) ∧ Ext w w' := by
  have hlt := blk_of_cell hb
  by_cases h : m.1 = s
  · have h' : (m.1 == s) = true := by simpa using h
    have h2 : (m.1 != s) = false := by simpa using h
    go_enter Tryz.func221, Tryz.ntmps221
    go_wp2
    go_ret
    exact ⟨by simp [h], (Ext.refl _).alloc _⟩
  · have h' : (m.1 == s) = false := by simpa using h
    have h2 : (m.1 != s) = true := by simpa using h
    go_enter Tryz.func221, Tryz.ntmps221
    go_wp2
    go_ret
    exact ⟨by simp [h], (Ext.refl _).alloc _⟩
set_option maxRecDepth 100000 in
set_option maxHeartbeats 400000 in
theorem take1_any (s : Str) (m : Place) {b : Nat} {w : World} (hb : w.cell? ⟨b, 0, none⟩ = some (St s)) :
    Calls Tryz.prog 222 #[placeV m, .pointer (some ⟨b, 0, none⟩)] w fun e w' => e = .returned (.bool (m.1 != s)) ∧ Ext w w' := by
  have hlt := blk_of_cell hb
  by_cases h : m.1 = s
  · have h' : (m.1 == s) = true := by simpa using h
    have h2 : (m.1 != s) = false := by simpa using h
    go_enter Tryz.func222, Tryz.ntmps222
    go_wp2
    go_ret
    exact ⟨by simp [h], (Ext.refl _).alloc _⟩
  · have h' : (m.1 == s) = false := by simpa using h
    have h2 : (m.1 != s) = true := by simpa using h
    go_enter Tryz.func222, Tryz.ntmps222
    go_wp2
    go_ret
    exact ⟨by simp [h], (Ext.refl _).alloc _⟩
theorem pred_put1 (s : Str) (b base : Nat) (hb : b < base) : PredK placeV Tryz.prog 221 #[.pointer (some ⟨b, 0, none⟩)] base (fun W => W.cell? ⟨b, 0, none⟩ = some (St s)) (fun m => m.1 != s) where
  enters := enters_of Tryz.func221 (by kernel_rfl) rfl
  keep W W' h hB := (Below.cell hB (p := ⟨b, 0, none⟩) hb).trans h
  does m W h := put1_any s m h
theorem pred_take1 (s : Str) (b base : Nat) (hb : b < base) : PredK placeV Tryz.prog 222 #[.pointer (some ⟨b, 0, none⟩)] base (fun W => W.cell? ⟨b, 0, none⟩ = some (St s)) (fun m => m.1 != s) where
  enters := enters_of Tryz.func222 (by kernel_rfl) rfl
  keep W W' h hB := (Below.cell hB (p := ⟨b, 0, none⟩) hb).trans h
  does m W h := take1_any s m h
end Go.Proofs.YtdikcgmdmcfpfaaGreat
