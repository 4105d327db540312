/- MemberOrder's plain laws, fourth part: what is joined may be, if it is not too many; how long its parts are. -/
import Derived.Test.YtblkikjmocnllaaGreatDoorQx01
import Derived.Test.YtblkikjmocnllaaGreatDoorQv18
set_option linter.unusedVariables false
set_option linter.unusedSimpArgs false
set_option linter.unusedSectionVars false
namespace Go.Proofs.YtblkikjmocnllaaGreatDoor

structure Cmp {α : Type} (c : α → α → Int) : Prop where
  anti : ∀ x y, c y x = -c x y
  trans : ∀ x y z, c x y ≤ 0 → c y z ≤ 0 → c x z ≤ 0
section
variable {α β : Type} {c d : α → α → Int}
theorem Cmp.self (h : Cmp c) (x : α) : c x x = 0 := by have := h.anti x x; omega
theorem Cmp.on {e : β → β → Int} (h : Cmp e) (f : α → β) : Cmp (fun x y => e (f x) (f y)) := ⟨fun _ _ => h.anti _ _, fun _ _ _ => h.trans _ _ _⟩
theorem Cmp.or (h : Cmp c) (k : Cmp d) : Cmp (fun x y => if c x y = 0 then d x y else c x y) where
  anti x y := by
    have h1 := h.anti x y
    have h2 := k.anti x y
    by_cases e : c x y = 0
    · have e2 : c y x = 0 := by omega
      simp only [e, e2, if_true]
      exact h2
    · have e2 : ¬ c y x = 0 := by omega
      simp only [e, e2, if_false]
      exact h1
  trans x y z h1 h2 := by
    have a1 := h.anti x y
    have a2 := h.anti y z
    have a3 := h.anti x z
    have t1 := h.trans x y z
    have t2 := h.trans z x y
    have t3 := h.trans y z x
    have k1 := k.trans x y z
    by_cases e1 : c x y = 0 <;> by_cases e2 : c y z = 0 <;> by_cases e3 : c x z = 0 <;> simp only [e1, e2, e3, if_true, if_false] at h1 h2 ⊢ <;> omega
theorem Cmp.of (ha : ∀ x y, c y x = -c x y) (he : ∀ x y, c x y = 0 → x = y) (ht : ∀ x y z, c x y < 0 → c y z < 0 → c x z < 0) : Cmp c where
  anti := ha
  trans x y z h1 h2 := by
    by_cases e1 : c x y = 0
    · rw [he _ _ e1]; exact h2
    · by_cases e2 : c y z = 0
      · rw [← he _ _ e2]; exact h1
      · have := ht x y z (by omega) (by omega); omega
theorem Cmp.nil : Cmp (fun _ _ : α => firstL []) := ⟨fun _ _ => by simp [firstL], fun _ _ _ _ _ => by simp [firstL]⟩
theorem Cmp.cons {r : α → α → List Int} (h : Cmp c) (k : Cmp (fun x y => firstL (r x y))) : Cmp (fun x y => firstL (c x y :: r x y)) := h.or k
def mxC (c : α → α → Int) (x y : α) : α := if c x y < 0 then y else x
theorem mx_comm (h : Cmp c) (e : ∀ x y, c x y = 0 → x = y) (x y : α) : mxC c x y = mxC c y x := by
  have := h.anti x y
  unfold mxC
  by_cases h1 : c x y < 0
  · rw [if_pos h1, if_neg (by omega)]
  · by_cases h2 : c y x < 0
    · rw [if_neg h1, if_pos h2]
    · rw [if_neg h1, if_neg h2]; exact e _ _ (by omega)
theorem mx_assoc (h : Cmp c) (x y z : α) : mxC c (mxC c x y) z = mxC c x (mxC c y z) := by
  have a1 := h.anti x y
  have a2 := h.anti y z
  have a3 := h.anti x z
  have t1 := h.trans x y z
  have t2 := h.trans z x y
  have t3 := h.trans y z x
  have t4 := h.trans z y x
  unfold mxC
  by_cases h1 : c x y < 0
  · rw [if_pos h1]
    by_cases h2 : c y z < 0
    · rw [if_pos h2, if_pos (by omega)]
    · rw [if_neg h2, if_pos h1]
  · rw [if_neg h1]
    by_cases h2 : c y z < 0
    · rw [if_pos h2]
    · rw [if_neg h2, if_neg (by omega), if_neg h1]
theorem mx_idem (h : Cmp c) (x : α) : mxC c x x = x := by unfold mxC; split <;> rfl
theorem mx_absorb (h : Cmp c) (x y : α) : mxC c (mxC c x y) x = mxC c x y := by
  have a1 := h.anti x y
  have a2 := h.self x
  unfold mxC
  by_cases h1 : c x y < 0
  · rw [if_pos h1, if_neg (by omega)]
  · rw [if_neg h1, if_neg (by omega)]
end
theorem firstL_zero : ∀ {l : List Int}, firstL l = 0 → ∀ c ∈ l, c = 0
  | [], _, _, h => by cases h
  | x :: r, h, c, hc => by
    unfold firstL at h
    split at h
    · rename_i e
      rcases List.mem_cons.1 hc with rfl | hc
      · exact e
      · exact firstL_zero h c hc
    · rename_i e
      exact absurd h e
theorem cmpI_eq {a b : Int} (h : cmpI a b = 0) : a = b := by unfold cmpI at h; split at h <;> (try split at h) <;> omega
theorem cmpN_eq' {a b : Nat} (h : cmpN a b = 0) : a = b := by unfold cmpN at h; split at h <;> (try split at h) <;> omega
theorem cmpI_cmp : Cmp cmpI := .of (fun x y => by unfold cmpI; split <;> split <;> (try split) <;> omega) (fun _ _ => cmpI_eq) (fun x y z h1 h2 => by unfold cmpI at *; split at h1 <;> split at h2 <;> (try split at h1) <;> (try split at h2) <;> (try split) <;> omega)
theorem cmpN_cmp : Cmp cmpN := .of (fun x y => by unfold cmpN; split <;> split <;> (try split) <;> omega) (fun _ _ => cmpN_eq') (fun x y z h1 h2 => by unfold cmpN at *; split at h1 <;> split at h2 <;> (try split at h1) <;> (try split at h2) <;> (try split) <;> omega)
theorem cmpS_cmp : Cmp cmpS := .of cmpS_anti (fun _ _ => cmpS_eq.1) (fun _ _ _ h1 h2 => cmpS_lt.2 (ltS_trans (cmpS_lt.1 h1) (cmpS_lt.1 h2)))
theorem cmpPath_cmp : Cmp cmpPath := .of cmpPath_anti (fun _ _ => cmpPath_eq.1) (fun _ _ _ => cmpPath_trans)
theorem higher_cmp : Cmp higherM := cmpI_cmp.on rankP
theorem later_cmp : Cmp (fun x y : Plan => firstL (laterL x y)) :=
  (cmpI_cmp.on settledM).cons ((higher_cmp.on Plan.keeper).cons ((cmpN_cmp.on Plan.round).cons ((cmpPath_cmp.on Plan.keeper).cons ((cmpS_cmp.on Plan.live).cons ((cmpS_cmp.on Plan.by_).cons ((cmpN_cmp.on Plan.cap).cons ((cmpS_cmp.on Plan.owner).cons ((cmpN_cmp.on Plan.base).cons .nil))))))))
theorem later_eq (x y : Plan) (h : firstL (laterL x y) = 0) : x = y := by
  have h := firstL_zero h
  unfold laterL at h
  simp only [List.mem_cons, List.not_mem_nil, or_false, forall_eq_or_imp, forall_eq] at h
  obtain ⟨h0, -, h1, h2, h3, h4, h5, h6, h7⟩ := h
  cases x; cases y
  replace h0 := cmpI_eq h0
  replace h1 := cmpN_eq' h1
  replace h2 := cmpPath_eq.1 h2
  replace h3 := cmpS_eq.1 h3
  replace h4 := cmpS_eq.1 h4
  replace h5 := cmpN_eq' h5
  replace h6 := cmpS_eq.1 h6
  replace h7 := cmpN_eq' h7
  simp only at h0 h1 h2 h3 h4 h5 h6 h7
  subst h1 h2 h3 h4 h5 h6 h7
  rename_i d1 d2
  unfold settledM at h0
  cases d1 <;> cases d2 <;> simp at h0 ⊢
theorem later_is (x y : Plan) : laterM x y = mxC (fun x y => firstL (laterL x y)) x y := rfl
theorem later_comm (x y : Plan) : laterM x y = laterM y x := mx_comm later_cmp later_eq x y
theorem later_assoc (x y z : Plan) : laterM (laterM x y) z = laterM x (laterM y z) := mx_assoc later_cmp x y z
theorem later_idem (x : Plan) : laterM x x = x := mx_idem later_cmp x
theorem later_absorb (x y : Plan) : laterM (laterM x y) x = laterM x y := mx_absorb later_cmp x y
def krC (a b : Str × Nat) : Int := firstL [higherM a.1 b.1, cmpN a.2 b.2, cmpPath a.1 b.1]
theorem kr_cmp : Cmp krC := (higher_cmp.on Prod.fst).cons ((cmpN_cmp.on Prod.snd).cons ((cmpPath_cmp.on Prod.fst).cons .nil))
theorem kr_eq (a b : Str × Nat) (h : krC a b = 0) : a = b := by
  have h := firstL_zero h
  simp only [List.mem_cons, List.not_mem_nil, or_false, forall_eq_or_imp, forall_eq] at h
  exact Prod.ext (cmpPath_eq.1 h.2.2) (cmpN_eq' h.2.1)
abbrev krW (w : Word) : Str × Nat := (w.keeper, w.round)
theorem word_eq {v w : Word} (h1 : v.of = w.of) (h2 : v.has = w.has) (h3 : krW v = krW w) (h4 : v.agreed = w.agreed) (h5 : v.cap = w.cap) (h6 : v.pruned = w.pruned) : v = w := by
  cases v; cases w
  simp only [krW, Prod.mk.injEq] at *
  obtain ⟨h3, h7⟩ := h3
  subst h1 h2 h3 h4 h5 h6 h7
  rfl
theorem said_kr (v w : Word) : krW (saidM v w) = mxC krC (krW v) (krW w) := by
  have e : firstL (saidL v w) = krC (krW v) (krW w) := rfl
  unfold saidM mxC
  rw [e]
  split <;> rfl
theorem said_comm (v w : Word) (h : v.of = w.of) : saidM v w = saidM w v :=
  word_eq h (Nat.max_comm _ _) (by rw [said_kr, said_kr]; exact mx_comm kr_cmp kr_eq _ _) (Bool.or_comm _ _) (Nat.max_comm _ _) (Bool.or_comm _ _)
theorem said_assoc (v w z : Word) : saidM (saidM v w) z = saidM v (saidM w z) :=
  word_eq rfl (Nat.max_assoc _ _ _) (by rw [said_kr, said_kr, said_kr, said_kr]; exact mx_assoc kr_cmp _ _ _) (Bool.or_assoc _ _ _) (Nat.max_assoc _ _ _) (Bool.or_assoc _ _ _)
theorem said_idem (v : Word) : saidM v v = v :=
  word_eq rfl (Nat.max_self _) (by rw [said_kr]; exact mx_idem kr_cmp _) (Bool.or_self _) (Nat.max_self _) (Bool.or_self _)
theorem lesser_comm (a b : Int) : lesserM a b = lesserM b a := by unfold lesserM; split <;> split <;> omega
theorem lesser_is (a b : Int) : lesserM a b = if a ≤ 0 then max b 0 else if b ≤ 0 then a else min a b := by unfold lesserM; split <;> split <;> (try split) <;> omega
theorem lesser_assoc (a b c : Int) : lesserM (lesserM a b) c = lesserM a (lesserM b c) := by
  rw [lesser_is (lesserM a b), lesser_is a (lesserM b c), lesser_is a b, lesser_is b c]
  by_cases e1 : a ≤ 0
  · rw [if_pos e1, if_pos e1]
    by_cases e2 : b ≤ 0
    · rw [if_pos (by omega), if_pos e2]; omega
    · rw [if_neg (by omega), if_neg e2]
      by_cases e3 : c ≤ 0
      · rw [if_pos e3, if_pos e3]
      · rw [if_neg e3, if_neg e3]; omega
  · rw [if_neg e1, if_neg e1]
    by_cases e2 : b ≤ 0
    · rw [if_pos e2, if_pos e2, if_neg e1]
      by_cases e3 : c ≤ 0
      · rw [if_pos e3, if_pos (by omega)]
      · rw [if_neg e3, if_neg (by omega)]; omega
    · rw [if_neg e2, if_neg e2, if_neg (by omega)]
      by_cases e3 : c ≤ 0
      · rw [if_pos e3, if_pos e3, if_neg e2]
      · rw [if_neg e3, if_neg e3, if_neg (by omega)]; omega
theorem lesser_idem {a : Int} (h : 0 ≤ a) : lesserM a a = a := by unfold lesserM; split <;> omega
theorem lesser_nn (a b : Int) : 0 ≤ lesserM a b := by unfold lesserM; split <;> omega
theorem lesser_le {a b : Int} (h : 0 < a) : 0 < lesserM a b ∧ lesserM a b ≤ a := by unfold lesserM; split <;> omega
theorem spans_comm (a b : List Span) : spansM a b = spansM b a := sep_eq (spansM_sep a b) (spansM_sep b a) fun n => by rw [spansM_in, spansM_in, Bool.or_comm]
theorem spans_assoc (a b c : List Span) : spansM (spansM a b) c = spansM a (spansM b c) := sep_eq (spansM_sep _ _) (spansM_sep _ _) fun n => by rw [spansM_in, spansM_in, spansM_in, spansM_in, Bool.or_assoc]
theorem spans_idem {a : List Span} (h : Sep a) : spansM a a = a := sep_eq (spansM_sep _ _) h fun n => by rw [spansM_in, Bool.or_self]

section
variable {ν : Type} (name : ν → Str)
def SrtN (l : List ν) : Prop := l.Pairwise fun x y => cmpPath (name x) (name y) < 0
abbrev findN (l : List ν) (k : Str) : Option ν := l.find? fun x => decide (name x = k)
variable {name}
theorem findN_name {l : List ν} {k : Str} {x : ν} (h : findN name l k = some x) : name x = k := by simpa using List.find?_some h
theorem findN_of : ∀ {l : List ν}, SrtN name l → ∀ {x : ν}, x ∈ l → findN name l (name x) = some x
  | [], _, _, hx => by cases hx
  | y :: l, hs, x, hx => by
    obtain ⟨h1, h2⟩ := List.pairwise_cons.1 hs
    unfold findN
    rw [List.find?_cons]
    rcases List.mem_cons.1 hx with rfl | hx
    · simp
    · have h3 := h1 x hx
      have : ¬ name y = name x := fun e => by rw [e, cmp_self] at h3; omega
      simp only [this, decide_false]
      exact findN_of h2 hx
theorem srt_ext : ∀ {l l' : List ν}, SrtN name l → SrtN name l' → (∀ x, x ∈ l ↔ x ∈ l') → l = l'
  | [], [], _, _, _ => rfl
  | [], y :: l', _, _, h => absurd ((h y).2 (by simp)) (by simp)
  | x :: l, [], _, _, h => absurd ((h x).1 (by simp)) (by simp)
  | x :: l, y :: l', hs, hs', h => by
    obtain ⟨h1, h2⟩ := List.pairwise_cons.1 hs
    obtain ⟨h1', h2'⟩ := List.pairwise_cons.1 hs'
    have no : ∀ {z u : ν}, cmpPath (name z) (name u) < 0 → cmpPath (name u) (name z) < 0 → False := fun a b => by rw [cmpPath_anti] at b; omega
    have e : x = y := by
      rcases List.mem_cons.1 ((h x).1 (by simp)) with e | e
      · exact e
      · rcases List.mem_cons.1 ((h y).2 (by simp)) with e2 | e2
        · exact e2.symm
        · exact (no (h1 y e2) (h1' x e)).elim
    subst e
    congr 1
    refine srt_ext h2 h2' fun z => ⟨fun hz => ?_, fun hz => ?_⟩
    · rcases List.mem_cons.1 ((h z).1 (List.mem_cons_of_mem _ hz)) with e | e
      · subst e; exact (no (h1 z hz) (h1 z hz)).elim
      · exact e
    · rcases List.mem_cons.1 ((h z).2 (List.mem_cons_of_mem _ hz)) with e | e
      · subst e; exact (no (h1' z hz) (h1' z hz)).elim
      · exact e
theorem srt_find {l l' : List ν} (h : SrtN name l) (h' : SrtN name l') (e : ∀ k, findN name l k = findN name l' k) : l = l' :=
  srt_ext h h' fun x => ⟨fun hx => List.mem_of_find?_eq_some ((e _).symm.trans (findN_of h hx)), fun hx => List.mem_of_find?_eq_some ((e _).trans (findN_of h' hx))⟩
theorem fm_find {g : Str → Option ν} (hg : ∀ k e, g k = some e → name e = k) (k : Str) : ∀ ks : List Str, findN name (ks.filterMap g) k = if k ∈ ks then g k else none
  | [] => by simp [findN]
  | j :: ks => by
    have ih := fm_find hg k ks
    rw [List.filterMap_cons]
    cases hj : g j with
    | none =>
      simp only
      rw [ih]
      by_cases hk : k = j
      · subst hk; simp [hj]
      · simp [hk]
    | some e =>
      simp only
      have he := hg j e hj
      unfold findN at ih ⊢
      rw [List.find?_cons]
      by_cases hk : j = k
      · subst hk; simp [he, hj]
      · have h1 : ¬ name e = k := by rw [he]; exact hk
        have h2 : ¬ k = j := fun e => hk e.symm
        simp only [h1, decide_false, ih, List.mem_cons, h2, false_or]
variable {both : ν → ν → ν}
theorem mrg_name (hn : ∀ x y, name (both x y) = name x) {a b : List ν} {k : Str} {e : ν} (h : mrgO both (findN name a k) (findN name b k) = some e) : name e = k := by
  cases ha : findN name a k with
  | none =>
    rw [ha] at h
    cases hb : findN name b k with
    | none => rw [hb] at h; cases h
    | some y => rw [hb] at h; injection h with h; subst h; exact findN_name hb
  | some x =>
    rw [ha] at h
    cases hb : findN name b k with
    | none => rw [hb] at h; injection h with h; subst h; exact findN_name ha
    | some y => rw [hb] at h; injection h with h; subst h; rw [hn]; exact findN_name ha
theorem merge_find (hn : ∀ x y, name (both x y) = name x) (a b : List ν) (k : Str) : findN name (mergeL name both a b) k = mrgO both (findN name a k) (findN name b k) := by
  unfold mergeL
  rw [fm_find (fun k e h => mrg_name hn h)]
  split
  · rfl
  · rename_i h
    rw [(isort_perm (lt := ltP) _).mem_iff, onceL_in, List.mem_append, ← find_mem, ← find_mem, not_or] at h
    obtain ⟨h1, h2⟩ := h
    have e1 : findN name a k = none := by cases h : findN name a k with | none => rfl | some x => exact absurd (show (findN name a k).isSome = true by rw [h]; rfl) h1
    have e2 : findN name b k = none := by cases h : findN name b k with | none => rfl | some x => exact absurd (show (findN name b k).isSome = true by rw [h]; rfl) h2
    rw [e1, e2]
    rfl
theorem merge_srtN (hn : ∀ x y, name (both x y) = name x) (a b : List ν) : SrtN name (mergeL name both a b) := by
  unfold mergeL
  have h1 := isort_sorted ltP_swo (onceL (a.map name ++ b.map name))
  have h2 : (isort ltP (onceL (a.map name ++ b.map name))).Nodup := (isort_perm (lt := ltP) _).nodup_iff.2 (onceL_nodup _)
  have h3 : (isort ltP (onceL (a.map name ++ b.map name))).Pairwise fun x y => cmpPath x y < 0 := by
    refine (h1.and h2).imp ?_
    intro x y ⟨e1, e2⟩
    simp only [ltP, decide_eq_false_iff_not] at e1
    have e3 : cmpPath y x = -cmpPath x y := cmpPath_anti x y
    have e4 : cmpPath x y ≠ 0 := fun e => e2 (cmpPath_eq.1 e)
    omega
  rw [SrtN, List.pairwise_filterMap]
  exact h3.imp fun {x y} h e1 h1 e2 h2 => by rw [mrg_name hn h1, mrg_name hn h2]; exact h
theorem merge_comm (hn : ∀ x y, name (both x y) = name x) (hc : ∀ x y, name x = name y → both x y = both y x) (a b : List ν) : mergeL name both a b = mergeL name both b a :=
  srt_find (merge_srtN hn _ _) (merge_srtN hn _ _) fun k => by
    rw [merge_find hn, merge_find hn]
    cases ha : findN name a k <;> cases hb : findN name b k <;> try rfl
    simp only [mrgO]
    rw [hc _ _ ((findN_name ha).trans (findN_name hb).symm)]
theorem merge_assoc (hn : ∀ x y, name (both x y) = name x) (hc : ∀ x y z, name x = name y → name y = name z → both (both x y) z = both x (both y z)) (a b c : List ν) : mergeL name both (mergeL name both a b) c = mergeL name both a (mergeL name both b c) :=
  srt_find (merge_srtN hn _ _) (merge_srtN hn _ _) fun k => by
    rw [merge_find hn, merge_find hn, merge_find hn, merge_find hn]
    cases ha : findN name a k <;> cases hb : findN name b k <;> cases hd : findN name c k <;> try rfl
    simp only [mrgO]
    rw [hc _ _ _ ((findN_name ha).trans (findN_name hb).symm) ((findN_name hb).trans (findN_name hd).symm)]
theorem merge_idem (hn : ∀ x y, name (both x y) = name x) {a : List ν} (hs : SrtN name a) (hi : ∀ x ∈ a, both x x = x) : mergeL name both a a = a :=
  srt_find (merge_srtN hn _ _) hs fun k => by
    rw [merge_find hn]
    cases ha : findN name a k with
    | none => rfl
    | some x => simp only [mrgO]; rw [hi x (List.mem_of_find?_eq_some ha)]
theorem filter_find (κ : Str → Bool) (l : List ν) (k : Str) : findN name (l.filter fun x => κ (name x)) k = if κ k then findN name l k else none := by
  unfold findN
  induction l with
  | nil => simp
  | cons x l ih =>
    rw [List.filter_cons, List.find?_cons]
    by_cases hx : name x = k
    · subst hx
      cases hk : κ (name x) with
      | true => simp
      | false =>
        rw [hk] at ih
        simpa using ih
    · simp only [hx, decide_false]
      cases hk : κ (name x) with
      | true => simp only [if_true]; rw [List.find?_cons]; simp only [hx, decide_false]; exact ih
      | false => exact ih
theorem merge_filter (hn : ∀ x y, name (both x y) = name x) (κ : Str → Bool) (a b : List ν) : (mergeL name both a b).filter (fun x => κ (name x)) = mergeL name both (a.filter fun x => κ (name x)) (b.filter fun x => κ (name x)) := by
  refine srt_find ((merge_srtN hn a b).sublist List.filter_sublist) (merge_srtN hn _ _) fun k => ?_
  rw [filter_find, merge_find hn, merge_find hn, filter_find, filter_find]
  cases κ k <;> rfl
end
theorem said_name (x y : Word) : (saidM x y).of = x.of := rfl
theorem words_comm (a b : List Word) : mergeL Word.of saidM a b = mergeL Word.of saidM b a := merge_comm said_name said_comm a b
theorem words_assoc (a b c : List Word) : mergeL Word.of saidM (mergeL Word.of saidM a b) c = mergeL Word.of saidM a (mergeL Word.of saidM b c) := merge_assoc said_name (fun x y z _ _ => said_assoc x y z) a b c
theorem words_idem {a : List Word} (h : SrtN Word.of a) : mergeL Word.of saidM a a = a := merge_idem said_name h fun x _ => said_idem x
theorem joined_name (x y : Mbr) : (joinedM x y).path = x.path := rfl
theorem joined_comm (x y : Mbr) (h : x.path = y.path) : joinedM x y = joinedM y x := by
  simp only [joinedM, Mbr.mk.injEq]
  exact ⟨h, Nat.max_comm _ _, Int.max_comm _ _, lesser_comm _ _, Nat.max_comm _ _, spans_comm _ _, later_comm _ _, words_comm _ _⟩
theorem joined_assoc (x y z : Mbr) : joinedM (joinedM x y) z = joinedM x (joinedM y z) := by
  simp only [joinedM, Mbr.mk.injEq]
  exact ⟨trivial, Nat.max_assoc _ _ _, Int.max_assoc _ _ _, lesser_assoc _ _ _, Nat.max_assoc _ _ _, spans_assoc _ _ _, later_assoc _ _ _, words_assoc _ _ _⟩
structure NiceM (x : Mbr) : Prop where
  gone : Sep x.gone
  words : SrtN Word.of x.words
  cut : 0 ≤ x.cut
theorem joined_idem {x : Mbr} (h : NiceM x) : joinedM x x = x := by
  obtain ⟨h1, h2, h3⟩ := h
  cases x
  simp only [joinedM, Mbr.mk.injEq]
  exact ⟨trivial, Nat.max_self _, Int.max_self _, lesser_idem h3, Nat.max_self _, spans_idem h1, later_idem _, words_idem h2⟩
theorem members_comm (a b : List Mbr) : mergeL Mbr.path joinedM a b = mergeL Mbr.path joinedM b a := merge_comm joined_name joined_comm a b
theorem members_assoc (a b c : List Mbr) : mergeL Mbr.path joinedM (mergeL Mbr.path joinedM a b) c = mergeL Mbr.path joinedM a (mergeL Mbr.path joinedM b c) := merge_assoc joined_name (fun x y z _ _ => joined_assoc x y z) a b c
theorem members_idem {a : List Mbr} (hs : SrtM a) (hn : ∀ x ∈ a, NiceM x) : mergeL Mbr.path joinedM a a = a := merge_idem joined_name hs fun x hx => joined_idem (hn x hx)
theorem members_absorb {a : List Mbr} (hs : SrtM a) (hn : ∀ x ∈ a, NiceM x) (b : List Mbr) : mergeL Mbr.path joinedM (mergeL Mbr.path joinedM a b) a = mergeL Mbr.path joinedM a b := by
  rw [members_comm, ← members_assoc, members_idem hs hn]
theorem find_merge (a b : List Mbr) (p : Str) : findP (mergeL Mbr.path joinedM a b) p = mrgO joinedM (findP a p) (findP b p) := merge_find joined_name a b p
end Go.Proofs.YtblkikjmocnllaaGreatDoor
namespace Go.Proofs.YtblkikjmocnllaaGreatDoor

theorem goneAt_merge (x c : List Mbr) (q : Str) : goneAt (mergeL Mbr.path joinedM x c) q = (goneAt x q || goneAt c q) := by
  rw [goneAt_find, goneAt_find, goneAt_find, find_merge]
  cases findP x (parP q) <;> cases findP c (parP q) <;> simp [mrgO]
  rename_i a b
  show withinL (spansM a.gone b.gone) _ = _
  rw [spansM_in]
theorem goneAt_bare (x : List Mbr) (q : Str) : goneAt (bareM x) q = (!forgottenM x (parP q) && goneAt x q) := by
  rw [goneAt_find, goneAt_find, findP_bare]
  cases forgottenM x (parP q)
  · cases findP x (parP q) with
    | none => rfl
    | some y =>
      show withinL (vset x y).gone _ = _
      rw [vset_gone]
      simp
  · simp
theorem mayP_nil : mayP [] = false := by decide
theorem forgot_top {v : List Mbr} {p : Str} (h : forgottenM v p = true) : ∃ r ∈ p :: chainP p, goneAt v r = true ∧ forgottenM v (parP r) = false := by
  unfold forgottenM at h
  simp only [Bool.and_eq_true] at h
  obtain ⟨r, h1, h2, h3⟩ := chain_last (f := goneAt v) _ (Nat.le_refl p.length) h.2
  refine ⟨r, h1, h2, ?_⟩
  unfold forgottenM
  rw [chainP_rest] at h3
  unfold restC at h3
  split at h3
  · rename_i e
    rw [e, mayP_nil]; rfl
  · rw [h3, Bool.and_false]
theorem forgot_mono {x v : List Mbr} (h : ∀ q, goneAt x q = true → goneAt v q = true) {p : Str} (hf : forgottenM x p = true) : forgottenM v p = true := by
  unfold forgottenM at hf ⊢
  simp only [Bool.and_eq_true] at hf ⊢
  obtain ⟨q, hq, hg⟩ := List.any_eq_true.1 hf.2
  exact ⟨hf.1, List.any_eq_true.2 ⟨q, hq, h q hg⟩⟩
theorem forgot_of {v : List Mbr} {p r : Str} (hm : mayP p = true) (hr : r ∈ p :: chainP p) (h : goneAt v r = true) : forgottenM v p = true := by
  unfold forgottenM
  rw [hm, Bool.true_and, List.any_eq_true]
  exact ⟨r, hr, h⟩
theorem forgot_may {v : List Mbr} {p : Str} (h : forgottenM v p = true) : mayP p = true := by
  unfold forgottenM at h
  simp only [Bool.and_eq_true] at h
  exact h.1
theorem forgot_par {v : List Mbr} {p : Str} (hm : mayP p = true) (h : forgottenM v p = false) : forgottenM v (parP p) = false := by
  by_cases h0 : parP p = []
  · rw [h0]; unfold forgottenM; rw [mayP_nil]; rfl
  · unfold forgottenM at h ⊢
    rw [hm, Bool.true_and, chainP_rest] at h
    unfold restC at h
    rw [if_neg h0, List.any_cons] at h
    simp only [Bool.or_eq_false_iff] at h
    rw [h.2, Bool.and_false]
theorem forgot_bare_merge (x c : List Mbr) (p : Str) : forgottenM (mergeL Mbr.path joinedM (bareM x) c) p = forgottenM (mergeL Mbr.path joinedM x c) p := by
  rw [Bool.eq_iff_iff]
  constructor
  · refine forgot_mono fun q h => ?_
    rw [goneAt_merge, goneAt_bare] at h
    rw [goneAt_merge]
    cases h1 : goneAt x q
    · rw [h1, Bool.and_false] at h; simpa using h
    · rfl
  · intro h
    obtain ⟨r, h1, h2, h3⟩ := forgot_top h
    refine forgot_of (forgot_may h) h1 ?_
    rw [goneAt_merge] at h2
    rw [goneAt_merge, goneAt_bare]
    have h4 : forgottenM x (parP r) = false := by
      cases h5 : forgottenM x (parP r) with
      | false => rfl
      | true =>
        have := forgot_mono (v := mergeL Mbr.path joinedM x c) (fun q h => by rw [goneAt_merge, h, Bool.true_or]) h5
        rw [this] at h3
        cases h3
    rw [h4]
    simpa using h2
theorem forgot_left {x c : List Mbr} {p : Str} (h : forgottenM (mergeL Mbr.path joinedM x c) p = false) : forgottenM x p = false := by
  cases h5 : forgottenM x p with
  | false => rfl
  | true =>
    rw [forgot_mono (v := mergeL Mbr.path joinedM x c) (fun q h => by rw [goneAt_merge, h, Bool.true_or]) h5] at h
    cases h

theorem void_cut (l : List Mbr) (p : Str) : voidIn l p = match findP l (parP p) with | none => false | some y => cutsM (vset l y) p := by
  rw [voidIn_step, at_find]
  cases h : findP l (parP p) with
  | none => rfl
  | some y => simp only; rw [cuts_vset l y p (findP_path h)]
theorem vset_yes {l : List Mbr} {z : Mbr} (h : voidIn l z.path = true) : vset l z = { z with status := 4, cut := 1 } := by unfold vset; rw [if_pos h]
theorem vset_no {l : List Mbr} {z : Mbr} (h : voidIn l z.path = false) : vset l z = z := by unfold vset; rw [if_neg (by rw [h]; simp)]
theorem voidIn_short {l : List Mbr} {p : Str} (h : deepP p < 2) : voidIn l p = false := vIn_short l h 8
theorem cutsM_iff {x : Mbr} {p : Str} : cutsM x p = true ↔ x.status = 4 ∧ 0 < x.cut ∧ x.cut ≤ numP p := by
  unfold cutsM
  simp only [Bool.and_eq_true, decide_eq_true_eq, and_assoc]
theorem cutsM_same {x y : Mbr} (h1 : x.status = y.status) (h2 : x.cut = y.cut) (p : Str) : cutsM x p = cutsM y p := by unfold cutsM; rw [h1, h2]
theorem cut_more {x v : List Mbr} {y z : Mbr} {p : Str} (hp : z.path = y.path) (hs : y.status = 4 → z.status = 4) (hc : 0 < y.cut → 0 < z.cut ∧ z.cut ≤ y.cut) (hv : voidIn x y.path = true → voidIn v y.path = true) (h : cutsM (vset x y) p = true) : cutsM (vset v z) p = true := by
  cases hz : voidIn v y.path with
  | true =>
    rw [vset_yes (by rw [hp]; exact hz), cutsM_iff]
    have := (cutsM_iff.1 h).2
    exact ⟨rfl, by show (0 : Int) < 1; omega, by show (1 : Int) ≤ _; omega⟩
  | false =>
    have hy : voidIn x y.path = false := by
      cases e : voidIn x y.path with
      | false => rfl
      | true => rw [hv e] at hz; cases hz
    rw [vset_no hy] at h
    rw [vset_no (by rw [hp]; exact hz)]
    rw [cutsM_iff] at h ⊢
    have := hc h.2.1
    exact ⟨hs h.1, this.1, by omega⟩
structure GoodL (l : List Mbr) : Prop where
  srt : SrtM l
  may : ∀ x ∈ l, mayP x.path = true
  st : ∀ x ∈ l, x.status ≤ 4
  cut : ∀ x ∈ l, 0 ≤ x.cut
theorem void_mono {x c : List Mbr} (hx : GoodL x) (hc : GoodL c) : ∀ (n : Nat) (p : Str), deepP p ≤ n → voidIn x p = true → voidIn (mergeL Mbr.path joinedM x c) p = true
  | 0, p, hd, h => by rw [voidIn_short (by omega)] at h; cases h
  | n + 1, p, hd, h => by
    have ih := void_mono hx hc n (parP p) (by rw [parP_deep]; omega)
    rw [void_cut] at h ⊢
    rw [find_merge]
    cases hf : findP x (parP p) with
    | none => rw [hf] at h; cases h
    | some y =>
      rw [hf] at h
      have hyp := findP_path hf
      rw [← hyp] at ih
      cases hg : findP c (parP p) with
      | none => exact cut_more rfl (fun h => h) (fun h => ⟨h, Int.le_refl _⟩) ih h
      | some z =>
        refine cut_more (y := y) (z := joinedM y z) rfl (fun e => ?_) (fun e => lesser_le e) ih h
        have h1 := hc.st z (findP_mem hg)
        show max y.status z.status = 4
        omega
abbrev effM (l : List Mbr) (z : Mbr) : Nat × Int := ((vset l z).status, (vset l z).cut)
theorem eff_same {x c : List Mbr} (hx : GoodL x) (hc : GoodL c) : ∀ (n : Nat) (p : Str), deepP p ≤ n → mayP p = true → forgottenM (mergeL Mbr.path joinedM x c) p = false →
    voidIn (mergeL Mbr.path joinedM (bareM x) c) p = voidIn (mergeL Mbr.path joinedM x c) p ∧ (findP (mergeL Mbr.path joinedM (bareM x) c) p).map (effM (mergeL Mbr.path joinedM (bareM x) c)) = (findP (mergeL Mbr.path joinedM x c) p).map (effM (mergeL Mbr.path joinedM x c))
  | 0, p, hd, hm, hf => by
    unfold mayP at hm
    simp only [decide_eq_true_eq] at hm
    omega
  | n + 1, p, hd, hm, hf => by
    have hV : voidIn (mergeL Mbr.path joinedM (bareM x) c) p = voidIn (mergeL Mbr.path joinedM x c) p := by
      by_cases h2 : deepP p < 2
      · rw [voidIn_short h2, voidIn_short h2]
      · have hdp := parP_deep p
        have ih := (eff_same hx hc n (parP p) (by omega) (by unfold mayP; simp only [decide_eq_true_eq]; omega) (forgot_par hm hf)).2
        rw [void_cut, void_cut]
        cases h3 : findP (mergeL Mbr.path joinedM (bareM x) c) (parP p) with
        | none =>
          cases h4 : findP (mergeL Mbr.path joinedM x c) (parP p) with
          | none => rfl
          | some _ => rw [h3, h4] at ih; cases ih
        | some u =>
          cases h4 : findP (mergeL Mbr.path joinedM x c) (parP p) with
          | none => rw [h3, h4] at ih; cases ih
          | some v =>
            rw [h3, h4] at ih
            simp only [Option.map_some, Option.some.injEq, effM, Prod.mk.injEq] at ih
            exact cutsM_same ih.1 ih.2 p
    refine ⟨hV, ?_⟩
    have hfx := forgot_left hf
    have eff : ∀ (l : List Mbr) (z : Mbr), z.path = p → effM l z = if voidIn l p then (4, 1) else (z.status, z.cut) := by
      rintro l z rfl
      unfold effM
      split
      · rename_i h; rw [vset_yes h]
      · rename_i h; rw [vset_no (by simpa using h)]
    have hpu : ∀ z, findP (mergeL Mbr.path joinedM (bareM x) c) p = some z → z.path = p := fun z h => findP_path h
    have hpv : ∀ z, findP (mergeL Mbr.path joinedM x c) p = some z → z.path = p := fun z h => findP_path h
    cases hv : voidIn (mergeL Mbr.path joinedM x c) p with
    | true =>
      rw [hv] at hV
      have h1 : (findP (mergeL Mbr.path joinedM (bareM x) c) p).map (effM (mergeL Mbr.path joinedM (bareM x) c)) = (findP (mergeL Mbr.path joinedM (bareM x) c) p).map fun _ => ((4 : Nat), (1 : Int)) := by
        cases h : findP (mergeL Mbr.path joinedM (bareM x) c) p with
        | none => rfl
        | some z => rw [Option.map_some, Option.map_some, eff _ _ (hpu z h), hV]; rfl
      have h2 : (findP (mergeL Mbr.path joinedM x c) p).map (effM (mergeL Mbr.path joinedM x c)) = (findP (mergeL Mbr.path joinedM x c) p).map fun _ => ((4 : Nat), (1 : Int)) := by
        cases h : findP (mergeL Mbr.path joinedM x c) p with
        | none => rfl
        | some z => rw [Option.map_some, Option.map_some, eff _ _ (hpv z h), hv]; rfl
      rw [h1, h2, find_merge, find_merge, findP_bare, hfx]
      cases findP x p <;> cases findP c p <;> rfl
    | false =>
      rw [hv] at hV
      have hvx : voidIn x p = false := by
        cases e : voidIn x p with
        | false => rfl
        | true => rw [void_mono hx hc _ p (Nat.le_refl _) e] at hv; cases hv
      have h1 : (findP (mergeL Mbr.path joinedM (bareM x) c) p).map (effM (mergeL Mbr.path joinedM (bareM x) c)) = (findP (mergeL Mbr.path joinedM (bareM x) c) p).map fun z => (z.status, z.cut) := by
        cases h : findP (mergeL Mbr.path joinedM (bareM x) c) p with
        | none => rfl
        | some z => rw [Option.map_some, Option.map_some, eff _ _ (hpu z h), hV]; rfl
      have h2 : (findP (mergeL Mbr.path joinedM x c) p).map (effM (mergeL Mbr.path joinedM x c)) = (findP (mergeL Mbr.path joinedM x c) p).map fun z => (z.status, z.cut) := by
        cases h : findP (mergeL Mbr.path joinedM x c) p with
        | none => rfl
        | some z => rw [Option.map_some, Option.map_some, eff _ _ (hpv z h), hv]; rfl
      rw [h1, h2, find_merge, find_merge, findP_bare, hfx]
      cases h3 : findP x p with
      | none => cases findP c p <;> rfl
      | some y =>
        have h4 : vset x y = y := vset_no (by rw [findP_path h3]; exact hvx)
        simp only [Bool.false_eq_true, if_false, Option.map_some, h4]
        cases findP c p <;> rfl

theorem find_left (l : List Mbr) (q : Str) : findP (leftM (voidedM l)) q = if forgottenM l q then none else (findP l q).map (vset l) := by
  unfold leftM
  rw [findP_filter (fun q => !forgottenM (voidedM l) q), forgotten_voided, findP_voided]
  cases forgottenM l q <;> rfl
theorem keep_is (l : List Mbr) (w : Word) : keepW (leftM (voidedM l)) w = (!forgottenM l w.of && match findP l w.of with | some z => decide ((vset l z).status = 4) | none => false) := by
  unfold keepW
  rw [at_find, find_left]
  cases forgottenM l w.of
  · cases findP l w.of <;> rfl
  · rfl
theorem bare_srt {l : List Mbr} (h : SrtM l) : SrtM (bareM l) := by
  unfold bareM leftM voidedM
  rw [SrtM, List.pairwise_map]
  refine List.Pairwise.sublist List.filter_sublist ?_
  rw [List.pairwise_map]
  exact h.imp fun {a b} hab => by
    show cmpPath (vset l a).path (vset l b).path < 0
    rw [vset_path, vset_path]
    exact hab
def WordsOk (l : List Mbr) : Prop := ∀ m ∈ l, ∀ w ∈ m.words, ∃ y, findP l w.of = some y ∧ y.status = 4
theorem mbr_eq {a b : Mbr} (h1 : a.path = b.path) (h2 : (a.status, a.cut) = (b.status, b.cut)) (h3 : a.kids = b.kids) (h4 : a.last = b.last) (h5 : a.gone = b.gone) (h6 : a.plan = b.plan) (h7 : a.words = b.words) : a = b := by
  cases a; cases b
  simp only [Prod.mk.injEq] at *
  obtain ⟨h2, h8⟩ := h2
  subst h1 h2 h3 h4 h5 h6 h7 h8
  rfl
theorem vset_same (l : List Mbr) (z : Mbr) : (vset l z).path = z.path ∧ (vset l z).kids = z.kids ∧ (vset l z).last = z.last ∧ (vset l z).gone = z.gone ∧ (vset l z).plan = z.plan ∧ (vset l z).words = z.words := by
  unfold vset
  split <;> exact ⟨rfl, rfl, rfl, rfl, rfl, rfl⟩
theorem words_eq {L L' : List Mbr} {a b : Mbr} (h1 : a.path = b.path) (h2 : (a.status, a.cut) = (b.status, b.cut)) (h3 : a.kids = b.kids) (h4 : a.last = b.last) (h5 : a.gone = b.gone) (h6 : a.plan = b.plan) (h7 : a.words.filter (keepW L) = b.words.filter (keepW L')) : wordsM L a = wordsM L' b := mbr_eq h1 h2 h3 h4 h5 h6 h7
theorem words_same (L : List Mbr) (a : Mbr) : (wordsM L a).path = a.path ∧ (wordsM L a).kids = a.kids ∧ (wordsM L a).last = a.last ∧ (wordsM L a).gone = a.gone ∧ (wordsM L a).plan = a.plan ∧ (wordsM L a).words = a.words.filter (keepW L) := ⟨rfl, rfl, rfl, rfl, rfl, rfl⟩
theorem joined_same (a b : Mbr) : (joinedM a b).path = a.path ∧ (joinedM a b).kids = max a.kids b.kids ∧ (joinedM a b).last = max a.last b.last ∧ (joinedM a b).gone = spansM a.gone b.gone ∧ (joinedM a b).plan = laterM a.plan b.plan ∧ (joinedM a b).words = mergeL Word.of saidM a.words b.words := ⟨rfl, rfl, rfl, rfl, rfl, rfl⟩
theorem bare_merge {x c : List Mbr} (hx : GoodL x) (hc : GoodL c) (hw : WordsOk x) : bareM (mergeL Mbr.path joinedM (bareM x) c) = bareM (mergeL Mbr.path joinedM x c) := by
  have su : SrtM (mergeL Mbr.path joinedM (bareM x) c) := merge_srt _ _
  have sv : SrtM (mergeL Mbr.path joinedM x c) := merge_srt _ _
  have none_of : ∀ {l : List Mbr} (_ : ∀ z ∈ l, mayP z.path = true) {p : Str}, mayP p = false → findP l p = none := fun {l} h {p} hp => by
    cases e : findP l p with
    | none => rfl
    | some z => have := h z (findP_mem e); rw [findP_path e, hp] at this; cases this
  have hbx : ∀ {p : Str}, mayP p = false → findP (bareM x) p = none := fun {p} hp => by
    rw [findP_bare, none_of hx.may hp]
    split <;> rfl
  -- keep
  have hK : keepW (leftM (voidedM (mergeL Mbr.path joinedM (bareM x) c))) = keepW (leftM (voidedM (mergeL Mbr.path joinedM x c))) := by
    funext w
    rw [keep_is, keep_is, forgot_bare_merge]
    cases hf : forgottenM (mergeL Mbr.path joinedM x c) w.of with
    | true => rfl
    | false =>
      cases hm : mayP w.of with
      | false =>
        rw [find_merge, find_merge, hbx hm, none_of hx.may hm, none_of hc.may hm]
        rfl
      | true =>
        have h := (eff_same hx hc _ w.of (Nat.le_refl _) hm hf).2
        cases h3 : findP (mergeL Mbr.path joinedM (bareM x) c) w.of with
        | none =>
          cases h4 : findP (mergeL Mbr.path joinedM x c) w.of with
          | none => rfl
          | some _ => rw [h3, h4] at h; cases h
        | some u =>
          cases h4 : findP (mergeL Mbr.path joinedM x c) w.of with
          | none => rw [h3, h4] at h; cases h
          | some v =>
            rw [h3, h4] at h
            simp only [Option.map_some, Option.some.injEq, effM, Prod.mk.injEq] at h
            simp only [h.1]
  have hKX : ∀ y ∈ x, ∀ w ∈ y.words, keepW (leftM (voidedM (mergeL Mbr.path joinedM x c))) w = true → keepW (leftM (voidedM x)) w = true := by
    intro y hy w hwy hk
    rw [keep_is] at hk ⊢
    simp only [Bool.and_eq_true, Bool.not_eq_true'] at hk
    obtain ⟨z, hz, hz4⟩ := hw y hy w hwy
    rw [forgot_left hk.1, hz]
    have : (vset x z).status = 4 := by unfold vset; split; · rfl
                                       · exact hz4
    simp [this]
  obtain ⟨κ, hκ⟩ : ∃ κ : Str → Bool, ∀ w : Word, keepW (leftM (voidedM (mergeL Mbr.path joinedM x c))) w = κ w.of := ⟨fun q => match atP (leftM (voidedM (mergeL Mbr.path joinedM x c))) q with | some x => decide (x.status = 4) | none => false, fun _ => rfl⟩
  have hκ' : keepW (leftM (voidedM (mergeL Mbr.path joinedM x c))) = fun w => κ w.of := funext hκ
  refine srt_find (bare_srt su) (bare_srt sv) fun p => ?_
  show findP _ p = findP _ p
  rw [findP_bare, findP_bare, forgot_bare_merge]
  cases hf : forgottenM (mergeL Mbr.path joinedM x c) p with
  | true => rfl
  | false =>
    simp only [Bool.false_eq_true, if_false]
    cases hm : mayP p with
    | false =>
      rw [find_merge, find_merge, hbx hm, none_of hx.may hm, none_of hc.may hm]
      rfl
    | true =>
      have hE := (eff_same hx hc _ p (Nat.le_refl _) hm hf).2
      have hfx := forgot_left hf
      rw [find_merge, find_merge, findP_bare, hfx] at hE ⊢
      simp only [Bool.false_eq_true, if_false] at hE ⊢
      have hwf : ∀ y ∈ x, (y.words.filter (keepW (leftM (voidedM x)))).filter (fun w => κ w.of) = y.words.filter fun w => κ w.of := by
        intro y hy
        rw [List.filter_filter]
        refine List.filter_congr fun w hwy => ?_
        cases hk : κ w.of with
        | false => rfl
        | true => rw [hKX y hy w hwy (by rw [hκ]; exact hk)]; rfl
      cases h3 : findP x p with
      | none =>
        rw [h3] at hE
        cases h4 : findP c p with
        | none => rfl
        | some z =>
          rw [h4] at hE
          simp only [Option.map_none, mrgO, Option.map_some, Option.some.injEq, effM] at hE ⊢
          obtain ⟨a1, a2, a3, a4, a5, a6⟩ := vset_same (mergeL Mbr.path joinedM (bareM x) c) z
          obtain ⟨b1, b2, b3, b4, b5, b6⟩ := vset_same (mergeL Mbr.path joinedM x c) z
          refine words_eq (a1.trans b1.symm) hE (a2.trans b2.symm) (a3.trans b3.symm) (a4.trans b4.symm) (a5.trans b5.symm) ?_
          rw [a6, b6, hK]
      | some y =>
        have hyx := findP_mem h3
        obtain ⟨d1, d2, d3, d4, d5, d6⟩ := words_same (leftM (voidedM x)) (vset x y)
        rw [vset_words] at d6
        obtain ⟨c1, c2, c3, c4, c5, -⟩ := vset_same x y
        rw [c1] at d1
        rw [c2] at d2
        rw [c3] at d3
        rw [c4] at d4
        rw [c5] at d5
        rw [h3] at hE
        rw [Option.map_some] at hE ⊢
        have hwf := hwf y hyx
        rw [← d6] at hwf
        generalize wordsM (leftM (voidedM x)) (vset x y) = y' at *
        cases h4 : findP c p with
        | none =>
          rw [h4] at hE
          simp only [mrgO, Option.map_some, Option.some.injEq, effM] at hE ⊢
          obtain ⟨a1, a2, a3, a4, a5, a6⟩ := vset_same (mergeL Mbr.path joinedM (bareM x) c) y'
          obtain ⟨b1, b2, b3, b4, b5, b6⟩ := vset_same (mergeL Mbr.path joinedM x c) y
          refine words_eq ((a1.trans d1).trans b1.symm) hE ((a2.trans d2).trans b2.symm) ((a3.trans d3).trans b3.symm) ((a4.trans d4).trans b4.symm) ((a5.trans d5).trans b5.symm) ?_
          rw [a6, b6, hK, hκ', hwf]
        | some z =>
          rw [h4] at hE
          simp only [mrgO, Option.map_some, Option.some.injEq, effM] at hE ⊢
          obtain ⟨a1, a2, a3, a4, a5, a6⟩ := vset_same (mergeL Mbr.path joinedM (bareM x) c) (joinedM y' z)
          obtain ⟨b1, b2, b3, b4, b5, b6⟩ := vset_same (mergeL Mbr.path joinedM x c) (joinedM y z)
          obtain ⟨e1, e2, e3, e4, e5, e6⟩ := joined_same y' z
          obtain ⟨f1, f2, f3, f4, f5, f6⟩ := joined_same y z
          refine words_eq (by rw [a1, b1, e1, f1, d1]) hE (by rw [a2, b2, e2, f2, d2]) (by rw [a3, b3, e3, f3, d3]) (by rw [a4, b4, e4, f4, d4]) (by rw [a5, b5, e5, f5, d5]) ?_
          rw [a6, b6, hK, hκ', e6, f6, merge_filter said_name κ, merge_filter said_name κ, hwf]
end Go.Proofs.YtblkikjmocnllaaGreatDoor
namespace Go.Proofs.YtblkikjmocnllaaGreatDoor

theorem ok_rest {l : List Mbr} {x : Mbr} (h : okM l x = true) : goneB x = true ∧ planOk x = true ∧ wordsB l x = true := by
  unfold okM at h
  simp only [Bool.and_eq_true] at h
  exact ⟨h.2.2.2.2.1, h.2.2.2.2.2.1, h.2.2.2.2.2.2⟩
theorem may_good {l : List Mbr} (h : may20 l = true) : GoodL l where
  srt := may_srt h
  may x hx := (ok_parts ((may_facts h).ok x hx)).1
  st x hx := ((ok_parts ((may_facts h).ok x hx)).2.2.2).1.2
  cut x hx := ((ok_parts ((may_facts h).ok x hx)).2.2.2).2.2.1.1
theorem gone_sep {k : Int} : ∀ {l : List Span} {t : Span}, chkF (goneOk k) goneLe (some t) l = true → SepF t.2 l
  | [], _, _ => trivial
  | s :: r, t, h => by
    simp only [chkF, Bool.and_eq_true] at h
    obtain ⟨⟨h1, h2⟩, h3⟩ := h
    unfold goneOk at h1
    unfold goneLe at h2
    simp only [Bool.and_eq_true, decide_eq_true_eq] at h1 h2
    exact ⟨h2, h1.1.2, gone_sep h3⟩
theorem gone_sep0 {k : Int} {l : List Span} (h : chkF (goneOk k) goneLe none l = true) : Sep l := by
  cases l with
  | nil => trivial
  | cons s r =>
    simp only [chkF, Bool.and_eq_true] at h
    have h1 := h.1
    unfold goneOk at h1
    simp only [Bool.and_eq_true, decide_eq_true_eq] at h1
    exact ⟨h1.1.2, gone_sep h.2⟩
theorem words_srt {l : List Mbr} {p : Str} : ∀ {r : List Word} {t : Word}, chkF (wOk l p) wLe (some t) r = true → SrtN Word.of (t :: r)
  | [], _, _ => by simp [SrtN]
  | x :: r, t, h => by
    simp only [chkF, Bool.and_eq_true] at h
    have h1 : cmpPath t.of x.of < 0 := by
      have := h.1.2
      unfold wLe at this
      simpa using this
    have ih := words_srt h.2
    refine List.pairwise_cons.2 ⟨fun y hy => ?_, ih⟩
    rcases List.mem_cons.1 hy with rfl | hy
    · exact h1
    · exact cmpPath_trans h1 ((List.pairwise_cons.1 ih).1 y hy)
theorem words_srt0 {l : List Mbr} {p : Str} {r : List Word} (h : chkF (wOk l p) wLe none r = true) : SrtN Word.of r := by
  cases r with
  | nil => exact List.Pairwise.nil
  | cons t r =>
    simp only [chkF, Bool.and_eq_true] at h
    exact words_srt h.2
theorem may_nice {l : List Mbr} (h : may20 l = true) : ∀ x ∈ l, NiceM x := fun x hx => by
  obtain ⟨h1, -, h3⟩ := ok_rest ((may_facts h).ok x hx)
  exact ⟨gone_sep0 h1, words_srt0 h3, (may_good h).cut x hx⟩
theorem wOk_parts {l : List Mbr} {p : Str} {s : Word} (h : wOk l p s = true) : keepW l s = true ∧ s.of ≠ p ∧ wordOk s = true := by
  unfold wOk at h
  simp only [Bool.and_eq_true, Bool.not_eq_true', decide_eq_false_iff_not] at h
  exact ⟨h.1.1, h.1.2, h.2⟩
theorem may_said {l : List Mbr} (h : may20 l = true) {x : Mbr} (hx : x ∈ l) {w : Word} (hw : w ∈ x.words) : keepW l w = true ∧ w.of ≠ x.path ∧ wordOk w = true :=
  wOk_parts (chkF_ok (ok_rest ((may_facts h).ok x hx)).2.2 w hw)
theorem may_words {l : List Mbr} (h : may20 l = true) : WordsOk l := fun x hx w hw => by
  have := (may_said h hx hw).1
  unfold keepW at this
  rw [at_find] at this
  cases hf : findP l w.of with
  | none => rw [hf] at this; cases this
  | some y => rw [hf] at this; exact ⟨y, rfl, by simpa using this⟩

theorem GoodL.merge {a b : List Mbr} (ha : GoodL a) (hb : GoodL b) : GoodL (mergeL Mbr.path joinedM a b) where
  srt := merge_srt a b
  may x hx := by
    rcases mergeL_mem hx with h | h | ⟨y, hy, z, hz, -, rfl⟩
    · exact ha.may x h
    · exact hb.may x h
    · exact ha.may y hy
  st x hx := by
    rcases mergeL_mem hx with h | h | ⟨y, hy, z, hz, -, rfl⟩
    · exact ha.st x h
    · exact hb.st x h
    · have := ha.st y hy; have := hb.st z hz
      show max y.status z.status ≤ 4
      omega
  cut x hx := by
    rcases mergeL_mem hx with h | h | ⟨y, hy, z, hz, -, rfl⟩
    · exact ha.cut x h
    · exact hb.cut x h
    · exact lesser_nn _ _
theorem nice_merge {a b : List Mbr} (ha : ∀ x ∈ a, NiceM x) (hb : ∀ x ∈ b, NiceM x) : ∀ x ∈ mergeL Mbr.path joinedM a b, NiceM x := fun x hx => by
  rcases mergeL_mem hx with h | h | ⟨y, hy, z, hz, -, rfl⟩
  · exact ha x h
  · exact hb x h
  · exact ⟨spansM_sep _ _, merge_srtN said_name _ _, lesser_nn _ _⟩
theorem WordsOk.merge {a b : List Mbr} (ga : GoodL a) (gb : GoodL b) (ha : WordsOk a) (hb : WordsOk b) : WordsOk (mergeL Mbr.path joinedM a b) := by
  have l : ∀ q, (∃ y, findP a q = some y ∧ y.status = 4) → ∃ y, findP (mergeL Mbr.path joinedM a b) q = some y ∧ y.status = 4 := by
    rintro q ⟨y, h1, h2⟩
    rw [find_merge, h1]
    cases h3 : findP b q with
    | none => exact ⟨y, rfl, h2⟩
    | some z => exact ⟨_, rfl, by have := gb.st z (findP_mem h3); show max y.status z.status = 4; omega⟩
  have r : ∀ q, (∃ y, findP b q = some y ∧ y.status = 4) → ∃ y, findP (mergeL Mbr.path joinedM a b) q = some y ∧ y.status = 4 := by
    rintro q ⟨y, h1, h2⟩
    rw [find_merge, h1]
    cases h3 : findP a q with
    | none => exact ⟨y, rfl, h2⟩
    | some z => exact ⟨_, rfl, by have := ga.st z (findP_mem h3); show max z.status y.status = 4; omega⟩
  intro m hm w hw
  rcases mergeL_mem hm with h | h | ⟨y, hy, z, hz, -, rfl⟩
  · exact l _ (ha m h w hw)
  · exact r _ (hb m h w hw)
  · rcases mergeL_mem (show w ∈ mergeL Word.of saidM y.words z.words from hw) with h | h | ⟨u, hu, v, hv, -, rfl⟩
    · exact l _ (ha y hy w h)
    · exact r _ (hb z hz w h)
    · exact l _ (ha y hy u hu)
theorem bare_in {l : List Mbr} {y : Mbr} (h : y ∈ bareM l) : ∃ z ∈ l, y = wordsM (leftM (voidedM l)) (vset l z) ∧ forgottenM l z.path = false := by
  unfold bareM at h
  obtain ⟨u, hu, rfl⟩ := List.mem_map.1 h
  obtain ⟨hu1, hu2⟩ := List.mem_filter.1 hu
  obtain ⟨z, hz, rfl⟩ := List.mem_map.1 hu1
  rw [vset_path, forgotten_voided] at hu2
  exact ⟨z, hz, rfl, by simpa using hu2⟩
theorem GoodL.bare {l : List Mbr} (h : GoodL l) : GoodL (bareM l) where
  srt := bare_srt h.srt
  may x hx := by
    obtain ⟨z, hz, rfl, -⟩ := bare_in hx
    show mayP (vset l z).path = true
    rw [vset_path]
    exact h.may z hz
  st x hx := by
    obtain ⟨z, hz, rfl, -⟩ := bare_in hx
    show (vset l z).status ≤ 4
    have := h.st z hz
    unfold vset
    split
    · exact Nat.le_refl 4
    · exact this
  cut x hx := by
    obtain ⟨z, hz, rfl, -⟩ := bare_in hx
    show 0 ≤ (vset l z).cut
    have := h.cut z hz
    unfold vset
    split
    · show (0 : Int) ≤ 1; omega
    · exact this

section
variable {a b c : List Mbr} (ha : may20 a = true) (hb : may20 b = true) (hc : may20 c = true)
theorem join_comm (a b : List Mbr) : joinL a b = joinL b a := by unfold joinL; rw [members_comm]
include ha hb
theorem merge_good : GoodL (mergeL Mbr.path joinedM a b) := (may_good ha).merge (may_good hb)
theorem merge_words : WordsOk (mergeL Mbr.path joinedM a b) := .merge (may_good ha) (may_good hb) (may_words ha) (may_words hb)
theorem merge_nice : ∀ x ∈ mergeL Mbr.path joinedM a b, NiceM x := nice_merge (may_nice ha) (may_nice hb)
theorem join_back : joinL (joinL a b) a = joinL a b := by
  unfold joinL
  rw [bare_merge (merge_good ha hb) (may_good ha) (merge_words ha hb), members_absorb (may_good ha).srt (may_nice ha)]
theorem join_self : joinL (joinL a b) (joinL a b) = joinL a b := by
  unfold joinL
  have g := merge_good ha hb
  have w := merge_words ha hb
  rw [bare_merge g g.bare w, members_comm, bare_merge g g w, members_idem g.srt (merge_nice ha hb)]
include hc
theorem join_group : joinL (joinL a b) c = joinL a (joinL b c) := by
  unfold joinL
  rw [bare_merge (merge_good ha hb) (may_good hc) (merge_words ha hb), members_comm a (bareM _), bare_merge (merge_good hb hc) (may_good ha) (merge_words hb hc), members_comm _ a, members_assoc]
end

theorem known_find (l : List Mbr) (p : Str) : knownM l p = match findP l p with | some x => x.status | none => if forgottenM l p then 4 else voidChain l p (chainP p) := by
  unfold knownM
  rw [at_find]
  cases findP l p <;> rfl
theorem voidChain_04 (l : List Mbr) : ∀ (r : List Str) (p : Str), voidChain l p r = 0 ∨ voidChain l p r = 4
  | [], _ => .inl rfl
  | q :: r, p => by
    unfold voidChain
    cases atP l q with
    | none => exact voidChain_04 l r q
    | some x => simp only; split <;> simp
theorem known_le {l : List Mbr} (h : ∀ x ∈ l, x.status ≤ 4) (p : Str) : knownM l p ≤ 4 := by
  rw [known_find]
  cases hf : findP l p with
  | some x => exact h x (findP_mem hf)
  | none =>
    simp only
    split
    · omega
    · rcases voidChain_04 l (chainP p) p with e | e <;> omega
theorem bare_forgot {x : List Mbr} {p : Str} (h : forgottenM x p = true) : forgottenM (bareM x) p = true := by
  obtain ⟨r, h1, h2, h3⟩ := forgot_top h
  refine forgot_of (forgot_may h) h1 ?_
  rw [goneAt_bare, h2, h3]
  rfl
theorem known_gone {x : List Mbr} {p : Str} (h : forgottenM x p = true) : knownM (bareM x) p = 4 := by
  rw [known_find, findP_bare, h, bare_forgot h]
  rfl
theorem num_pos {p : Str} (h : 2 ≤ deepP p) : 1 ≤ numP p := by
  obtain ⟨t, q, -, -, -, h1, -, h2⟩ := par_form h
  unfold numP
  rw [if_neg (by omega), h1]
  simp
  omega
theorem par_deep2 {p : Str} (h : parP p ≠ []) : 2 ≤ deepP p := by
  apply Nat.le_of_not_lt
  intro hc
  exact h (by unfold parP; rw [if_pos hc])
theorem cut_plain {v : List Mbr} {y z : Mbr} {p : Str} (hs : y.status = 4 → z.status = 4) (hc : 0 < y.cut → 0 < z.cut ∧ z.cut ≤ y.cut) (h : cutsM y p = true) : cutsM (vset v z) p = true := by
  rw [cutsM_iff] at h
  have := hc h.2.1
  cases hz : voidIn v z.path with
  | true => rw [vset_yes hz, cutsM_iff]; exact ⟨rfl, by show (0 : Int) < 1; omega, by show (1 : Int) ≤ _; omega⟩
  | false => rw [vset_no hz, cutsM_iff]; exact ⟨hs h.1, this.1, by omega⟩
theorem void_down {a x : List Mbr} (hgo : ∀ q y, findP a q = some y → ∃ z, findP x q = some z ∧ (y.status = 4 → z.status = 4) ∧ (0 < y.cut → 0 < z.cut ∧ z.cut ≤ y.cut)) (hpar : ∀ q, parP q ≠ [] → findP x (parP q) = none → findP x q = none) :
    ∀ (n : Nat) (p : Str), p.length ≤ n → mayP p = true → forgottenM x p = false → voidChain a p (chainP p) = 4 → (∀ z, findP x p = some z → voidIn x p = true) ∧ (findP x p = none → voidChain (bareM x) p (chainP p) = 4)
  | n, p, hn, hm, hf, h => by
    rw [chainP_rest] at h ⊢
    unfold restC at h ⊢
    by_cases h0 : parP p = []
    · rw [if_pos h0] at h; cases h
    · rw [if_neg h0] at h ⊢
      have h2 := par_deep2 h0
      have hmq : mayP (parP p) = true := by unfold mayP; rw [parP_deep]; simp only [decide_eq_true_eq]; omega
      have hfq := forgot_par hm hf
      have hne : p ≠ [] := by
        rintro rfl
        have : deepP [] = 0 := by decide
        omega
      have hs := parP_short hne
      unfold voidChain at h ⊢
      rw [at_find] at h ⊢
      rw [findP_bare, hfq]
      cases ha : findP a (parP p) with
      | some y =>
        rw [ha] at h
        simp only at h
        have hcy : cutsM y p = true := by
          cases e : cutsM y p with
          | true => rfl
          | false => rw [e] at h; simp at h
        obtain ⟨z, hz, e1, e2⟩ := hgo _ _ ha
        have hcz := cut_plain (v := x) e1 e2 hcy
        have hcw : cutsM (wordsM (leftM (voidedM x)) (vset x z)) p = true := hcz
        refine ⟨fun _ _ => by rw [void_cut, hz]; exact hcz, fun _ => ?_⟩
        rw [hz]
        simp only [Bool.false_eq_true, if_false, Option.map_some, hcw, if_true]
      | none =>
        rw [ha] at h
        simp only at h
        cases n with
        | zero => exact absurd (List.eq_nil_of_length_eq_zero (by omega)) hne
        | succ n =>
          obtain ⟨i1, i2⟩ := void_down hgo hpar n (parP p) (by omega) hmq hfq h
          cases hx : findP x (parP p) with
          | some z =>
            have hv := i1 z hx
            rw [← findP_path hx] at hv
            have hcz : cutsM (vset x z) p = true := by
              rw [vset_yes hv, cutsM_iff]
              have := num_pos h2
              exact ⟨rfl, by show (0 : Int) < 1; omega, by show (1 : Int) ≤ _; omega⟩
            have hcw : cutsM (wordsM (leftM (voidedM x)) (vset x z)) p = true := hcz
            refine ⟨fun _ _ => by rw [void_cut, hx]; exact hcz, fun _ => ?_⟩
            simp only [Bool.false_eq_true, if_false, Option.map_some, hcw, if_true]
          | none =>
            have hxp := hpar p h0 hx
            refine ⟨fun z hz => (by rw [hxp] at hz; cases hz), fun _ => ?_⟩
            simp only [Bool.false_eq_true, if_false, Option.map_none]
            exact i2 hx
section
variable {a b : List Mbr} (ha : may20 a = true) (hb : may20 b = true)
include ha hb
theorem merge_par (q : Str) (h0 : parP q ≠ []) (h : findP (mergeL Mbr.path joinedM a b) (parP q) = none) : findP (mergeL Mbr.path joinedM a b) q = none := by
  cases hf : findP (mergeL Mbr.path joinedM a b) q with
  | none => rfl
  | some z =>
    exfalso
    have hp := findP_path hf
    obtain ⟨y, hy, e, -⟩ := (merge_may ha hb (findP_mem hf)).2.2 (by rw [hp]; rintro rfl; exact h0 (by decide))
    have := find_of (merge_srt a b) hy
    rw [e, hp, h] at this
    cases this
theorem merge_go (q : Str) (y : Mbr) (h : findP a q = some y) : ∃ z, findP (mergeL Mbr.path joinedM a b) q = some z ∧ (y.status = 4 → z.status = 4) ∧ (0 < y.cut → 0 < z.cut ∧ z.cut ≤ y.cut) := by
  rw [find_merge, h]
  cases h2 : findP b q with
  | none => exact ⟨y, rfl, fun e => e, fun e => ⟨e, Int.le_refl _⟩⟩
  | some z =>
    refine ⟨_, rfl, fun e => ?_, fun e => lesser_le e⟩
    have := (may_good hb).st z (findP_mem h2)
    show max y.status z.status = 4
    omega
theorem known_rises (p : Str) : knownM a p ≤ knownM (joinL a b) p := by
  unfold joinL
  cases hf : forgottenM (mergeL Mbr.path joinedM a b) p with
  | true => rw [known_gone hf]; exact known_le (may_good ha).st p
  | false =>
    have hfa := forgot_left hf
    rw [known_find a, known_find (bareM _), findP_bare, hf, hfa]
    simp only [Bool.false_eq_true, if_false]
    cases h1 : findP a p with
    | some y =>
      have : ∃ z, findP (mergeL Mbr.path joinedM a b) p = some z ∧ y.status ≤ z.status := by
        rw [find_merge, h1]
        cases h2 : findP b p with
        | none => exact ⟨y, rfl, Nat.le_refl _⟩
        | some z => exact ⟨_, rfl, Nat.le_max_left _ _⟩
      obtain ⟨z, hz, hle⟩ := this
      rw [hz]
      simp only [Option.map_some]
      have h4 := (may_good ha).st y (findP_mem h1)
      show y.status ≤ (vset _ z).status
      unfold vset
      split
      · exact h4
      · exact hle
    | none =>
      simp only
      rcases voidChain_04 a (chainP p) p with e | e
      · rw [e]; exact Nat.zero_le _
      · rw [e]
        have hm : mayP p = true := by
          have e2 := e
          rw [chainP_rest] at e2
          unfold restC at e2
          by_cases h0 : parP p = []
          · rw [if_pos h0] at e2; cases e2
          · have := par_deep2 h0
            unfold mayP
            simp only [decide_eq_true_eq]
            omega
        obtain ⟨i1, i2⟩ := void_down (merge_go ha hb) (merge_par ha hb) _ p (Nat.le_refl _) hm hf e
        cases hx : findP (mergeL Mbr.path joinedM a b) p with
        | some z =>
          simp only [Option.map_some]
          have hv := i1 z hx
          rw [← findP_path hx] at hv
          show 4 ≤ (vset _ z).status
          rw [vset_yes hv]
          exact Nat.le_refl 4
        | none =>
          simp only [Option.map_none]
          have h2 : forgottenM (bareM (mergeL Mbr.path joinedM a b)) p = false ∨ forgottenM (bareM (mergeL Mbr.path joinedM a b)) p = true := by cases forgottenM (bareM (mergeL Mbr.path joinedM a b)) p <;> simp
          rcases h2 with h2 | h2
          · rw [h2, i2 hx]; exact Nat.le_refl 4
          · rw [h2]; exact Nat.le_refl 4
theorem join_each {m : Mbr} (hm : m ∈ a) : (findP (joinL a b) m.path = none ∧ knownM (joinL a b) m.path = 4) ∨ ∃ y, findP (joinL a b) m.path = some y ∧ m.kids ≤ y.kids ∧ m.last ≤ y.last ∧ m.status ≤ y.status ∧ laterM y.plan m.plan = y.plan := by
  unfold joinL
  rw [findP_bare]
  cases hf : forgottenM (mergeL Mbr.path joinedM a b) m.path with
  | true => exact .inl ⟨rfl, known_gone hf⟩
  | false =>
    right
    have : ∃ z, findP (mergeL Mbr.path joinedM a b) m.path = some z ∧ m.kids ≤ z.kids ∧ m.last ≤ z.last ∧ m.status ≤ z.status ∧ laterM z.plan m.plan = z.plan := by
      rw [find_merge, find_of (may_good ha).srt hm]
      cases h2 : findP b m.path with
      | none => exact ⟨m, rfl, Int.le_refl _, Nat.le_refl _, Nat.le_refl _, later_idem _⟩
      | some z => exact ⟨_, rfl, Int.le_max_left _ _, Nat.le_max_left _ _, Nat.le_max_left _ _, later_absorb _ _⟩
    obtain ⟨z, hz, h1, h2, h3, h4⟩ := this
    rw [hz]
    simp only [Bool.false_eq_true, if_false, Option.map_some]
    obtain ⟨-, a2, a3, -, a5, -⟩ := vset_same (mergeL Mbr.path joinedM a b) z
    refine ⟨_, rfl, ?_, ?_, ?_, ?_⟩
    · show _ ≤ (vset _ z).kids; rw [a2]; exact h1
    · show _ ≤ (vset _ z).last; rw [a3]; exact h2
    · have h4 := (may_good ha).st m hm
      show _ ≤ (vset _ z).status
      unfold vset
      split
      · exact h4
      · exact h3
    · show laterM (vset _ z).plan _ = (vset _ z).plan; rw [a5]; exact h4
end
end Go.Proofs.YtblkikjmocnllaaGreatDoor
namespace Go.Proofs.YtblkikjmocnllaaGreatDoor

structure LowJ (n : Nat) (l : List Mbr) : Prop where
  len : l.length ≤ 40 * n
  path : ∀ x ∈ l, x.path.length ≤ 8192
  gone : ∀ x ∈ l, x.gone.length ≤ 8192 * n
  wlen : ∀ x ∈ l, x.words.length ≤ 8192 * n
  keeper : ∀ x ∈ l, x.plan.keeper.length ≤ 8192
  live : ∀ x ∈ l, x.plan.live.length ≤ 1125899906842624
  owner : ∀ x ∈ l, x.plan.owner.length ≤ 8192
  words : ∀ x ∈ l, ∀ s ∈ x.words, s.of.length ≤ 8192 ∧ s.keeper.length ≤ 8192
theorem low_j {l : List Mbr} (h40 : l.length ≤ 40) (hlow : ∀ x ∈ l, LowM x) (hg : HugeOk l) : LowJ 1 l where
  len := by omega
  path x hx := (hlow x hx).path
  gone x hx := by have := (hlow x hx).gone; omega
  wlen x hx := by have := (hlow x hx).wlen; omega
  keeper x hx := (hlow x hx).keeper
  live x hx := hg.live x hx
  owner x hx := (hlow x hx).owner
  words x hx := (hlow x hx).words
theorem later_one (x y : Plan) : laterM x y = x ∨ laterM x y = y := by
  unfold laterM
  split
  · exact .inr rfl
  · exact .inl rfl
theorem LowJ.merge {n m : Nat} {a b : List Mbr} (ha : LowJ n a) (hb : LowJ m b) : LowJ (n + m) (mergeL Mbr.path joinedM a b) where
  len := by have := mergeL_length (name := Mbr.path) (both := joinedM) (a := a) (b := b); have := ha.len; have := hb.len; omega
  path x hx := by
    rcases mergeL_mem hx with h | h | ⟨y, hy, z, hz, -, rfl⟩
    · exact ha.path x h
    · exact hb.path x h
    · exact ha.path y hy
  gone x hx := by
    rcases mergeL_mem hx with h | h | ⟨y, hy, z, hz, -, rfl⟩
    · have := ha.gone x h; omega
    · have := hb.gone x h; omega
    · have h1 := spansM_length y.gone z.gone
      have := ha.gone y hy
      have := hb.gone z hz
      show (spansM y.gone z.gone).length ≤ _
      omega
  wlen x hx := by
    rcases mergeL_mem hx with h | h | ⟨y, hy, z, hz, -, rfl⟩
    · have := ha.wlen x h; omega
    · have := hb.wlen x h; omega
    · have h2 := mergeL_length (name := Word.of) (both := saidM) (a := y.words) (b := z.words)
      have := ha.wlen y hy
      have := hb.wlen z hz
      show (mergeL Word.of saidM y.words z.words).length ≤ _
      omega
  keeper x hx := by
    rcases mergeL_mem hx with h | h | ⟨y, hy, z, hz, -, rfl⟩
    · exact ha.keeper x h
    · exact hb.keeper x h
    · show (laterM y.plan z.plan).keeper.length ≤ _
      rcases later_one y.plan z.plan with e | e <;> rw [e]
      · exact ha.keeper y hy
      · exact hb.keeper z hz
  live x hx := by
    rcases mergeL_mem hx with h | h | ⟨y, hy, z, hz, -, rfl⟩
    · exact ha.live x h
    · exact hb.live x h
    · show (laterM y.plan z.plan).live.length ≤ _
      rcases later_one y.plan z.plan with e | e <;> rw [e]
      · exact ha.live y hy
      · exact hb.live z hz
  owner x hx := by
    rcases mergeL_mem hx with h | h | ⟨y, hy, z, hz, -, rfl⟩
    · exact ha.owner x h
    · exact hb.owner x h
    · show (laterM y.plan z.plan).owner.length ≤ _
      rcases later_one y.plan z.plan with e | e <;> rw [e]
      · exact ha.owner y hy
      · exact hb.owner z hz
  words x hx s hs := by
    rcases mergeL_mem hx with h | h | ⟨y, hy, z, hz, -, rfl⟩
    · exact ha.words x h s hs
    · exact hb.words x h s hs
    · rcases mergeL_mem (show s ∈ mergeL Word.of saidM y.words z.words from hs) with h | h | ⟨u, hu, v, hv, -, rfl⟩
      · exact ha.words y hy s h
      · exact hb.words z hz s h
      · have h1 := ha.words y hy u hu
        have h2 := hb.words z hz v hv
        refine ⟨h1.1, ?_⟩
        show (if firstL (saidL u v) < 0 then v.keeper else u.keeper).length ≤ _
        split
        · exact h2.2
        · exact h1.2
theorem LowJ.bare {n : Nat} {l : List Mbr} (h : LowJ n l) : LowJ n (bareM l) where
  len := by
    have h1 : (bareM l).length ≤ l.length := by
      unfold bareM leftM
      rw [List.length_map]
      refine Nat.le_trans (List.length_filter_le _ _) ?_
      unfold voidedM
      rw [List.length_map]
      exact Nat.le_refl _
    have := h.len
    omega
  path x hx := by obtain ⟨z, hz, rfl, -⟩ := bare_in hx; show (vset l z).path.length ≤ _; rw [(vset_same l z).1]; exact h.path z hz
  gone x hx := by obtain ⟨z, hz, rfl, -⟩ := bare_in hx; show (vset l z).gone.length ≤ _; rw [(vset_same l z).2.2.2.1]; exact h.gone z hz
  wlen x hx := by
    obtain ⟨z, hz, rfl, -⟩ := bare_in hx
    show ((vset l z).words.filter _).length ≤ _
    rw [vset_words]
    exact Nat.le_trans (List.length_filter_le _ _) (h.wlen z hz)
  keeper x hx := by obtain ⟨z, hz, rfl, -⟩ := bare_in hx; show (vset l z).plan.keeper.length ≤ _; rw [(vset_same l z).2.2.2.2.1]; exact h.keeper z hz
  live x hx := by obtain ⟨z, hz, rfl, -⟩ := bare_in hx; show (vset l z).plan.live.length ≤ _; rw [(vset_same l z).2.2.2.2.1]; exact h.live z hz
  owner x hx := by obtain ⟨z, hz, rfl, -⟩ := bare_in hx; show (vset l z).plan.owner.length ≤ _; rw [(vset_same l z).2.2.2.2.1]; exact h.owner z hz
  words x hx s hs := by
    obtain ⟨z, hz, rfl, -⟩ := bare_in hx
    have hs : s ∈ (vset l z).words.filter (keepW (leftM (voidedM l))) := hs
    rw [vset_words] at hs
    exact h.words z hz s (List.mem_filter.1 hs).1
theorem LowJ.join {n m : Nat} {a b : List Mbr} (ha : LowJ n a) (hb : LowJ m b) : LowJ (n + m) (joinL a b) := (ha.merge hb).bare
theorem LowJ.ok {n : Nat} {l : List Mbr} (h : LowJ n l) (hn : n ≤ 4) : JoinOk l where
  len := by have := h.len; omega
  path x hx := by have := h.path x hx; omega
  keeper x hx := by have := h.keeper x hx; omega
  words x hx z hz := by have := h.words x hx z hz; omega
  gone x hx := by have := h.gone x hx; omega
  wlen x hx := by have := h.wlen x hx; omega
theorem LowJ.tidy {n : Nat} {l : List Mbr} (h : LowJ n l) (hn : n ≤ 4) : TidyL l where
  len := by have := h.len; omega
  path x hx := by have := h.path x hx; omega
  gone x hx := by have := h.gone x hx; omega
  wlen x hx := by have := h.wlen x hx; omega
  keeper x hx := by have := h.keeper x hx; omega
  live x hx := by have := h.live x hx; omega
  owner x hx := by have := h.owner x hx; omega
  words x hx s hs := by have := h.words x hx s hs; omega

theorem chkF_pw {α : Type} {ok : α → Bool} {le : α → α → Bool} {l : List α} (h : ∀ x ∈ l, ok x = true) (hp : l.Pairwise fun x y => le x y = true) : chkF ok le none l = true := by
  cases l with
  | nil => rfl
  | cons x r => rw [chkF_one (h x (by simp))]; exact chkF_of (fun y hy => h y (List.mem_cons_of_mem _ hy)) hp
theorem sepF_pw : ∀ {l : List Span} {n : Int}, SepF n l → l.Pairwise fun s t => goneLe s t = true
  | [], _, _ => .nil
  | s :: r, n, h => by
    refine List.pairwise_cons.2 ⟨fun t ht => ?_, sepF_pw h.2.2⟩
    have := SepF.lt h.2.2 t ht
    unfold goneLe
    simpa using this
theorem sepF_each : ∀ {l : List Span} {n : Int}, SepF n l → ∀ s ∈ l, s.1 < s.2
  | s :: r, n, h, t, ht => by
    rcases List.mem_cons.1 ht with rfl | ht
    · exact h.2.1
    · exact sepF_each h.2.2 t ht
theorem gone_of {k : Int} {l : List Span} (hs : Sep l) (h : ∀ n, withinL l n = true → 1 ≤ n ∧ n ≤ k) : chkF (goneOk k) goneLe none l = true := by
  have hF : ∃ n, SepF n l := by
    cases l with
    | nil => exact ⟨0, trivial⟩
    | cons s r => exact ⟨s.1 - 1, by show s.1 - 1 < s.1; omega, hs.1, hs.2⟩
  obtain ⟨n, hF⟩ := hF
  refine chkF_pw (fun s hs => ?_) (sepF_pw hF)
  have h1 := sepF_each hF s hs
  have h2 := h s.1 (withinL_iff.2 ⟨s, hs, Int.le_refl _, h1⟩)
  have h3 := h (s.2 - 1) (withinL_iff.2 ⟨s, hs, by omega, by omega⟩)
  unfold goneOk
  simp only [Bool.and_eq_true, decide_eq_true_eq]
  omega
theorem gone_bnd {x : Mbr} (h : goneB x = true) {n : Int} (hw : withinL x.gone n = true) : 1 ≤ n ∧ n ≤ x.kids := by
  obtain ⟨s, hs, h1, h2⟩ := withinL_iff.1 hw
  have := chkF_ok h s hs
  unfold goneOk at this
  simp only [Bool.and_eq_true, decide_eq_true_eq] at this
  omega
theorem goneB_joined {x y : Mbr} (hx : goneB x = true) (hy : goneB y = true) : goneB (joinedM x y) = true := by
  refine gone_of (spansM_sep x.gone y.gone) fun n h => ?_
  have h : withinL (spansM x.gone y.gone) n = true := h
  rw [spansM_in, Bool.or_eq_true] at h
  show 1 ≤ n ∧ n ≤ max x.kids y.kids
  rcases h with h | h
  · have := gone_bnd hx h; omega
  · have := gone_bnd hy h; omega
theorem fields_joined {x y : Mbr} (hx : FieldsM x) (hy : FieldsM y) : FieldsM (joinedM x y) := by
  unfold FieldsM at *
  have h1 : lesserM x.cut y.cut = 0 ∨ lesserM x.cut y.cut = x.cut ∨ lesserM x.cut y.cut = y.cut := by unfold lesserM; split <;> omega
  have h2 := lesser_nn x.cut y.cut
  show (1 ≤ max x.status y.status ∧ max x.status y.status ≤ 4) ∧ (0 ≤ max x.kids y.kids ∧ max x.kids y.kids ≤ 1073741824) ∧ (0 ≤ lesserM x.cut y.cut ∧ lesserM x.cut y.cut ≤ 1073741825 ∧ (lesserM x.cut y.cut ≤ 0 ∨ max x.status y.status = 4)) ∧ max x.last y.last ≤ 281474976710656 ∧ (max x.last y.last = 0 ∨ 3 ≤ max x.status y.status)
  omega
theorem planOk_of {x y : Mbr} (h : planOk x = true) (hp : y.plan = x.plan) (hq : y.path = x.path) (hs : x.status = 4 → y.status = 4) : planOk y = true := by
  unfold planOk at h ⊢
  rw [hp, hq]
  simp only [Bool.or_eq_true, Bool.and_eq_true, decide_eq_true_eq] at h ⊢
  rcases h with h | h
  · exact .inl h
  · exact .inr ⟨⟨⟨⟨hs h.1.1.1.1, h.1.1.1.2⟩, h.1.1.2⟩, h.1.2⟩, h.2⟩
theorem wordOk_said {v w : Word} (e : v.of = w.of) (hv : wordOk v = true) (hw : wordOk w = true) : wordOk (saidM v w) = true := by
  unfold wordOk at *
  simp only [Bool.and_eq_true, Bool.or_eq_true, decide_eq_true_eq] at hv hw ⊢
  obtain ⟨⟨⟨a1, a2⟩, a3⟩, a4⟩ := hv
  obtain ⟨⟨⟨b1, b2⟩, b3⟩, b4⟩ := hw
  refine ⟨⟨⟨?_, ?_⟩, ?_⟩, ?_⟩
  · show ((if firstL (saidL v w) < 0 then w.keeper else v.keeper).isEmpty = true ∧ (if firstL (saidL v w) < 0 then w.round else v.round) = 0) ∨ underP v.of (if firstL (saidL v w) < 0 then w.keeper else v.keeper) = true ∧ roundM (if firstL (saidL v w) < 0 then w.round else v.round) = true
    by_cases h : firstL (saidL v w) < 0
    · simp only [if_pos h]; rw [e]; exact b1
    · simp only [if_neg h]; exact a1
  · show max v.has w.has ≤ _; omega
  · show max v.cap w.cap ≤ _; omega
  · show max v.cap w.cap = 0 ∨ (v.agreed || w.agreed) = true
    rw [Bool.or_eq_true]
    rcases a4 with a4 | a4
    · rcases b4 with b4 | b4
      · left; omega
      · exact .inr (.inr b4)
    · exact .inr (.inl a4)
structure HalfOk (x : Mbr) : Prop where
  may : mayP x.path = true
  fields : FieldsM x
  gone : goneB x = true
  plan : planOk x = true
  words : ∀ w ∈ x.words, w.of ≠ x.path ∧ wordOk w = true
theorem may_half {l : List Mbr} (h : may20 l = true) {x : Mbr} (hx : x ∈ l) : HalfOk x := by
  have ok := (may_facts h).ok x hx
  obtain ⟨h1, -, -, h4⟩ := ok_parts ok
  obtain ⟨h5, h6, -⟩ := ok_rest ok
  exact ⟨h1, h4, h5, h6, fun w hw => (may_said h hx hw).2⟩
theorem half_joined {x y : Mbr} (hx : HalfOk x) (hy : HalfOk y) (e : x.path = y.path) : HalfOk (joinedM x y) := by
  refine ⟨hx.may, fields_joined hx.fields hy.fields, goneB_joined hx.gone hy.gone, ?_, fun w hw => ?_⟩
  · have h1 := hx.fields.1.2
    have h2 := hy.fields.1.2
    rcases later_one x.plan y.plan with h | h
    · exact planOk_of (y := joinedM x y) hx.plan h rfl (fun h4 => by show max x.status y.status = 4; omega)
    · exact planOk_of (y := joinedM x y) hy.plan h e (fun h4 => by show max x.status y.status = 4; omega)
  · show w.of ≠ x.path ∧ _
    rcases mergeL_mem (show w ∈ mergeL Word.of saidM x.words y.words from hw) with h | h | ⟨u, hu, v, hv, e2, rfl⟩
    · exact hx.words w h
    · rw [e]; exact hy.words w h
    · exact ⟨(hx.words u hu).1, wordOk_said e2 (hx.words u hu).2 (hy.words v hv).2⟩
theorem half_vset (l : List Mbr) {x : Mbr} (h : HalfOk x) : HalfOk (vset l x) := by
  obtain ⟨a1, a2, a3, a4, a5, a6⟩ := vset_same l x
  obtain ⟨h1, h2, h3, h4, h5⟩ := h
  refine ⟨by rw [a1]; exact h1, ?_, ?_, ?_, by rw [a1, a6]; exact h5⟩
  · unfold vset
    split
    · unfold FieldsM at *
      show (1 ≤ 4 ∧ 4 ≤ 4) ∧ (0 ≤ x.kids ∧ x.kids ≤ 1073741824) ∧ ((0 : Int) ≤ 1 ∧ (1 : Int) ≤ 1073741825 ∧ ((1 : Int) ≤ 0 ∨ 4 = 4)) ∧ x.last ≤ 281474976710656 ∧ (x.last = 0 ∨ 3 ≤ 4)
      omega
    · exact h2
  · unfold goneB; rw [a2, a4]; exact h3
  · refine planOk_of h4 a5 a1 fun h => ?_
    unfold vset
    split
    · rfl
    · exact h
section
variable {a b : List Mbr} (ha : may20 a = true) (hb : may20 b = true)
include ha hb
theorem merge_half {x : Mbr} (hx : x ∈ mergeL Mbr.path joinedM a b) : HalfOk x := by
  rcases mergeL_mem hx with h | h | ⟨y, hy, z, hz, e, rfl⟩
  · exact may_half ha h
  · exact may_half hb h
  · exact half_joined (may_half ha hy) (may_half hb hz) e
theorem may_root {l : List Mbr} (h : may20 l = true) : ∃ f, findP l [49] = some f ∧ f.status ≤ 2 := by
  have h' := h
  unfold may20 at h'
  cases l with
  | nil => simp at h'
  | cons x r =>
    simp only [List.head?_cons, Bool.and_eq_true, decide_eq_true_eq] at h'
    exact ⟨x, by rw [findP_cons, if_pos h'.2.1], h'.2.2.1⟩
omit ha hb in
theorem root_par : parP [49] = [] := by decide
theorem join_root : ∃ f ∈ joinL a b, f.path = [49] ∧ f.status ≤ 2 := by
  obtain ⟨f, hf, f2⟩ := may_root ha hb ha
  obtain ⟨g, hg, g2⟩ := may_root ha hb hb
  have hm : findP (mergeL Mbr.path joinedM a b) [49] = some (joinedM f g) := by rw [find_merge, hf, hg]; rfl
  have hno : findP (mergeL Mbr.path joinedM a b) [] = none := by
    cases e : findP (mergeL Mbr.path joinedM a b) [] with
    | none => rfl
    | some z => have := (merge_good ha hb).may z (findP_mem e); rw [findP_path e, mayP_nil] at this; cases this
  have hfo : forgottenM (mergeL Mbr.path joinedM a b) [49] = false := by
    unfold forgottenM
    rw [chainP_rest, root_par]
    unfold restC
    rw [if_pos rfl, List.any_cons, goneAt_find, root_par, hno]
    simp
  have hfi : findP (joinL a b) [49] = some (wordsM (leftM (voidedM (mergeL Mbr.path joinedM a b))) (vset (mergeL Mbr.path joinedM a b) (joinedM f g))) := by
    unfold joinL
    rw [findP_bare, hfo, hm]
    rfl
  refine ⟨_, findP_mem hfi, findP_path hfi, ?_⟩
  have hp := findP_path hm
  have hv : voidIn (mergeL Mbr.path joinedM a b) (joinedM f g).path = false := by rw [hp]; exact voidIn_short (by decide)
  show (vset _ (joinedM f g)).status ≤ 2
  rw [vset_no hv]
  show max f.status g.status ≤ 2
  omega
theorem join_pos : 0 < (joinL a b).length := by
  obtain ⟨f, hf, -⟩ := join_root ha hb
  exact List.length_pos_of_mem hf
theorem join_srt : SrtM (joinL a b) := bare_srt (merge_srt a b)
theorem join_ok {y : Mbr} (hy : y ∈ joinL a b) : okM (joinL a b) y = true := by
  have hy' := hy
  obtain ⟨z, hz, hyz, hfz⟩ := bare_in hy
  have hh := half_vset (mergeL Mbr.path joinedM a b) (merge_half ha hb hz)
  have hpz : (vset (mergeL Mbr.path joinedM a b) z).path = z.path := vset_path _ _
  have hp : y.path = z.path := by rw [hyz]; exact hpz
  have hmz : mayP z.path = true := by rw [← hpz]; exact hh.may
  have hf : forgottenM (joinL a b) y.path = false := by
    cases e : forgottenM (joinL a b) y.path with
    | false => rfl
    | true =>
      have := forgot_mono (x := joinL a b) (v := mergeL Mbr.path joinedM a b) (fun q h => by
        unfold joinL at h
        rw [goneAt_bare] at h
        simp only [Bool.and_eq_true] at h
        exact h.2) e
      rw [hp, hfz] at this
      cases this
  have hv : voidM (joinL a b) y.path = true → y.status = 4 ∧ y.cut = 1 := by
    intro h
    rw [voidM_find] at h
    unfold joinL at h
    rw [findP_bare] at h
    have h2 : voidIn (mergeL Mbr.path joinedM a b) y.path = true := by
      rw [void_cut]
      cases h3 : findP (mergeL Mbr.path joinedM a b) (parP y.path) with
      | none => rw [h3] at h; split at h <;> first | cases h | (rename_i e; split at e <;> cases e)
      | some u =>
        rw [h3] at h
        cases h4 : forgottenM (mergeL Mbr.path joinedM a b) (parP y.path) with
        | true => rw [h4] at h; cases h
        | false => rw [h4] at h; exact h
    rw [hp] at h2
    rw [hyz]
    show (vset _ z).status = 4 ∧ (vset _ z).cut = 1
    rw [vset_yes h2]
    exact ⟨rfl, rfl⟩
  have hwords : wordsB (joinL a b) y = true := by
    unfold wordsB
    have hyw : y.words = z.words.filter (keepW (leftM (voidedM (mergeL Mbr.path joinedM a b)))) := by
      rw [hyz]
      show (vset _ z).words.filter _ = _
      rw [vset_words]
    have hs : SrtN Word.of z.words := (merge_nice ha hb z hz).words
    rw [hyw]
    refine chkF_pw (fun w hw => ?_) ?_
    · obtain ⟨w1, w2⟩ := List.mem_filter.1 hw
      have h3 := hh.words w (by rw [vset_words]; exact w1)
      unfold wOk
      have h4 : keepW (joinL a b) w = true := by
        rw [keep_is] at w2
        simp only [Bool.and_eq_true, Bool.not_eq_true'] at w2
        unfold keepW
        rw [at_find]
        unfold joinL
        rw [findP_bare, w2.1]
        cases h5 : findP (mergeL Mbr.path joinedM a b) w.of with
        | none => rw [h5] at w2; cases w2.2
        | some u => rw [h5] at w2; exact w2.2
      rw [h4, h3.2, hp, ← hpz]
      simp [h3.1]
    · refine List.Pairwise.sublist List.filter_sublist ?_
      exact hs.imp fun {s t} h => by unfold wLe; simpa using h
  unfold okM
  have hh2 : FieldsM y := by rw [hyz]; exact hh.fields
  have hh3 : goneB y = true := by rw [hyz]; exact hh.gone
  have hh4 : planOk y = true := by rw [hyz]; exact hh.plan
  rw [hf, hp, hmz, ← hp, hh3, hh4, hwords, decide_eq_true hh2]
  cases e : voidM (joinL a b) y.path with
  | false => rfl
  | true => rw [decide_eq_true (hv e)]; rfl
theorem join_may (hl : (joinL a b).length ≤ 24) : may20 (joinL a b) = true := by
  obtain ⟨f, hfm, hfp, hf2⟩ := join_root ha hb
  have hs := join_srt ha hb
  have hok : ∀ y ∈ joinL a b, okM (joinL a b) y = true := fun y hy => join_ok ha hb hy
  have hpar : ∀ y ∈ joinL a b, y.path ≠ [49] → parOk (joinL a b) y.path = true := by
    intro y hy hne
    obtain ⟨z, hz, rfl, hfz⟩ := bare_in hy
    have hpz : (wordsM (leftM (voidedM (mergeL Mbr.path joinedM a b))) (vset (mergeL Mbr.path joinedM a b) z)).path = z.path := vset_path _ _
    rw [hpz] at hne ⊢
    obtain ⟨h1, -, h2⟩ := merge_may ha hb hz
    obtain ⟨u, hu, u1, u2⟩ := h2 hne
    have hu' := find_of (merge_srt a b) hu
    rw [u1] at hu'
    unfold parOk
    rw [at_find]
    unfold joinL
    rw [findP_bare, forgot_par h1 hfz, hu']
    have : (vset (mergeL Mbr.path joinedM a b) u).kids = u.kids := (vset_same _ u).2.1
    show decide ((numP z.path : Int) ≤ (vset _ u).kids) = true
    rw [this]
    simpa using u2
  generalize joinL a b = j at *
  have hhead : ∃ r, j = f :: r := by
    cases j with
    | nil => cases hfm
    | cons g r =>
      by_cases hg : g.path = [49]
      · obtain rfl := srt_uniq hs hfm (List.mem_cons_self ..) (hfp.trans hg.symm)
        exact ⟨r, rfl⟩
      · exfalso
        have h1 := root_lt (ok_parts (hok g (List.mem_cons_self ..))).1 hg
        rcases List.mem_cons.1 hfm with rfl | hx
        · exact hg hfp
        · have h2 := (List.pairwise_cons.1 hs).1 f hx
          rw [hfp] at h2
          have h3 := cmpPath_trans h1 h2
          rw [cmp_self] at h3
          omega
  obtain ⟨r, rfl⟩ := hhead
  unfold may20
  simp only [List.head?_cons, Bool.and_eq_true, decide_eq_true_eq]
  refine ⟨hl, hfp, hf2, ?_⟩
  rw [chkF_one (hok f (List.mem_cons_self ..))]
  refine chkF_of (fun x hx => hok x (List.mem_cons_of_mem _ hx)) ?_
  have hne : ∀ y ∈ r, y.path ≠ [49] := fun y hy e => by
    have := (List.pairwise_cons.1 hs).1 y hy
    rw [hfp, e, cmp_self] at this
    omega
  have hle : ∀ t y, y ∈ r → cmpPath t.path y.path < 0 → leM (f :: r) t y = true := fun t y hy hc => by
    unfold leM
    rw [hpar y (List.mem_cons_of_mem _ hy) (hne y hy)]
    simp [hc]
  refine List.pairwise_cons.2 ⟨fun y hy => hle f y hy ((List.pairwise_cons.1 hs).1 y hy), ?_⟩
  exact List.Pairwise.imp_of_mem (fun {a b} _ hb hc => hle a b hb hc) (List.pairwise_cons.1 hs).2
end
end Go.Proofs.YtblkikjmocnllaaGreatDoor
