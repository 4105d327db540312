/- MemberGone's plain law. -/
import Derived.Test.YtblkikjmocnllaaGreatDoorQw01
set_option linter.unusedVariables false
set_option linter.unusedSimpArgs false
set_option linter.unusedSectionVars false
namespace Go.Proofs.YtblkikjmocnllaaGreatDoor

theorem chk_srt {ok : Mbr → Bool} {l0 : List Mbr} : ∀ {l : List Mbr} {t : Mbr}, chkF ok (leM l0) (some t) l = true → SrtM (t :: l)
  | [], _, _ => by simp
  | x :: r, t, h => by
    simp only [chkF, Bool.and_eq_true] at h
    have h1 : cmpPath t.path x.path < 0 := by
      have := h.1.2
      unfold leM at this
      simp only [Bool.and_eq_true, decide_eq_true_eq] at this
      exact this.1
    have ih := chk_srt h.2
    refine List.pairwise_cons.2 ⟨fun y hy => ?_, ih⟩
    rcases List.mem_cons.1 hy with rfl | hy
    · exact h1
    · exact cmpPath_trans h1 ((List.pairwise_cons.1 ih).1 y hy)
theorem may_srt {l : List Mbr} (h : may20 l = true) : SrtM l := by
  unfold may20 at h
  cases l with
  | nil => simp at h
  | cons x r =>
    simp only [List.head?_cons, Bool.and_eq_true, decide_eq_true_eq] at h
    have h4 := h.2.2.2
    simp only [chkF, Bool.and_eq_true] at h4
    exact chk_srt h4.2
theorem chk_all {α : Type} {ok : α → Bool} {le : α → α → Bool} : ∀ {l : List α} {p : Option α}, chkF ok le p l = true → ∀ x ∈ l, ok x = true := fun h => chkF_ok h
theorem gone_kids {x : Mbr} (h : goneB x = true) {n : Nat} (hw : withinL x.gone n = true) : (n : Int) ≤ x.kids := by
  obtain ⟨s, hs, h1, h2⟩ := withinL_iff.1 hw
  have := chkF_ok h s hs
  unfold goneOk at this
  simp only [Bool.and_eq_true, decide_eq_true_eq] at this
  omega
theorem merge_has2 {a b : List Mbr} (ha : SrtM a) (hb : SrtM b) {x : Mbr} (hx : x ∈ a ∨ x ∈ b) : ∃ e ∈ mergeL Mbr.path joinedM a b, e.path = x.path ∧ x.kids ≤ e.kids ∧ ∀ n : Int, withinL x.gone n = true → withinL e.gone n = true := by
  have hk : x.path ∈ isort ltP (onceL (a.map Mbr.path ++ b.map Mbr.path)) := by
    rw [(isort_perm (lt := ltP) _).mem_iff, onceL_in, List.mem_append]
    rcases hx with h | h
    · exact .inl (List.mem_map.2 ⟨x, h, rfl⟩)
    · exact .inr (List.mem_map.2 ⟨x, h, rfl⟩)
  have hin : ∀ e, mrgO joinedM (a.find? fun y => decide (y.path = x.path)) (b.find? fun y => decide (y.path = x.path)) = some e → e ∈ mergeL Mbr.path joinedM a b := fun e h => List.mem_filterMap.2 ⟨_, hk, h⟩
  rcases hx with h | h
  · have e1 : a.find? (fun y => decide (y.path = x.path)) = some x := find_of ha h
    rw [e1] at hin
    cases e2 : b.find? fun y => decide (y.path = x.path) with
    | none => rw [e2] at hin; exact ⟨x, hin x rfl, rfl, Int.le_refl _, fun _ h => h⟩
    | some y =>
      rw [e2] at hin
      refine ⟨_, hin _ rfl, rfl, by show x.kids ≤ max x.kids y.kids; omega, fun n h => ?_⟩
      show withinL (spansM x.gone y.gone) n = true
      rw [spansM_in, h, Bool.true_or]
  · have e1 : b.find? (fun y => decide (y.path = x.path)) = some x := find_of hb h
    rw [e1] at hin
    cases e2 : a.find? fun y => decide (y.path = x.path) with
    | none => rw [e2] at hin; exact ⟨x, hin x rfl, rfl, Int.le_refl _, fun _ h => h⟩
    | some y =>
      rw [e2] at hin
      have hp : y.path = x.path := by simpa using List.find?_some e2
      refine ⟨_, hin _ rfl, hp, by show x.kids ≤ max y.kids x.kids; omega, fun n h => ?_⟩
      show withinL (spansM y.gone x.gone) n = true
      rw [spansM_in, h, Bool.or_true]

theorem chain_trans : ∀ (n : Nat) {y p q : Str}, y.length ≤ n → p ∈ chainP y → q ∈ chainP p → q ∈ chainP y
  | 0, y, p, q, hy, hp, _ => by
    obtain rfl : y = [] := List.eq_nil_of_length_eq_zero (by omega)
    have : chainP [] = [] := rfl
    rw [this] at hp
    cases hp
  | n + 1, y, p, q, hy, hp, hq => by
    have hne : y ≠ [] := by
      rintro rfl
      have : chainP [] = [] := rfl
      rw [this] at hp
      cases hp
    rw [chainP_rest] at hp ⊢
    unfold restC at hp ⊢
    by_cases h0 : parP y = []
    · rw [if_pos h0] at hp; cases hp
    · rw [if_neg h0] at hp ⊢
      rcases List.mem_cons.1 hp with rfl | hp
      · exact List.mem_cons_of_mem _ hq
      · exact List.mem_cons_of_mem _ (chain_trans n (by have := parP_short hne; omega) hp hq)
theorem chain_last {f : Str → Bool} : ∀ (n : Nat) {p : Str}, p.length ≤ n → (p :: chainP p).any f = true → ∃ r, r ∈ p :: chainP p ∧ f r = true ∧ (chainP r).any f = false
  | n, p, hn, h => by
    cases hc : (chainP p).any f with
    | false =>
      rw [List.any_cons, hc, Bool.or_false] at h
      exact ⟨p, List.mem_cons_self .., h, hc⟩
    | true =>
      have hc' := hc
      rw [chainP_rest] at hc
      unfold restC at hc
      by_cases h0 : parP p = []
      · rw [if_pos h0] at hc; cases hc
      · rw [if_neg h0] at hc
        have hne : p ≠ [] := by
          rintro rfl
          have : chainP [] = [] := rfl
          rw [this] at hc'
          cases hc'
        have hs := parP_short hne
        cases n with
        | zero => have : p = [] := List.eq_nil_of_length_eq_zero (by omega); exact absurd this hne
        | succ n =>
          obtain ⟨r, h1, h2, h3⟩ := chain_last n (by omega) hc
          refine ⟨r, List.mem_cons_of_mem _ ?_, h2, h3⟩
          rw [chainP_rest]
          unfold restC
          rw [if_neg h0]
          exact h1
end Go.Proofs.YtblkikjmocnllaaGreatDoor
namespace Go.Proofs.YtblkikjmocnllaaGreatDoor

theorem ok_gone {l : List Mbr} {x : Mbr} (h : okM l x = true) : goneB x = true := by
  unfold okM at h
  simp only [Bool.and_eq_true] at h
  exact h.2.2.2.2.1
section
variable {a b : List Mbr} (ha : may20 a = true) (hb : may20 b = true)
include ha hb
theorem merge_may {x : Mbr} (hx : x ∈ mergeL Mbr.path joinedM a b) : mayP x.path = true ∧ (∀ n : Nat, withinL x.gone n = true → (n : Int) ≤ x.kids) ∧ (x.path ≠ [49] → ∃ y ∈ mergeL Mbr.path joinedM a b, y.path = parP x.path ∧ (numP x.path : Int) ≤ y.kids) := by
  have fa := may_facts ha
  have fb := may_facts hb
  have sa := may_srt ha
  have sb := may_srt hb
  have par : ∀ l, MayF l → SrtM l → (∀ z, z ∈ l → z ∈ a ∨ z ∈ b) → ∀ x ∈ l, x.path ≠ [49] → ∃ y ∈ mergeL Mbr.path joinedM a b, y.path = parP x.path ∧ (numP x.path : Int) ≤ y.kids := by
    intro l fl sl hin x hx hne
    have h := fl.par x hx hne
    unfold parOk at h
    rw [at_find] at h
    cases hf : findP l (parP x.path) with
    | none => rw [hf] at h; cases h
    | some y =>
      rw [hf] at h
      simp only [decide_eq_true_eq] at h
      obtain ⟨e, he, e1, e2, -⟩ := merge_has2 sa sb (hin y (findP_mem hf))
      exact ⟨e, he, e1.trans (findP_path hf), by omega⟩
  rcases mergeL_mem hx with h | h | ⟨y, hy, z, hz, e, rfl⟩
  · exact ⟨(ok_parts (fa.ok x h)).1, fun n hn => gone_kids (ok_gone (fa.ok x h)) hn, par a fa sa (fun z hz => .inl hz) x h⟩
  · exact ⟨(ok_parts (fb.ok x h)).1, fun n hn => gone_kids (ok_gone (fb.ok x h)) hn, par b fb sb (fun z hz => .inr hz) x h⟩
  · refine ⟨(ok_parts (fa.ok y hy)).1, fun n hn => ?_, par a fa sa (fun z hz => .inl hz) y hy⟩
    have hn' : withinL (spansM y.gone z.gone) n = true := hn
    rw [spansM_in, Bool.or_eq_true] at hn'
    show (n : Int) ≤ max y.kids z.kids
    rcases hn' with h | h
    · have := gone_kids (ok_gone (fa.ok y hy)) h; omega
    · have := gone_kids (ok_gone (fb.ok z hz)) h; omega
variable {path : Str} (hf : forgottenM a path = true)
include hf
theorem merge_forgot : ∃ q ∈ path :: chainP path, goneAt (mergeL Mbr.path joinedM a b) q = true := by
  have sa := may_srt ha
  have sb := may_srt hb
  unfold forgottenM at hf
  simp only [Bool.and_eq_true] at hf
  obtain ⟨q, hq, hg⟩ := List.any_eq_true.1 hf.2
  refine ⟨q, hq, ?_⟩
  rw [goneAt_find] at hg ⊢
  cases hx : findP a (parP q) with
  | none => rw [hx] at hg; cases hg
  | some x =>
    rw [hx] at hg
    obtain ⟨e, he, e1, -, e3⟩ := merge_has2 sa sb (.inl (findP_mem hx))
    have h2 := find_of (merge_srt a b) he
    rw [e1, findP_path hx] at h2
    rw [h2]
    exact e3 _ hg
theorem merge_forgets {y : Str} (hm : mayP y = true) (h : y = path ∨ path ∈ chainP y) : forgottenM (mergeL Mbr.path joinedM a b) y = true := by
  obtain ⟨q, hq, hg⟩ := merge_forgot ha hb hf
  unfold forgottenM
  rw [hm, Bool.true_and, List.any_eq_true]
  refine ⟨q, ?_, hg⟩
  rcases h with rfl | h
  · exact hq
  · rcases List.mem_cons.1 hq with rfl | hq
    · exact List.mem_cons_of_mem _ h
    · exact List.mem_cons_of_mem _ (chain_trans _ (Nat.le_refl _) h hq)
theorem join_find (p : Str) : findP (joinL a b) p = if forgottenM (mergeL Mbr.path joinedM a b) p then none else (findP (mergeL Mbr.path joinedM a b) p).map fun x => wordsM (leftM (voidedM (mergeL Mbr.path joinedM a b))) (vset (mergeL Mbr.path joinedM a b) x) := findP_bare _ p
theorem vset_kids (l : List Mbr) (m : Mbr) : (vset l m).kids = m.kids := by unfold vset; split <;> rfl
theorem join_in {x : Mbr} (hx : x ∈ joinL a b) : ∃ y ∈ mergeL Mbr.path joinedM a b, x.path = y.path ∧ x.kids = y.kids ∧ forgottenM (mergeL Mbr.path joinedM a b) y.path = false ∧ x.words = y.words.filter (keepW (leftM (voidedM (mergeL Mbr.path joinedM a b)))) := by
  unfold joinL bareM at hx
  obtain ⟨z, hz, rfl⟩ := List.mem_map.1 hx
  obtain ⟨hz1, hz2⟩ := List.mem_filter.1 hz
  obtain ⟨y, hy, rfl⟩ := List.mem_map.1 hz1
  refine ⟨y, hy, vset_path _ _, ?_, ?_, ?_⟩
  · show (vset _ y).kids = y.kids
    unfold vset
    split <;> rfl
  · rw [vset_path, forgotten_voided] at hz2
    simpa using hz2
  · show (vset _ y).words.filter _ = _
    rw [vset_words]
theorem gone_apart {x : Mbr} (hx : x ∈ joinL a b) : x.path ≠ path ∧ path ∉ chainP x.path ∧ ∀ w ∈ x.words, w.of ≠ path := by
  obtain ⟨y, hy, e1, -, e3, e4⟩ := join_in ha hb hf hx
  have hm := (merge_may ha hb hy).1
  refine ⟨fun e => ?_, fun h => ?_, fun w hw e => ?_⟩
  · have := merge_forgets ha hb hf hm (.inl (e1.symm.trans e)); rw [e3] at this; cases this
  · have := merge_forgets ha hb hf hm (.inr (e1 ▸ h)); rw [e3] at this; cases this
  · rw [e4] at hw
    have hk := (List.mem_filter.1 hw).2
    unfold keepW at hk
    rw [at_find, e] at hk
    cases hq : findP (leftM (voidedM (mergeL Mbr.path joinedM a b))) path with
    | none => rw [hq] at hk; cases hk
    | some z =>
      obtain ⟨hz1, hz2⟩ := List.mem_filter.1 (findP_mem hq)
      obtain ⟨u, hu, rfl⟩ := List.mem_map.1 hz1
      rw [vset_path, forgotten_voided] at hz2
      have hp := findP_path hq
      rw [vset_path] at hp
      have := merge_forgets ha hb hf (merge_may ha hb hu).1 (.inl hp)
      rw [this] at hz2
      cases hz2
theorem gone_find : findP (joinL a b) path = none := by
  cases h : findP (joinL a b) path with
  | none => rfl
  | some x => exact absurd (findP_path h) (gone_apart ha hb hf (findP_mem h)).1
theorem gone_known : knownM (joinL a b) path = 4 := by
  have hmp : mayP path = true := by
    unfold forgottenM at hf
    simp only [Bool.and_eq_true] at hf
    exact hf.1
  unfold knownM
  rw [at_find, gone_find ha hb hf]
  simp only
  obtain ⟨q, hq, hg⟩ := merge_forgot ha hb hf
  obtain ⟨r, h1, h2, h3⟩ := chain_last (f := goneAt (mergeL Mbr.path joinedM a b)) _ (Nat.le_refl path.length) (List.any_eq_true.2 ⟨q, hq, hg⟩)
  have h4 : goneAt (joinL a b) r = true := by
    rw [goneAt_find] at h2 ⊢
    cases hy : findP (mergeL Mbr.path joinedM a b) (parP r) with
    | none => rw [hy] at h2; cases h2
    | some y =>
      rw [hy] at h2
      have hyp := findP_path hy
      have hmy := (merge_may ha hb (findP_mem hy)).1
      have h5 : forgottenM (mergeL Mbr.path joinedM a b) (parP r) = false := by
        unfold forgottenM
        rw [Bool.and_eq_false_iff]
        right
        rw [chainP_rest] at h3
        unfold restC at h3
        rw [if_neg (by rw [← hyp]; exact mayP_ne hmy)] at h3
        exact h3
      rw [join_find ha hb hf, h5, hy]
      show withinL (vset _ y).gone _ = true
      rw [vset_gone]
      exact h2
  have h6 : forgottenM (joinL a b) path = true := by
    unfold forgottenM
    rw [hmp, Bool.true_and, List.any_eq_true]
    exact ⟨r, h1, h4⟩
  rw [h6]
  rfl
theorem gone_admit {x : List Mbr} {p : Str} (h : admitM (joinL a b) (parP path) = (x, p, 0)) : p ≠ path ∧ x.length = (joinL a b).length + 1 := by
  unfold admitM at h
  cases hi : idxP (joinL a b) (parP path) with
  | none => rw [hi] at h; simp at h
  | some i =>
    obtain ⟨z, hz, hm, hp⟩ := idx_of hi
    rw [hi] at h
    simp only [hz] at h
    split at h
    · simp at h
    · split at h
      · simp at h
      · split at h
        · rename_i hch
          simp only [Prod.mk.injEq] at h
          exact absurd h.2.2 hch
        · rename_i hch
          simp only [Prod.mk.injEq, and_true] at h
          obtain ⟨e1, e2⟩ := h
          have hch : childP (parP path) (z.kids + 1) = (p, 0) := by
            have h0 : (childP (parP path) (z.kids + 1)).2 = 0 := Decidable.of_not_not hch
            rw [← e2, ← h0]
          obtain ⟨y, hy, y1, y2, y3, -⟩ := join_in ha hb hf hm
          have hnum := childP_num hch
          have hpar := childP_par hch
          -- a path whose number is the next has no member, and is not the forgotten one
          have hyp : y.path = parP path := y1.symm.trans hp
          have hfy := find_of (merge_srt a b) hy
          have hne : p ≠ path := by
            rintro rfl
            obtain ⟨q, hq, hg⟩ := merge_forgot ha hb hf
            rcases List.mem_cons.1 hq with rfl | hq
            · rw [goneAt_find, ← hyp, hfy] at hg
              have := (merge_may ha hb hy).2.1 _ hg
              omega
            · rw [chainP_rest] at hq
              unfold restC at hq
              rw [if_neg (by rw [← hyp]; exact mayP_ne (merge_may ha hb hy).1)] at hq
              unfold forgottenM at y3
              rw [(merge_may ha hb hy).1, Bool.true_and, hyp] at y3
              have := List.any_eq_false.1 y3 q hq
              exact this hg
          refine ⟨hne, ?_⟩
          have hno : ∀ u ∈ (joinL a b).set i { z with kids := z.kids + 1 }, u.path ≠ p := by
            have hj : ∀ u ∈ joinL a b, u.path ≠ p := by
              intro u hu e
              obtain ⟨v, hv, v1, -, -, -⟩ := join_in ha hb hf hu
              have hvp : v.path = p := v1.symm.trans e
              have h49 : v.path ≠ [49] := by
                intro e3
                have d1 := childP_deep hch
                obtain ⟨-, -, d2, -⟩ := childP_ok hch
                rw [← hvp, e3] at d1
                have d3 : deepP [49] = 1 := by decide
                omega
              obtain ⟨t, ht, t1, t2⟩ := (merge_may ha hb hv).2.2 h49
              rw [hvp, hpar, ← hyp] at t1
              have := srt_uniq (merge_srt a b) ht hy t1
              subst this
              rw [hvp] at t2
              omega
            intro u hu
            rcases List.mem_or_eq_of_mem_set hu with hu | rfl
            · exact hj u hu
            · exact hj z hm
          rw [hch] at e1
          subst e1
          unfold putM
          rw [show (newM p z).path = p from rfl, drop_none hno]
          simp only [List.length_append, List.length_take, List.length_cons, List.length_drop, List.length_set]
          omega
end
end Go.Proofs.YtblkikjmocnllaaGreatDoor
