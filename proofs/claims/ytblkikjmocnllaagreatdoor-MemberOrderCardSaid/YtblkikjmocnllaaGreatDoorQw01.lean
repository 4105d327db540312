/- What MemberPaths keeps of all memberships: none gets a path twice. -/
import Derived.Test.YtblkikjmocnllaaGreatDoorQv42
import Derived.Test.YtblkikjmocnllaaGreatDoorQv21
import Derived.Test.YtblkikjmocnllaaGreatDoorQv29
import Derived.Test.YtblkikjmocnllaaGreatDoorQv31
import Derived.Test.YtblkikjmocnllaaGreatDoorQv32
set_option linter.unusedVariables false
set_option linter.unusedSimpArgs false
set_option linter.unusedSectionVars false
namespace Go.Proofs.YtblkikjmocnllaaGreatDoor

structure TameM (x : Mbr) : Prop where
  may : mayP x.path = true
  len : x.path.length ≤ 11 * deepP x.path
  st : 1 ≤ x.status ∧ x.status ≤ 3
  kids : 0 ≤ x.kids ∧ x.kids ≤ 1073741824
  cut : x.cut = 0
  last : x.last ≤ 281474976710656 ∧ (x.last = 0 ∨ 3 ≤ x.status)
  gone : x.gone = []
  plan : x.plan = plan0
  words : x.words = []
abbrev SrtM (l : List Mbr) : Prop := l.Pairwise fun x y => cmpPath x.path y.path < 0
structure Tame (l : List Mbr) : Prop where
  srt : SrtM l
  each : ∀ x ∈ l, TameM x
  root : ∃ x ∈ l, x.path = [49] ∧ x.status = 2
  par : ∀ x ∈ l, x.path ≠ [49] → ∃ y ∈ l, y.path = parP x.path ∧ (numP x.path : Int) ≤ y.kids

theorem cmp_self (a : Str) : cmpPath a a = 0 := cmpPath_eq.2 rfl
theorem srt_uniq : ∀ {l : List Mbr}, SrtM l → ∀ {x y : Mbr}, x ∈ l → y ∈ l → x.path = y.path → x = y
  | [], _, _, _, h, _, _ => by cases h
  | z :: l, hs, x, y, hx, hy, e => by
    obtain ⟨h1, h2⟩ := List.pairwise_cons.1 hs
    rcases List.mem_cons.1 hx with rfl | kx <;> rcases List.mem_cons.1 hy with rfl | ky
    · rfl
    · have := h1 y ky; rw [e, cmp_self] at this; omega
    · have := h1 x kx; rw [e, cmp_self] at this; omega
    · exact srt_uniq h2 kx ky e
theorem find_of {l : List Mbr} (hs : SrtM l) {x : Mbr} (hx : x ∈ l) : findP l x.path = some x := by
  cases h : findP l x.path with
  | none =>
    have := List.find?_eq_none.1 h x hx
    simp at this
  | some y => rw [srt_uniq hs (findP_mem h) hx (findP_path h)]
theorem idx_of {l : List Mbr} {p : Str} {i : Nat} (h : idxP l p = some i) : ∃ x, l[i]? = some x ∧ x ∈ l ∧ x.path = p := by
  obtain ⟨h1, h2, -⟩ := List.findIdx?_eq_some_iff_getElem.1 h
  exact ⟨l[i], List.getElem?_eq_getElem h1, List.getElem_mem h1, by simpa using h2⟩
theorem idx_ex {l : List Mbr} {x : Mbr} (hx : x ∈ l) : ∃ i, idxP l x.path = some i := by
  cases h : idxP l x.path with
  | none =>
    have := List.findIdx?_eq_none_iff.1 h x hx
    simp at this
  | some i => exact ⟨i, rfl⟩
theorem set_srt {l : List Mbr} {i : Nat} {x y : Mbr} (hs : SrtM l) (hi : l[i]? = some x) (e : y.path = x.path) : SrtM (l.set i y) := by
  have h1 : (l.set i y).map Mbr.path = l.map Mbr.path := by
    apply List.ext_getElem?
    intro j
    rw [List.getElem?_map, List.getElem?_map, List.getElem?_set]
    by_cases hj : i = j
    · subst hj
      have hl : i < l.length := (List.getElem?_eq_some_iff.1 hi).1
      rw [if_pos rfl, if_pos hl, hi]
      simp [e]
    · rw [if_neg hj]
  have h2 : (l.map Mbr.path).Pairwise fun a b => cmpPath a b < 0 := List.pairwise_map.2 hs
  rw [← h1] at h2
  exact List.pairwise_map.1 h2
theorem set_in {l : List Mbr} {i : Nat} {x y z : Mbr} (hs : SrtM l) (hi : l[i]? = some x) (e : y.path = x.path) (hz : z ∈ l.set i y) : z = y ∨ (z ∈ l ∧ z.path ≠ x.path) := by
  by_cases h : z = y
  · exact .inl h
  · right
    have hl : i < l.length := (List.getElem?_eq_some_iff.1 hi).1
    refine ⟨(List.mem_or_eq_of_mem_set hz).resolve_right h, fun e2 => h ?_⟩
    exact srt_uniq (set_srt hs hi e) hz (List.mem_set hl y) (e2.trans e.symm)
theorem set_keep {l : List Mbr} {i : Nat} {x y z : Mbr} (hi : l[i]? = some x) (hz : z ∈ l) (hne : z.path ≠ x.path) : z ∈ l.set i y := by
  obtain ⟨j, hj, e⟩ := List.mem_iff_getElem.1 hz
  have hij : i ≠ j := by
    rintro rfl
    rw [List.getElem?_eq_getElem hj, e] at hi
    injection hi with hi
    exact hne (by rw [hi])
  refine List.mem_iff_getElem.2 ⟨j, by simpa using hj, ?_⟩
  rw [List.getElem_set_ne hij, e]

theorem root_lt {p : Str} (h : mayP p = true) (hne : p ≠ [49]) : cmpPath [49] p < 0 := by
  have h0 : 0 < deepP p := by unfold mayP at h; simpa using h
  have e1 : splitP [49] = [1] := by decide
  have d1 : deepP [49] = 1 := by unfold deepP; rw [e1]; rfl
  unfold cmpPath
  rw [if_neg (by omega), if_neg (by omega), if_neg (by omega), e1]
  have hh : (splitP p).head? = some 1 := by
    unfold deepP at h0
    unfold splitP at h0 ⊢
    simp only at h0 ⊢
    split at h0
    · rename_i hc
      rw [if_pos hc]
      simp only [Bool.and_eq_true] at hc
      simpa using hc.2
    · simp at h0
  cases hs : splitP p with
  | nil => rw [hs] at hh; cases hh
  | cons a r =>
    rw [hs] at hh
    injection hh with hh
    subst hh
    cases r with
    | nil =>
      exfalso
      refine hne (splitP_inj (hs.trans e1.symm) (by rw [hs]; simp))
    | cons b r => simp [cmpL]

theorem Tame.head {l : List Mbr} (h : Tame l) : ∃ f r, l = f :: r ∧ f.path = [49] ∧ f.status = 2 := by
  obtain ⟨x, hx, e1, e2⟩ := h.root
  cases l with
  | nil => cases hx
  | cons f r =>
    by_cases hf : f.path = [49]
    · obtain rfl := srt_uniq h.srt hx (List.mem_cons_self ..) (e1.trans hf.symm)
      exact ⟨x, r, rfl, e1, e2⟩
    · exfalso
      have h1 := root_lt (h.each f (List.mem_cons_self ..)).may hf
      rcases List.mem_cons.1 hx with rfl | hx
      · exact hf e1
      · have h2 := (List.pairwise_cons.1 h.srt).1 x hx
        rw [e1] at h2
        have h3 := cmpPath_trans h1 h2
        rw [cmp_self] at h3
        omega
theorem Tame.gone_at {l : List Mbr} (h : Tame l) (q : Str) : goneAt l q = false := by
  rw [goneAt_find]
  cases hf : findP l (parP q) with
  | none => rfl
  | some x => simp [(h.each x (findP_mem hf)).gone, withinL]
theorem Tame.forgot {l : List Mbr} (h : Tame l) (q : Str) : forgottenM l q = false := by
  unfold forgottenM
  rw [Bool.and_eq_false_iff]
  right
  rw [List.any_eq_false]
  intro x _
  rw [h.gone_at]
  simp
theorem Tame.void {l : List Mbr} (h : Tame l) (q : Str) : voidM l q = false := by
  rw [voidM_find]
  cases hf : findP l (parP q) with
  | none => rfl
  | some x => simp [cutsM, (h.each x (findP_mem hf)).cut]
theorem chkF_of {α : Type} {ok : α → Bool} {le : α → α → Bool} : ∀ {l : List α} {t : α}, (∀ x ∈ l, ok x = true) → (t :: l).Pairwise (fun x y => le x y = true) → chkF ok le (some t) l = true
  | [], _, _, _ => rfl
  | x :: r, t, h, hp => by
    obtain ⟨h1, h2⟩ := List.pairwise_cons.1 hp
    rw [chkF_on (h x (List.mem_cons_self ..)) (h1 x (List.mem_cons_self ..))]
    exact chkF_of (fun y hy => h y (List.mem_cons_of_mem _ hy)) h2
theorem Tame.ok {l : List Mbr} (h : Tame l) {x : Mbr} (hx : x ∈ l) : okM l x = true := by
  obtain ⟨h1, -, h2, h3, h4, h5, h6, h7, h8⟩ := h.each x hx
  unfold okM
  have e1 : goneB x = true := by unfold goneB; rw [h6]; rfl
  have e2 : wordsB l x = true := by unfold wordsB; rw [h8]; rfl
  have e3 : planOk x = true := by unfold planOk; rw [h7]; simp
  have e4 : FieldsM x := by unfold FieldsM; omega
  rw [h1, h.forgot, h.void, e1, e2, e3, decide_eq_true e4]
  rfl
theorem Tame.may {l : List Mbr} (h : Tame l) (hl : l.length ≤ 24) : may20 l = true := by
  obtain ⟨f, r, rfl, e1, e2⟩ := h.head
  unfold may20
  simp only [List.head?_cons, Bool.and_eq_true, decide_eq_true_eq]
  refine ⟨hl, e1, by omega, ?_⟩
  rw [chkF_one (h.ok (List.mem_cons_self ..))]
  refine chkF_of (fun x hx => h.ok (List.mem_cons_of_mem _ hx)) ?_
  have hne : ∀ y ∈ r, y.path ≠ [49] := fun y hy e => by
    have := (List.pairwise_cons.1 h.srt).1 y hy
    rw [e1, e, cmp_self] at this
    omega
  have hle : ∀ t y, y ∈ r → cmpPath t.path y.path < 0 → leM (f :: r) t y = true := fun t y hy hc => by
    unfold leM parOk
    obtain ⟨z, hz, e3, e4⟩ := h.par y (List.mem_cons_of_mem _ hy) (hne y hy)
    rw [at_find, ← e3, find_of h.srt hz]
    simp [hc, e4]
  refine List.pairwise_cons.2 ⟨fun y hy => hle f y hy ((List.pairwise_cons.1 h.srt).1 y hy), ?_⟩
  have h5 := (List.pairwise_cons.1 h.srt).2
  exact List.Pairwise.imp_of_mem (fun {a b} _ hb hc => hle a b hb hc) h5
theorem Tame.known {l : List Mbr} (h : Tame l) {x : Mbr} (hx : x ∈ l) : knownM l x.path = x.status ∧ 1 ≤ x.status := by
  unfold knownM
  rw [at_find, find_of h.srt hx]
  exact ⟨rfl, (h.each x hx).st.1⟩

theorem tame_begin : Tame [mbrB] where
  srt := by simp
  each x hx := by
    obtain rfl : x = mbrB := by simpa using hx
    exact ⟨by decide, by decide, by decide, by decide, rfl, by decide, rfl, rfl, rfl⟩
  root := ⟨mbrB, by simp, rfl, rfl⟩
  par x hx hne := by
    obtain rfl : x = mbrB := by simpa using hx
    exact absurd rfl hne
theorem Tame.set {l : List Mbr} (h : Tame l) {i : Nat} {x y : Mbr} (hi : l[i]? = some x) (e : y.path = x.path) (ty : TameM y) (hk : x.kids ≤ y.kids) (hr : x.path = [49] → y.status = 2) : Tame (l.set i y) := by
  have hl : i < l.length := (List.getElem?_eq_some_iff.1 hi).1
  have hx : x ∈ l := List.mem_of_getElem? hi
  have hy : y ∈ l.set i y := List.mem_set hl y
  have par : ∀ z ∈ l, z.path ≠ [49] → ∃ u ∈ l.set i y, u.path = parP z.path ∧ (numP z.path : Int) ≤ u.kids := fun z hz hne => by
    obtain ⟨u, hu, e1, e2⟩ := h.par z hz hne
    by_cases hp : u.path = x.path
    · obtain rfl := srt_uniq h.srt hu hx hp
      exact ⟨y, hy, e.trans e1, by omega⟩
    · exact ⟨u, set_keep hi hu hp, e1, e2⟩
  refine ⟨set_srt h.srt hi e, fun z hz => ?_, ?_, fun z hz hne => ?_⟩
  · rcases set_in h.srt hi e hz with rfl | ⟨hz, -⟩
    · exact ty
    · exact h.each z hz
  · obtain ⟨u, hu, e1, e2⟩ := h.root
    by_cases hp : u.path = x.path
    · exact ⟨y, hy, by rw [e, ← hp, e1], hr (by rw [← hp, e1])⟩
    · exact ⟨u, set_keep hi hu hp, e1, e2⟩
  · rcases set_in h.srt hi e hz with rfl | ⟨hz, -⟩
    · obtain ⟨u, hu, e1, e2⟩ := par x hx (by rwa [← e])
      exact ⟨u, hu, by rw [e1, e], by rw [e]; exact e2⟩
    · exact par z hz hne
end Go.Proofs.YtblkikjmocnllaaGreatDoor
namespace Go.Proofs.YtblkikjmocnllaaGreatDoor

theorem drop_none {l : List Mbr} {p : Str} (h : ∀ x ∈ l, x.path ≠ p) : dropP l p = l := by
  unfold dropP
  rw [List.filter_eq_self]
  intro x hx
  simp [h x hx]
theorem put_in {l : List Mbr} {m z : Mbr} (h : ∀ x ∈ l, x.path ≠ m.path) : z ∈ putM l m ↔ z = m ∨ z ∈ l := by
  unfold putM
  rw [drop_none h, List.mem_append, List.mem_cons]
  constructor
  · rintro (h | h | h)
    · exact .inr (List.mem_of_mem_take h)
    · exact .inl h
    · exact .inr (List.mem_of_mem_drop h)
  · rintro (h | h)
    · exact .inr (.inl h)
    · rw [← List.take_append_drop (posM l m.path) l, List.mem_append] at h
      rcases h with h | h
      · exact .inl h
      · exact .inr (.inr h)
theorem put_srt {l : List Mbr} {m : Mbr} (hs : SrtM l) (h : ∀ x ∈ l, x.path ≠ m.path) : SrtM (putM l m) := by
  unfold putM
  rw [drop_none h]
  have h1 : ∀ x ∈ l.take (posM l m.path), cmpPath x.path m.path < 0 := by
    intro x hx
    obtain ⟨j, hj, e⟩ := List.mem_iff_getElem.1 hx
    rw [List.getElem_take] at e
    have hj1 : j < posM l m.path := by rw [List.length_take] at hj; omega
    have hj2 : j < l.length := by rw [List.length_take] at hj; omega
    have h2 : ¬ 0 < cmpPath x.path m.path := by
      unfold posM at hj1
      cases hf : l.findIdx? fun x => decide (0 < cmpPath x.path m.path) with
      | none =>
        have := List.findIdx?_eq_none_iff.1 hf x (e ▸ List.getElem_mem hj2)
        simpa using this
      | some i =>
        rw [hf] at hj1
        obtain ⟨_, _, h3⟩ := List.findIdx?_eq_some_iff_getElem.1 hf
        have := h3 j hj1
        rw [e] at this
        simpa using this
    have h3 : cmpPath x.path m.path ≠ 0 := fun e2 => h x (List.mem_of_mem_take hx) (cmpPath_eq.1 e2)
    omega
  have h2 : ∀ x ∈ l.drop (posM l m.path), cmpPath m.path x.path < 0 := by
    intro x hx
    cases hf : l.findIdx? fun x => decide (0 < cmpPath x.path m.path) with
    | none =>
      unfold posM at hx
      rw [hf] at hx
      simp at hx
    | some i =>
      have e : posM l m.path = i := by unfold posM; rw [hf]; rfl
      rw [e] at hx
      obtain ⟨h3, h4, -⟩ := List.findIdx?_eq_some_iff_getElem.1 hf
      have h4 : 0 < cmpPath l[i].path m.path := by simpa using h4
      have h5 : cmpPath m.path l[i].path < 0 := by rw [cmpPath_anti]; omega
      rw [List.drop_eq_getElem_cons h3] at hx
      rcases List.mem_cons.1 hx with rfl | hx
      · exact h5
      · have h6 : (l.drop i).Pairwise fun x y => cmpPath x.path y.path < 0 := hs.sublist (List.drop_sublist ..)
        rw [List.drop_eq_getElem_cons h3] at h6
        exact cmpPath_trans h5 ((List.pairwise_cons.1 h6).1 x hx)
  rw [SrtM, List.pairwise_append]
  refine ⟨hs.sublist (List.take_sublist ..), List.pairwise_cons.2 ⟨h2, hs.sublist (List.drop_sublist ..)⟩, fun a ha b hb => ?_⟩
  rcases List.mem_cons.1 hb with rfl | hb
  · exact h1 a ha
  · exact cmpPath_trans (h1 a ha) (h2 b hb)
theorem Tame.put {l : List Mbr} (t : Tame l) {m : Mbr} (tm : TameM m) (h : ∀ x ∈ l, x.path ≠ m.path) (hp : ∃ y ∈ l, y.path = parP m.path ∧ (numP m.path : Int) ≤ y.kids) : Tame (putM l m) where
  srt := put_srt t.srt h
  each x hx := by
    rcases (put_in h).1 hx with rfl | hx
    · exact tm
    · exact t.each x hx
  root := by
    obtain ⟨x, hx, e⟩ := t.root
    exact ⟨x, (put_in h).2 (.inr hx), e⟩
  par x hx hne := by
    have : ∃ y ∈ l, y.path = parP x.path ∧ (numP x.path : Int) ≤ y.kids := by
      rcases (put_in h).1 hx with rfl | hx
      · exact hp
      · exact t.par x hx hne
    obtain ⟨y, hy, e⟩ := this
    exact ⟨y, (put_in h).2 (.inr hy), e⟩
theorem put_len1 {l : List Mbr} {m : Mbr} : (putM l m).length ≤ l.length + 1 := by
  have h1 : (dropP l m.path).length ≤ l.length := List.length_filter_le _ _
  unfold putM
  simp only [List.length_append, List.length_cons, List.length_take, List.length_drop]
  omega
theorem admit_ok {l m : List Mbr} {p c : Str} (t : Tame l) (hc : ∀ x ∈ l, x.path = p → ∀ y ∈ l, y.path ≠ (childP p (x.kids + 1)).1) (h : admitM l p = (m, c, 0)) :
    ∃ x ∈ l, x.path = p ∧ childP p (x.kids + 1) = (c, 0) ∧ Tame m ∧ l.length < 24 ∧ (∀ z, z ∈ m ↔ z = newM c x ∨ z = { x with kids := x.kids + 1 } ∨ (z ∈ l ∧ z.path ≠ p)) := by
  unfold admitM at h
  cases hi : idxP l p with
  | none => rw [hi] at h; simp at h
  | some i =>
    obtain ⟨x, hx, hm, hp⟩ := idx_of hi
    rw [hi] at h
    simp only [hx] at h
    split at h
    · simp at h
    · rename_i hst
      split at h
      · simp at h
      · rename_i hlim
        split at h
        · rename_i hch
          simp only [Prod.mk.injEq] at h
          exact absurd h.2.2 hch
        · rename_i hch
          simp only [Prod.mk.injEq, and_true] at h
          obtain ⟨e1, e2⟩ := h
          have hch : childP p (x.kids + 1) = (c, 0) := by
            have h0 : (childP p (x.kids + 1)).2 = 0 := Decidable.of_not_not hch
            rw [← e2, ← h0]
          have tx := t.each x hm
          have hst : x.status = 2 := Decidable.of_not_not hst
          obtain ⟨k1, k2, k3, k4, k5⟩ := childP_ok hch
          have tx1 : TameM { x with kids := x.kids + 1 } := ⟨tx.may, tx.len, tx.st, ⟨by have := tx.kids; show 0 ≤ x.kids + 1; omega, by show x.kids + 1 ≤ _; omega⟩, tx.cut, tx.last, tx.gone, tx.plan, tx.words⟩
          have t1 := t.set hx (y := { x with kids := x.kids + 1 }) rfl tx1 (by show x.kids ≤ x.kids + 1; omega) (fun _ => hst)
          have hcl := dec_len (u := (x.kids + 1).toNat) (by omega)
          have tn : TameM (newM c x) := by
            refine ⟨?_, ?_, by simp [newM], by simp [newM], rfl, by simp [newM], rfl, rfl, tx.words⟩
            · show mayP c = true
              unfold mayP
              rw [childP_deep hch]
              simp
            · show c.length ≤ 11 * deepP c
              rw [childP_deep hch, k5]
              have := tx.len
              rw [hp] at this
              simp only [List.length_append, List.length_cons]
              omega
          have hno : ∀ y ∈ l.set i { x with kids := x.kids + 1 }, y.path ≠ (newM c x).path := by
            intro y hy
            have hcc := hc x hm hp
            rw [hch] at hcc
            rcases set_in t.srt hx (by rfl) hy with rfl | ⟨hy, -⟩
            · exact hcc x hm
            · exact hcc y hy
          have hl : i < l.length := (List.getElem?_eq_some_iff.1 hx).1
          have hin : { x with kids := x.kids + 1 } ∈ l.set i { x with kids := x.kids + 1 } := List.mem_set hl _
          rw [hch] at e1
          subst e1
          refine ⟨x, hm, hp, hch, t1.put tn hno ⟨_, hin, ?_, ?_⟩, by omega, fun z => ?_⟩
          · show x.path = parP c
            rw [childP_par hch, hp]
          · show (numP c : Int) ≤ x.kids + 1
            rw [childP_num hch]
            omega
          · rw [put_in hno]
            constructor
            · rintro (h | h)
              · exact .inl h
              · rcases set_in t.srt hx (by rfl) h with h | ⟨h, h2⟩
                · exact .inr (.inl h)
                · exact .inr (.inr ⟨h, by rw [← hp]; exact h2⟩)
            · rintro (h | h | ⟨h, h2⟩)
              · exact .inl h
              · rw [h]; exact .inr hin
              · exact .inr (set_keep hx h (by rw [hp]; exact h2))
theorem up_ok {l m : List Mbr} {p : Str} (t : Tame l) (h : upM l p = (m, 0)) : ∃ x ∈ l, x.path = p ∧ Tame m ∧ (∀ z, z ∈ m → z = { x with status := 2 } ∨ (z ∈ l ∧ z.path ≠ p)) ∧ { x with status := 2 } ∈ m := by
  unfold upM at h
  cases hi : idxP l p with
  | none => rw [hi] at h; simp at h
  | some i =>
    obtain ⟨x, hx, hm, hp⟩ := idx_of hi
    rw [hi] at h
    simp only [hx] at h
    split at h
    · simp at h
    · rename_i hst
      simp only [Prod.mk.injEq, and_true] at h
      subst h
      have tx := t.each x hm
      have hl : i < l.length := (List.getElem?_eq_some_iff.1 hx).1
      refine ⟨x, hm, hp, t.set hx rfl ⟨tx.may, tx.len, ⟨by show 1 ≤ 2; omega, by show 2 ≤ 3; omega⟩, tx.kids, tx.cut, ⟨tx.last.1, ?_⟩, tx.gone, tx.plan, tx.words⟩ (Int.le_refl _) (fun _ => rfl), fun z hz => ?_, List.mem_set hl _⟩
      · have := tx.last
        left
        show x.last = 0
        omega
      · rcases set_in t.srt hx (by rfl) hz with h | ⟨h, h2⟩
        · exact .inl h
        · exact .inr ⟨h, by rw [← hp]; exact h2⟩
theorem leave_ok {l m : List Mbr} {p : Str} {n : Nat} (t : Tame l) (h : leaveM l p n = (m, 0)) : ∃ x ∈ l, x.path = p ∧ Tame m ∧ (∀ z, z ∈ m → z = { x with status := 3, last := n } ∨ (z ∈ l ∧ z.path ≠ p)) ∧ { x with status := 3, last := n } ∈ m := by
  unfold leaveM at h
  cases hi : idxP l p with
  | none => rw [hi] at h; simp at h
  | some i =>
    obtain ⟨x, hx, hm, hp⟩ := idx_of hi
    rw [hi] at h
    simp only [hx] at h
    split at h
    · simp at h
    · rename_i hne
      split at h
      · simp at h
      · simp only [Prod.mk.injEq, and_true] at h
        subst h
        have tx := t.each x hm
        have hl : i < l.length := (List.getElem?_eq_some_iff.1 hx).1
        refine ⟨x, hm, hp, t.set hx rfl ⟨tx.may, tx.len, ⟨by show 1 ≤ 3; omega, by show 3 ≤ 3; omega⟩, tx.kids, tx.cut, ⟨?_, .inr (Nat.le_refl _)⟩, tx.gone, tx.plan, tx.words⟩ (Int.le_refl _) (fun e => absurd (hp ▸ e) fun e => hne (.inl e)), fun z hz => ?_, List.mem_set hl _⟩
        · show n ≤ _
          omega
        · rcases set_in t.srt hx (by rfl) hz with h | ⟨h, h2⟩
          · exact .inl h
          · exact .inr ⟨h, by rw [← hp]; exact h2⟩

theorem bare_tame {l : List Mbr} (t : Tame l) : bareM l = l := by
  have hv : voidedM l = l := by
    unfold voidedM
    have : ∀ x ∈ l, vset l x = id x := fun x _ => by
      unfold vset
      rw [voidIn_is (fun y _ h => by rw [t.void] at h; cases h), t.void]
      rfl
    rw [List.map_congr_left this, List.map_id]
  unfold bareM
  rw [hv]
  have hl : leftM l = l := by
    unfold leftM
    rw [List.filter_eq_self]
    intro x _
    rw [t.forgot]
    rfl
  rw [hl]
  have : ∀ x ∈ l, wordsM l x = id x := fun x hx => by
    unfold wordsM
    have := (t.each x hx).words
    cases x
    simp only at this
    subst this
    rfl
  rw [List.map_congr_left this, List.map_id]
theorem joined_tame {x y : Mbr} (hx : TameM x) (hy : TameM y) (e : x.path = y.path) : TameM (joinedM x y) := by
  refine ⟨hx.may, hx.len, ?_, ?_, ?_, ?_, ?_, ?_, ?_⟩
  · have := hx.st; have := hy.st
    show 1 ≤ max x.status y.status ∧ max x.status y.status ≤ 3
    omega
  · have := hx.kids; have := hy.kids
    show 0 ≤ max x.kids y.kids ∧ max x.kids y.kids ≤ 1073741824
    omega
  · show lesserM x.cut y.cut = 0
    rw [hx.cut, hy.cut]
    rfl
  · have := hx.last; have := hy.last
    show max x.last y.last ≤ _ ∧ (max x.last y.last = 0 ∨ 3 ≤ max x.status y.status)
    omega
  · show spansM x.gone y.gone = []
    rw [hx.gone, hy.gone]
    unfold spansM
    simp [mrg]
  · show laterM x.plan y.plan = plan0
    rw [hx.plan, hy.plan]
    unfold laterM
    split <;> rfl
  · show mergeL Word.of saidM x.words y.words = []
    rw [hx.words, hy.words]
    rfl
theorem merge_srt (a b : List Mbr) : SrtM (mergeL Mbr.path joinedM a b) := by
  unfold mergeL
  have h1 := isort_sorted ltP_swo (onceL (a.map Mbr.path ++ b.map Mbr.path))
  have h2 : (isort ltP (onceL (a.map Mbr.path ++ b.map Mbr.path))).Nodup := (isort_perm (lt := ltP) _).nodup_iff.2 (onceL_nodup _)
  have h3 : (isort ltP (onceL (a.map Mbr.path ++ b.map Mbr.path))).Pairwise fun x y => cmpPath x y < 0 := by
    refine (h1.and h2).imp ?_
    intro x y ⟨e1, e2⟩
    simp only [ltP, decide_eq_false_iff_not] at e1
    have e3 : cmpPath y x = -cmpPath x y := cmpPath_anti x y
    have e4 : cmpPath x y ≠ 0 := fun e => e2 (cmpPath_eq.1 e)
    omega
  have key : ∀ k e, mrgO joinedM (a.find? fun x => decide (x.path = k)) (b.find? fun x => decide (x.path = k)) = some e → e.path = k := by
    intro k e h
    cases ha : a.find? fun x => decide (x.path = k) with
    | none =>
      rw [ha] at h
      cases hb : b.find? fun x => decide (x.path = k) with
      | none => rw [hb] at h; cases h
      | some y => rw [hb] at h; injection h with h; subst h; simpa using List.find?_some hb
    | some x =>
      have hp : x.path = k := by simpa using List.find?_some ha
      rw [ha] at h
      cases hb : b.find? fun x => decide (x.path = k) with
      | none => rw [hb] at h; injection h with h; subst h; exact hp
      | some y => rw [hb] at h; injection h with h; subst h; exact hp
  rw [SrtM, List.pairwise_filterMap]
  exact h3.imp fun {x y} h e1 h1 e2 h2 => by rw [key x e1 h1, key y e2 h2]; exact h
theorem merge_has {a b : List Mbr} (ha : SrtM a) (hb : SrtM b) {x : Mbr} (hx : x ∈ a ∨ x ∈ b) : ∃ e ∈ mergeL Mbr.path joinedM a b, e.path = x.path ∧ x.kids ≤ e.kids := by
  have hk : x.path ∈ isort ltP (onceL (a.map Mbr.path ++ b.map Mbr.path)) := by
    rw [(isort_perm (lt := ltP) _).mem_iff, onceL_in, List.mem_append]
    rcases hx with h | h
    · exact .inl (List.mem_map.2 ⟨x, h, rfl⟩)
    · exact .inr (List.mem_map.2 ⟨x, h, rfl⟩)
  have hin : ∀ e, mrgO joinedM (a.find? fun y => decide (y.path = x.path)) (b.find? fun y => decide (y.path = x.path)) = some e → e ∈ mergeL Mbr.path joinedM a b := fun e h => List.mem_filterMap.2 ⟨_, hk, h⟩
  rcases hx with h | h
  · have e1 : a.find? (fun y => decide (y.path = x.path)) = some x := find_of ha h
    rw [e1] at hin
    cases e2 : b.find? fun y => decide (y.path = x.path) with
    | none => rw [e2] at hin; exact ⟨x, hin x rfl, rfl, Int.le_refl _⟩
    | some y => rw [e2] at hin; exact ⟨_, hin _ rfl, rfl, by show x.kids ≤ max x.kids y.kids; omega⟩
  · have e1 : b.find? (fun y => decide (y.path = x.path)) = some x := find_of hb h
    rw [e1] at hin
    cases e2 : a.find? fun y => decide (y.path = x.path) with
    | none => rw [e2] at hin; exact ⟨x, hin x rfl, rfl, Int.le_refl _⟩
    | some y =>
      rw [e2] at hin
      have hp : y.path = x.path := by simpa using List.find?_some e2
      exact ⟨_, hin _ rfl, hp, by show x.kids ≤ max y.kids x.kids; omega⟩
theorem merge_tame {a b : List Mbr} (ta : Tame a) (tb : Tame b) : Tame (mergeL Mbr.path joinedM a b) where
  srt := merge_srt a b
  each x hx := by
    rcases mergeL_mem hx with h | h | ⟨y, hy, z, hz, e, rfl⟩
    · exact ta.each x h
    · exact tb.each x h
    · exact joined_tame (ta.each y hy) (tb.each z hz) e
  root := by
    obtain ⟨x, hx, e1, e2⟩ := ta.root
    obtain ⟨u, hu, k1, k2⟩ := tb.root
    obtain ⟨e, he, h1, -⟩ := merge_has ta.srt tb.srt (.inl hx)
    refine ⟨e, he, h1.trans e1, ?_⟩
    rcases mergeL_mem he with h | h | ⟨y, hy, z, hz, e3, rfl⟩
    · rw [srt_uniq ta.srt h hx h1, e2]
    · rw [srt_uniq tb.srt h hu (by rw [h1, e1, k1]), k2]
    · have h1 : y.path = x.path := h1
      rw [srt_uniq ta.srt hy hx h1, srt_uniq tb.srt hz hu (by rw [← e3, h1, e1, k1])]
      show max x.status u.status = 2
      omega
  par x hx hne := by
    rcases mergeL_mem hx with h | h | ⟨y, hy, z, hz, e, rfl⟩
    · obtain ⟨u, hu, e1, e2⟩ := ta.par x h hne
      obtain ⟨v, hv, e3, e4⟩ := merge_has ta.srt tb.srt (.inl hu)
      exact ⟨v, hv, e3.trans e1, by omega⟩
    · obtain ⟨u, hu, e1, e2⟩ := tb.par x h hne
      obtain ⟨v, hv, e3, e4⟩ := merge_has ta.srt tb.srt (.inr hu)
      exact ⟨v, hv, e3.trans e1, by omega⟩
    · obtain ⟨u, hu, e1, e2⟩ := ta.par y hy hne
      obtain ⟨v, hv, e3, e4⟩ := merge_has ta.srt tb.srt (.inl hu)
      exact ⟨v, hv, e3.trans e1, by show (numP y.path : Int) ≤ _; omega⟩
theorem join_tame {a b : List Mbr} (ta : Tame a) (tb : Tame b) : joinL a b = mergeL Mbr.path joinedM a b ∧ Tame (joinL a b) := by
  have h := bare_tame (merge_tame ta tb)
  unfold joinL
  rw [h]
  exact ⟨rfl, merge_tame ta tb⟩
end Go.Proofs.YtblkikjmocnllaaGreatDoor
namespace Go.Proofs.YtblkikjmocnllaaGreatDoor

structure PathsOk (all : List (List Mbr)) (who : List Str) : Prop where
  len : all.length = who.length
  pos : 0 < all.length
  tame : ∀ l ∈ all, Tame l
  nodup : who.Nodup
  own : ∀ (k : Nat) l p, all[k]? = some l → who[k]? = some p → ∃ x ∈ l, x.path = p
  inw : ∀ l ∈ all, ∀ x ∈ l, x.path ∈ who
  kids : ∀ (k : Nat) l p, all[k]? = some l → who[k]? = some p → ∀ x ∈ l, x.path = p → ∀ l' ∈ all, ∀ y ∈ l', y.path = p → y.kids ≤ x.kids
  child : ∀ (k : Nat) l p, all[k]? = some l → who[k]? = some p → ∀ x ∈ l, x.path = p → ∀ q ∈ who, q ≠ [49] → parP q = p → (numP q : Int) ≤ x.kids

theorem paths_begin : PathsOk [[mbrB]] [[49]] where
  len := rfl
  pos := by simp
  tame l hl := by
    obtain rfl : l = [mbrB] := by simpa using hl
    exact tame_begin
  nodup := by simp
  own k l p hk hp := by
    obtain rfl : k = 0 := by have := (List.getElem?_eq_some_iff.1 hk).1; simp at this; omega
    simp at hk hp
    subst hk hp
    exact ⟨mbrB, by simp, rfl⟩
  inw l hl x hx := by
    obtain rfl : l = [mbrB] := by simpa using hl
    obtain rfl : x = mbrB := by simpa using hx
    simp [mbrB]
  kids k l p hk hp x hx _ l' hl' y hy _ := by
    obtain rfl : k = 0 := by have := (List.getElem?_eq_some_iff.1 hk).1; simp at this; omega
    simp at hk
    subst hk
    obtain rfl : l' = [mbrB] := by simpa using hl'
    obtain rfl : x = mbrB := by simpa using hx
    obtain rfl : y = mbrB := by simpa using hy
    exact Int.le_refl _
  child k l p _ _ x _ _ q hq hne _ := absurd (by simpa using hq) hne

theorem nodup_at {α : Type} {l : List α} (h : l.Nodup) {i j : Nat} {x : α} (hi : l[i]? = some x) (hj : l[j]? = some x) : i = j := by
  obtain ⟨h1, h2⟩ := List.getElem?_eq_some_iff.1 hi
  obtain ⟨h3, h4⟩ := List.getElem?_eq_some_iff.1 hj
  rcases Nat.lt_trichotomy i j with hlt | e | hlt
  · exact absurd (h2.trans h4.symm) (List.pairwise_iff_getElem.1 h i j h1 h3 hlt)
  · exact e
  · exact absurd (h4.trans h2.symm) (List.pairwise_iff_getElem.1 h j i h3 h1 hlt)
theorem PathsOk.who_at {all : List (List Mbr)} {who : List Str} (h : PathsOk all who) {k : Nat} {l : List Mbr} (hk : all[k]? = some l) : ∃ p, who[k]? = some p := by
  have := (List.getElem?_eq_some_iff.1 hk).1
  exact ⟨_, List.getElem?_eq_getElem (by rw [← h.len]; exact this)⟩
theorem PathsOk.all_at {all : List (List Mbr)} {who : List Str} (h : PathsOk all who) {k : Nat} {p : Str} (hk : who[k]? = some p) : ∃ l, all[k]? = some l := by
  have := (List.getElem?_eq_some_iff.1 hk).1
  exact ⟨_, List.getElem?_eq_getElem (by rw [h.len]; exact this)⟩
theorem PathsOk.set {all : List (List Mbr)} {who : List Str} (h : PathsOk all who) {k : Nat} {l l' : List Mbr} {p : Str} (hk : all[k]? = some l) (hp : who[k]? = some p) (t : Tame l')
    (hin : ∀ z ∈ l', ∃ l0 ∈ all, ∃ y ∈ l0, y.path = z.path ∧ z.kids ≤ y.kids) (hown : ∃ x ∈ l', x.path = p) (hup : ∀ z ∈ l', z.path = p → ∀ x ∈ l, x.path = p → x.kids ≤ z.kids) : PathsOk (all.set k l') who := by
  have hkl : k < all.length := (List.getElem?_eq_some_iff.1 hk).1
  have at_ : ∀ (j : Nat) m, (all.set k l')[j]? = some m → (j = k ∧ m = l') ∨ (j ≠ k ∧ all[j]? = some m) := by
    intro j m hj
    rw [List.getElem?_set] at hj
    by_cases e : k = j
    · subst e
      rw [if_pos rfl, if_pos hkl] at hj
      injection hj with hj
      exact .inl ⟨rfl, hj.symm⟩
    · rw [if_neg e] at hj
      exact .inr ⟨fun e2 => e e2.symm, hj⟩
  have mem_ : ∀ m ∈ all.set k l', ∀ z ∈ m, ∃ l0 ∈ all, ∃ y ∈ l0, y.path = z.path ∧ z.kids ≤ y.kids := by
    intro m hm z hz
    rcases List.mem_or_eq_of_mem_set hm with hm | rfl
    · exact ⟨m, hm, z, hz, rfl, Int.le_refl _⟩
    · exact hin z hz
  have own_ : ∀ z ∈ l', z.path = p → ∀ m ∈ all, ∀ y ∈ m, y.path = p → y.kids ≤ z.kids := by
    intro z hz e m hm y hy e2
    obtain ⟨x, hx, e3⟩ := h.own k l p hk hp
    have h1 := h.kids k l p hk hp x hx e3 m hm y hy e2
    have h2 := hup z hz e x hx e3
    omega
  refine ⟨by simpa using h.len, by simpa using h.pos, fun m hm => ?_, h.nodup, fun j m q hj hq => ?_, fun m hm z hz => ?_, fun j m q hj hq x hx e m' hm' y hy e2 => ?_, fun j m q hj hq x hx e c hc hne hpar => ?_⟩
  · rcases List.mem_or_eq_of_mem_set hm with hm | rfl
    · exact h.tame m hm
    · exact t
  · rcases at_ j m hj with ⟨rfl, rfl⟩ | ⟨-, hj⟩
    · rw [hp] at hq
      injection hq with hq
      subst hq
      exact hown
    · exact h.own j m q hj hq
  · obtain ⟨l0, hl0, y, hy, e, -⟩ := mem_ m hm z hz
    rw [← e]
    exact h.inw l0 hl0 y hy
  · obtain ⟨l0, hl0, u, hu, e3, e4⟩ := mem_ m' hm' y hy
    rcases at_ j m hj with ⟨rfl, rfl⟩ | ⟨-, hj⟩
    · rw [hp] at hq
      injection hq with hq
      subst hq
      have := own_ x hx e l0 hl0 u hu (e3.trans e2)
      omega
    · have := h.kids j m q hj hq x hx e l0 hl0 u hu (e3.trans e2)
      omega
  · rcases at_ j m hj with ⟨rfl, rfl⟩ | ⟨-, hj⟩
    · rw [hp] at hq
      injection hq with hq
      subst hq
      obtain ⟨u, hu, e3⟩ := h.own j l p hk hp
      have h1 := h.child j l p hk hp u hu e3 c hc hne hpar
      have h2 := hup x hx e u hu e3
      omega
    · exact h.child j m q hj hq x hx e c hc hne hpar

section
variable {all : List (List Mbr)} {who : List Str} (h : PathsOk all who) {k : Nat} {l m : List Mbr} {p : Str} (hk : all[k]? = some l) (hp : who[k]? = some p)
include h hk hp
theorem PathsOk.up (hu : upM l p = (m, 0)) : PathsOk (all.set k m) who := by
  have hl : l ∈ all := List.mem_of_getElem? hk
  obtain ⟨x, hx, e, t, h1, h2⟩ := up_ok (h.tame l hl) hu
  refine h.set hk hp t (fun z hz => ?_) ⟨_, h2, e⟩ (fun z hz e1 u hu e2 => ?_)
  · rcases h1 z hz with rfl | ⟨hz, -⟩
    · exact ⟨l, hl, x, hx, rfl, Int.le_refl _⟩
    · exact ⟨l, hl, z, hz, rfl, Int.le_refl _⟩
  · rcases h1 z hz with rfl | ⟨-, hne⟩
    · rw [srt_uniq (h.tame l hl).srt hu hx (e2.trans e.symm)]
      exact Int.le_refl _
    · exact absurd e1 hne
theorem PathsOk.leave {n : Nat} (hu : leaveM l p n = (m, 0)) : PathsOk (all.set k m) who := by
  have hl : l ∈ all := List.mem_of_getElem? hk
  obtain ⟨x, hx, e, t, h1, h2⟩ := leave_ok (h.tame l hl) hu
  refine h.set hk hp t (fun z hz => ?_) ⟨_, h2, e⟩ (fun z hz e1 u hu e2 => ?_)
  · rcases h1 z hz with rfl | ⟨hz, -⟩
    · exact ⟨l, hl, x, hx, rfl, Int.le_refl _⟩
    · exact ⟨l, hl, z, hz, rfl, Int.le_refl _⟩
  · rcases h1 z hz with rfl | ⟨-, hne⟩
    · rw [srt_uniq (h.tame l hl).srt hu hx (e2.trans e.symm)]
      exact Int.le_refl _
    · exact absurd e1 hne
theorem PathsOk.join {b : List Mbr} (hb : b ∈ all) : PathsOk (all.set k (joinL l b)) who := by
  have hl : l ∈ all := List.mem_of_getElem? hk
  have tl := h.tame l hl
  have tb := h.tame b hb
  obtain ⟨e0, t⟩ := join_tame tl tb
  rw [e0] at t ⊢
  obtain ⟨x, hx, e⟩ := h.own k l p hk hp
  refine h.set hk hp t (fun z hz => ?_) ?_ (fun z hz e1 u hu e2 => ?_)
  · rcases mergeL_mem hz with h1 | h1 | ⟨y, hy, v, hv, e1, rfl⟩
    · exact ⟨l, hl, z, h1, rfl, Int.le_refl _⟩
    · exact ⟨b, hb, z, h1, rfl, Int.le_refl _⟩
    · by_cases hle : y.kids ≤ v.kids
      · exact ⟨b, hb, v, hv, e1.symm, by show max y.kids v.kids ≤ _; omega⟩
      · exact ⟨l, hl, y, hy, rfl, by show max y.kids v.kids ≤ _; omega⟩
  · obtain ⟨z, hz, e1, -⟩ := merge_has tl.srt tb.srt (.inl hx)
    exact ⟨z, hz, e1.trans e⟩
  · obtain ⟨v, hv, e3, e4⟩ := merge_has tl.srt tb.srt (.inl hu)
    rw [srt_uniq t.srt hz hv (e1.trans (e2.symm.trans e3.symm))]
    exact e4
theorem PathsOk.fresh {x : Mbr} (hx : x ∈ l) (e : x.path = p) {c : Str} (hc : childP p (x.kids + 1) = (c, 0)) : c ∉ who := by
  intro hm
  have h1 := childP_num hc
  have h2 : c ≠ [49] := by
    rintro rfl
    have := childP_deep hc
    obtain ⟨-, -, h3, -⟩ := childP_ok hc
    have d1 : deepP [49] = 1 := by decide
    omega
  have h3 := h.child k l p hk hp x hx e c hm h2 (childP_par hc)
  omega
theorem PathsOk.letIn {c : Str} (hadm : admitM l p = (m, c, 0)) : c ∉ who ∧ parP c = p ∧ mayP c = true ∧ c.length ≤ 88 ∧ PathsOk (all.set k m ++ [m]) (who ++ [c]) := by
  have hl : l ∈ all := List.mem_of_getElem? hk
  have tl := h.tame l hl
  have hnone : ∀ x ∈ l, x.path = p → ∀ y ∈ l, y.path ≠ (childP p (x.kids + 1)).1 := by
    intro x hx e y hy e2
    by_cases h0 : (childP p (x.kids + 1)).2 = 0
    · have hc : childP p (x.kids + 1) = ((childP p (x.kids + 1)).1, 0) := by rw [← h0]
      exact h.fresh hk hp hx e hc (e2 ▸ h.inw l hl y hy)
    · have h1 : (childP p (x.kids + 1)).1 = [] := by
        unfold childP at h0 ⊢
        split
        · rfl
        · split
          · rfl
          · split
            · rfl
            · rename_i a b c
              rw [if_neg a, if_neg b, if_neg c] at h0
              exact absurd rfl h0
      rw [h1] at e2
      exact mayP_ne (tl.each y hy).may e2
  obtain ⟨x, hx, e, hc, t, h24, hz⟩ := admit_ok tl hnone hadm
  have hf := h.fresh hk hp hx e hc
  have hne : c ≠ p := fun e2 => hf (e2 ▸ List.mem_of_getElem? hp)
  have hnm : newM c x ∈ m := (hz _).2 (.inl rfl)
  have hkm : { x with kids := x.kids + 1 } ∈ m := (hz _).2 (.inr (.inl rfl))
  have hkl : k < all.length := (List.getElem?_eq_some_iff.1 hk).1
  have tc := t.each _ hnm
  have hd8 : deepP c ≤ 8 := splitP_len c
  refine ⟨hf, childP_par hc, tc.may, ?_, ?_⟩
  · have : c.length ≤ 11 * deepP c := tc.len
    omega
  have own_ : ∀ z ∈ m, z.path = p → z.kids = x.kids + 1 := by
    intro z hz1 e1
    rcases (hz z).1 hz1 with rfl | rfl | ⟨-, h2⟩
    · exact absurd e1 hne
    · rfl
    · exact absurd e1 h2
  -- what each knows
  have mem_ : ∀ l' ∈ all.set k m ++ [m], ∀ z ∈ l', (z.path = c ∧ z.kids = 0) ∨ (z.path = p ∧ z.kids ≤ x.kids + 1) ∨ (z.path ≠ p ∧ ∃ l0 ∈ all, z ∈ l0) := by
    have hm : ∀ z ∈ m, (z.path = c ∧ z.kids = 0) ∨ (z.path = p ∧ z.kids ≤ x.kids + 1) ∨ (z.path ≠ p ∧ ∃ l0 ∈ all, z ∈ l0) := by
      intro z hz1
      rcases (hz z).1 hz1 with rfl | rfl | ⟨h1, h2⟩
      · exact .inl ⟨rfl, rfl⟩
      · exact .inr (.inl ⟨e, Int.le_refl _⟩)
      · exact .inr (.inr ⟨h2, l, hl, h1⟩)
    intro l' hl' z hz1
    rcases List.mem_append.1 hl' with hl' | hl'
    · rcases List.mem_or_eq_of_mem_set hl' with hl' | rfl
      · by_cases e1 : z.path = p
        · have := h.kids k l p hk hp x hx e l' hl' z hz1 e1
          exact .inr (.inl ⟨e1, by omega⟩)
        · exact .inr (.inr ⟨e1, l', hl', hz1⟩)
      · exact hm z hz1
    · obtain rfl : l' = m := by simpa using hl'
      exact hm z hz1
  have at_ : ∀ (j : Nat) l' q, (all.set k m ++ [m])[j]? = some l' → (who ++ [c])[j]? = some q → (j = k ∧ l' = m ∧ q = p) ∨ (j ≠ k ∧ all[j]? = some l' ∧ who[j]? = some q ∧ q ≠ p) ∨ (l' = m ∧ q = c) := by
    intro j l' q hj hq
    by_cases hjl : j < all.length
    · rw [List.getElem?_append_left (by simpa using hjl)] at hj
      rw [List.getElem?_append_left (by rw [← h.len]; exact hjl)] at hq
      rw [List.getElem?_set] at hj
      by_cases ek : k = j
      · subst ek
        rw [if_pos rfl, if_pos hkl] at hj
        rw [hp] at hq
        injection hj with hj
        injection hq with hq
        exact .inl ⟨rfl, hj.symm, hq.symm⟩
      · rw [if_neg ek] at hj
        refine .inr (.inl ⟨fun e2 => ek e2.symm, hj, hq, ?_⟩)
        rintro rfl
        exact ek (nodup_at h.nodup hp hq)
    · rw [List.getElem?_append_right (by simp; omega)] at hj
      rw [List.getElem?_append_right (by rw [← h.len]; omega)] at hq
      have e1 := List.mem_of_getElem? hj
      have e2 := List.mem_of_getElem? hq
      exact .inr (.inr ⟨by simpa using e1, by simpa using e2⟩)
  refine ⟨by simp [h.len], by simp, fun l' hl' => ?_, ?_, fun j l' q hj hq => ?_, fun l' hl' z hz1 => ?_, fun j l' q hj hq u hu e1 l2 hl2 y hy e2 => ?_, fun j l' q hj hq u hu e1 d hd hd1 hpar => ?_⟩
  · rcases List.mem_append.1 hl' with hl' | hl'
    · rcases List.mem_or_eq_of_mem_set hl' with hl' | rfl
      · exact h.tame l' hl'
      · exact t
    · obtain rfl : l' = m := by simpa using hl'
      exact t
  · rw [List.nodup_append]
    refine ⟨h.nodup, by simp, fun a ha b hb => ?_⟩
    obtain rfl : b = c := by simpa using hb
    rintro rfl
    exact hf ha
  · rcases at_ j l' q hj hq with ⟨rfl, rfl, rfl⟩ | ⟨-, h1, h2, -⟩ | ⟨rfl, rfl⟩
    · exact ⟨_, hkm, e⟩
    · exact h.own j l' q h1 h2
    · exact ⟨_, hnm, rfl⟩
  · rw [List.mem_append]
    rcases mem_ l' hl' z hz1 with ⟨h1, -⟩ | ⟨h1, -⟩ | ⟨-, l0, hl0, h1⟩
    · right; simp [h1]
    · left; rw [h1]; exact List.mem_of_getElem? hp
    · left; exact h.inw l0 hl0 z h1
  · have hyc := mem_ l2 hl2 y hy
    rcases at_ j l' q hj hq with ⟨rfl, rfl, rfl⟩ | ⟨-, h1, h2, h3⟩ | ⟨rfl, rfl⟩
    · rw [own_ u hu e1]
      rcases hyc with ⟨h1, -⟩ | ⟨-, h1⟩ | ⟨h1, -⟩
      · exact absurd (h1.symm.trans e2) hne
      · exact h1
      · exact absurd e2 h1
    · rcases hyc with ⟨h4, -⟩ | ⟨h4, -⟩ | ⟨-, l0, hl0, h4⟩
      · exact absurd (by rw [← h4, e2]; exact List.mem_of_getElem? h2) hf
      · exact absurd (e2.symm.trans h4) h3
      · exact h.kids j l' q h1 h2 u hu e1 l0 hl0 y h4 e2
    · have hu0 : 0 ≤ u.kids := (t.each u hu).kids.1
      rcases hyc with ⟨-, h4⟩ | ⟨h4, -⟩ | ⟨-, l0, hl0, h4⟩
      · omega
      · exact absurd (e2.symm.trans h4) hne
      · exact absurd (e2 ▸ h.inw l0 hl0 y h4) hf
  · rcases List.mem_append.1 hd with kd | kd
    · rcases at_ j l' q hj hq with ⟨rfl, rfl, rfl⟩ | ⟨-, h1, h2, h3⟩ | ⟨rfl, rfl⟩
      · rw [own_ u hu e1]
        have := h.child j l q hk hp x hx e d kd hd1 hpar
        omega
      · exact h.child j l' q h1 h2 u hu e1 d kd hd1 hpar
      · exfalso
        obtain ⟨i, hi⟩ := List.mem_iff_getElem?.1 kd
        obtain ⟨l0, hl0⟩ := h.all_at hi
        obtain ⟨y, hy, e4⟩ := h.own i l0 d hl0 hi
        obtain ⟨z, hz2, e5, -⟩ := (h.tame l0 (List.mem_of_getElem? hl0)).par y hy (by rw [e4]; exact hd1)
        rw [e4, hpar] at e5
        exact hf (e5 ▸ h.inw l0 (List.mem_of_getElem? hl0) z hz2)
    · obtain rfl : d = c := by simpa using kd
      have hpc := childP_par hc
      have hq : q = p := hpar.symm.trans hpc
      subst hq
      rcases at_ j l' q hj hq with ⟨rfl, rfl, -⟩ | ⟨-, -, -, h3⟩ | ⟨-, h3⟩
      · rw [own_ u hu e1, childP_num hc]
        exact Int.le_refl _
      · exact absurd rfl h3
      · exact absurd h3.symm hne
end
end Go.Proofs.YtblkikjmocnllaaGreatDoor
