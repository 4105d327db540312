/- Package state: Join. Printed by gen_statejoin.py. -/
import Derived.Test.YtdikcgmdmcfpfaaGreatSf13
namespace Go.Proofs.YtdikcgmdmcfpfaaGreat
open Go.RowKit Go.Shelf
attribute [local go_sem] Oper.semAt_some

set_option maxRecDepth 100000 in
set_option maxHeartbeats 20000000 in
theorem joinS_any {S1 S2 : Nat → Prop} {s1 s2 : State} {a1 a2 a3 b1 b2 b3 : Value} {w : World} (h1 : StAt w S1 s1 a1 a2 a3) (h2 : StAt w S2 s2 b1 b2 b3) (sm1 : SmallS s1) (sm2 : SmallS s2) :
    Calls Tryz.prog 15 #[stV a1 a2 a3, stV b1 b2 b3] w fun r w' => ∃ u1 u2 u3, r = .returned (stV u1 u2 u3) ∧ StNew w' w.heap.size (joinS s1 s2) u1 u2 u3 ∧ Ext w w' := by
  obtain ⟨sa, se, sp⟩ := s1
  obtain ⟨ta, te, tp⟩ := s2
  obtain ⟨A1, n1, rfl, -, -⟩ := h1.all.form
  obtain ⟨A2, n2, rfl, -, -⟩ := h1.entries.form
  obtain ⟨A3, n3, rfl, -, -⟩ := h1.pruned.form
  obtain ⟨B1, m1, rfl, -, -⟩ := h2.all.form
  obtain ⟨B2, m2, rfl, -, -⟩ := h2.entries.form
  obtain ⟨B3, m3, rfl, -, -⟩ := h2.pruned.form
  have hx0 : Ext w (((w.alloc (.cells #[.slice A1 sa.length n1, .slice A2 se.length n2, .slice A3 sp.length n3] 30)).alloc (.cells #[.slice B1 ta.length m1, .slice B2 te.length m2, .slice B3 tp.length m3] 30)).alloc (.cells #[.slice none 0 0, .slice none 0 0, .slice none 0 0] 30)) := (((Ext.refl w).alloc _).alloc _).alloc _
  have rA0 : RowIs (((w.alloc (.cells #[.slice A1 sa.length n1, .slice A2 se.length n2, .slice A3 sp.length n3] 30)).alloc (.cells #[.slice B1 ta.length m1, .slice B2 te.length m2, .slice B3 tp.length m3] 30)).alloc (.cells #[.slice none 0 0, .slice none 0 0, .slice none 0 0] 30)) w.heap.size 30 [.slice A1 sa.length n1, .slice A2 se.length n2, .slice A3 sp.length n3] [] := ((rowNew w _ _).alloc _).alloc _
  have rB0 : RowIs (((w.alloc (.cells #[.slice A1 sa.length n1, .slice A2 se.length n2, .slice A3 sp.length n3] 30)).alloc (.cells #[.slice B1 ta.length m1, .slice B2 te.length m2, .slice B3 tp.length m3] 30)).alloc (.cells #[.slice none 0 0, .slice none 0 0, .slice none 0 0] 30)) (w.heap.size + 1) 30 [.slice B1 ta.length m1, .slice B2 te.length m2, .slice B3 tp.length m3] [] := by have h := rowNew (w.alloc (.cells #[.slice A1 sa.length n1, .slice A2 se.length n2, .slice A3 sp.length n3] 30)) 30 [.slice B1 ta.length m1, .slice B2 te.length m2, .slice B3 tp.length m3]; simp only [World.size_alloc] at h; exact h.alloc _
  have rR0 : RowIs (((w.alloc (.cells #[.slice A1 sa.length n1, .slice A2 se.length n2, .slice A3 sp.length n3] 30)).alloc (.cells #[.slice B1 ta.length m1, .slice B2 te.length m2, .slice B3 tp.length m3] 30)).alloc (.cells #[.slice none 0 0, .slice none 0 0, .slice none 0 0] 30)) (w.heap.size + 1 + 1) 30 [.slice none 0 0, .slice none 0 0, .slice none 0 0] [] := by have h := rowNew ((w.alloc (.cells #[.slice A1 sa.length n1, .slice A2 se.length n2, .slice A3 sp.length n3] 30)).alloc (.cells #[.slice B1 ta.length m1, .slice B2 te.length m2, .slice B3 tp.length m3] 30)) 30 [.slice none 0 0, .slice none 0 0, .slice none 0 0]; simp only [World.size_alloc] at h; exact h
  have hz0 : w.heap.size + 3 ≤ (((w.alloc (.cells #[.slice A1 sa.length n1, .slice A2 se.length n2, .slice A3 sp.length n3] 30)).alloc (.cells #[.slice B1 ta.length m1, .slice B2 te.length m2, .slice B3 tp.length m3] 30)).alloc (.cells #[.slice none 0 0, .slice none 0 0, .slice none 0 0] 30)).heap.size := by simp
  have h1' := h1.mono (S' := fun b => b < w.heap.size) (fun b hb _ => hb)
  have h2' := h2.mono (S' := fun b => b < w.heap.size) (fun b hb _ => hb)
  have H1 := Lib.hid (h1'.ext hx0)
  have H2 := Lib.hid (h2'.ext hx0)
  have SM1 := Lib.hid sm1
  have SM2 := Lib.hid sm2
  have HJ := Lib.hid (join_any H1.out.all H2.out.all (Nat.le_trans SM1.out.all (by decide)) (Nat.le_trans SM2.out.all (by decide)))
  clear h1 h2 h1' h2' sm1 sm2
  refine (callsIn_wide (n := 9)).1 ?_
  refine callsIn_of_wp_marks Tryz.func15 rfl trivial ?_ rfl
  simp only [Tryz.ntmps15, List.size_toArray, List.length_cons, List.length_nil, Nat.reduceAdd, Nat.reduceSub, Array.replicate_succ, Array.replicate_zero, List.push_toArray, List.append_toArray, List.nil_append, List.cons_append]
  refine wpIn_wide.2 ?_
  go_wp2_with fail
  generalize (((w.alloc (.cells #[.slice A1 sa.length n1, .slice A2 se.length n2, .slice A3 sp.length n3] 30)).alloc (.cells #[.slice B1 ta.length m1, .slice B2 te.length m2, .slice B3 tp.length m3] 30)).alloc (.cells #[.slice none 0 0, .slice none 0 0, .slice none 0 0] 30)) = W0 at *
  have a00 := rA0.cell (j := 0) rfl
  have b00 := rB0.cell (j := 0) rfl
  refine HJ.out.mono ?_
  rintro r W1 ⟨v1, rfl, hv1, hx1⟩
  obtain ⟨J1, j1, rfl, -, -⟩ := hv1.form
  have hx01 := hx0.trans hx1
  have hxg := (Ext.refl W1).alloc (.cells #[(.slice J1 (joinM sa ta).length j1), (.slice none 0 0), (.slice none 0 0)] 30)
  have rG2 : RowIs (W1.alloc (.cells #[(.slice J1 (joinM sa ta).length j1), (.slice none 0 0), (.slice none 0 0)] 30)) W1.heap.size 30 [(.slice J1 (joinM sa ta).length j1), (.slice none 0 0), (.slice none 0 0)] [] := rowNew W1 30 [(.slice J1 (joinM sa ta).length j1), (.slice none 0 0), (.slice none 0 0)]
  have rA2 : RowIs (W1.alloc (.cells #[(.slice J1 (joinM sa ta).length j1), (.slice none 0 0), (.slice none 0 0)] 30)) _ _ _ _ := rA0.ext (hx1.trans hxg)
  have rB2 : RowIs (W1.alloc (.cells #[(.slice J1 (joinM sa ta).length j1), (.slice none 0 0), (.slice none 0 0)] 30)) _ _ _ _ := rB0.ext (hx1.trans hxg)
  have rR2 : RowIs (W1.alloc (.cells #[(.slice J1 (joinM sa ta).length j1), (.slice none 0 0), (.slice none 0 0)] 30)) _ _ _ _ := rR0.ext (hx1.trans hxg)
  have hz1 := Nat.le_trans hz0 hx1.size
  have HX2 := Lib.hid (show Ext w (W1.alloc (.cells #[(.slice J1 (joinM sa ta).length j1), (.slice none 0 0), (.slice none 0 0)] 30)) from (hx0.trans hx1).trans hxg)
  have HA2 := Lib.hid (H1.out.ext (hx1.trans hxg))
  have HB2 := Lib.hid (H2.out.ext (hx1.trans hxg))
  have hz2 : W1.heap.size + 1 ≤ (W1.alloc (.cells #[(.slice J1 (joinM sa ta).length j1), (.slice none 0 0), (.slice none 0 0)] 30)).heap.size := by simp
  have HV2 := Lib.hid ((hv1.ext hxg).lower (base' := w.heap.size + 3) hz0)
  have HG2 := Lib.hid rG2
  clear hx0 rA0 rB0 rR0 hz0 HJ hv1 hx01 hx1 H1 H2 hxg rG2
  go_wp2_with fail
  clear a00 b00
  generalize (W1.alloc (.cells #[(.slice J1 (joinM sa ta).length j1), (.slice none 0 0), (.slice none 0 0)] 30)) = W2 at *
  have hW2 := hz2
  have hAe : ∀ W, Ext W2 W → Sl entryT W (fun b => b < w.heap.size) (.slice A2 se.length n2) se := fun W he => (HA2.out.entries.ext (by decide) he)
  have hBe : ∀ W, Ext W2 W → Sl entryT W (fun b => b < w.heap.size) (.slice B2 te.length m2) te := fun W he => (HB2.out.entries.ext (by decide) he)
  have HAE := Lib.hid hAe
  have HBE := Lib.hid hBe
  clear hAe hBe
  refine wp_region_factsA [fun v _ => v = .pointer (some ⟨w.heap.size, 1, none⟩), fun v _ => v = .slice A2 se.length n2, fun v W => ∃ m, v = .map (some m) ∧ W2.heap.size ≤ m ∧ MapIs St I W m (plF 0 [] se),
    fun v _ => v = .pointer (some ⟨w.heap.size + 1, 1, none⟩), fun v _ => v = .slice B2 te.length m2, fun v W => ∃ m, v = .map (some m) ∧ W2.heap.size ≤ m ∧ MapIs St I W m (plF 0 [] te),
    fun v W => ∃ g, v = .pointer (some ⟨g, 0, none⟩) ∧ W2.heap.size ≤ g ∧ RowIs W g 112 [.map none] [], fun v W => ∃ g, v = .pointer (some ⟨g, 0, none⟩) ∧ W2.heap.size ≤ g ∧ RowIs W g 112 [.map none] []] [6, 7] rfl (by kernel_rfl) (by kernel_rfl) ?hR ?hstep ?hend
  case hR =>
    simp only [List.mem_cons, List.not_mem_nil, or_false, forall_eq_or_imp, forall_eq]
    exact ⟨fun v _ _ h _ => h, fun v _ _ h _ => h, fun v _ _ h he => by obtain ⟨m, e, z, h⟩ := h; exact ⟨m, e, z, h.ext he⟩, fun v _ _ h _ => h, fun v _ _ h _ => h, fun v _ _ h he => by obtain ⟨m, e, z, h⟩ := h; exact ⟨m, e, z, h.ext he⟩,
      fun v _ _ h he => by obtain ⟨g, e, z, h⟩ := h; exact ⟨g, e, z, h.ext he⟩, fun v _ _ h he => by obtain ⟨g, e, z, h⟩ := h; exact ⟨g, e, z, h.ext he⟩⟩
  case hstep =>
    simp only [List.length_cons, List.length_nil, Nat.reduceAdd, List.take_succ_cons, List.take_zero, stepsAllA, and_true]
    refine ⟨?_, ?_, ?_, ?_, ?_, ?_, ?_, ?_⟩
    · intro x W he f
      have h : x 2 = .pointer (some ⟨w.heap.size, 0, none⟩) := f.1
      go_wp
      exact stepQ_ok (r := freshQ _ _ _ _) ⟨rfl, fun h => by simp at h⟩ (Ext.refl _)
    · intro x W he f
      have h : x 21 = .pointer (some ⟨w.heap.size, 1, none⟩) := f.1
      have hc := (rA2.ext he).cell (j := 1) rfl
      go_wp
      exact stepQ_ok (r := freshQ _ _ _ _) ⟨rfl, fun h => by simp at h⟩ (Ext.refl _)
    · intro x W he f
      have h : x 22 = .slice A2 se.length n2 := f.1
      have hs := he.size
      have HC := Lib.hid (places_any (HAE.out W he))
      go_wp
      refine HC.out.mono ?_
      rintro r W3 ⟨m, rfl, hm, hM, hx2⟩
      dsimp only
      go_wp
      exact stepQ_ok (v := .map (some m)) (r := freshQ _ _ _ _) ⟨⟨m, rfl, by omega, hM⟩, fun h => by simp at h⟩ hx2
    · intro x W he f
      have h : x 3 = .pointer (some ⟨w.heap.size + 1, 0, none⟩) := f.1
      go_wp
      exact stepQ_ok (r := freshQ _ _ _ _) ⟨rfl, fun h => by simp at h⟩ (Ext.refl _)
    · intro x W he f
      have h : x 24 = .pointer (some ⟨w.heap.size + 1, 1, none⟩) := f.1
      have hc := (rB2.ext he).cell (j := 1) rfl
      go_wp
      exact stepQ_ok (r := freshQ _ _ _ _) ⟨rfl, fun h => by simp at h⟩ (Ext.refl _)
    · intro x W he f
      have h : x 25 = .slice B2 te.length m2 := f.1
      have hs := he.size
      have HC := Lib.hid (places_any (HBE.out W he))
      go_wp
      refine HC.out.mono ?_
      rintro r W3 ⟨m, rfl, hm, hM, hx2⟩
      dsimp only
      go_wp
      exact stepQ_ok (v := .map (some m)) (r := freshQ _ _ _ _) ⟨⟨m, rfl, by omega, hM⟩, fun h => by simp at h⟩ hx2
    · intro x W he f
      have hs := he.size
      have hrow := rowNew W 112 [.map none]
      go_wp
      exact stepQ_ok (r := freshQ _ _ _ _) ⟨⟨W.heap.size, rfl, hs, hrow⟩, fun _ => ⟨W.heap.size, rfl, Nat.le_refl _, by simp⟩⟩ ((Ext.refl W).alloc _)
    · intro x W he f
      have hs := he.size
      have hrow := rowNew W 112 [.map none]
      go_wp
      exact stepQ_ok (r := freshQ _ _ _ _) ⟨⟨W.heap.size, rfl, hs, hrow⟩, fun _ => ⟨W.heap.size, rfl, Nat.le_refl _, by simp⟩⟩ ((Ext.refl W).alloc _)
  case hend =>
    intro x W he hap f
    obtain ⟨p1, h23, hp1, hM1⟩ : ∃ m, x 23 = .map (some m) ∧ W2.heap.size ≤ m ∧ MapIs St I W m (plF 0 [] se) := f.2.2.1
    obtain ⟨p2, h26, hp2, hM2⟩ : ∃ m, x 26 = .map (some m) ∧ W2.heap.size ≤ m ∧ MapIs St I W m (plF 0 [] te) := f.2.2.2.2.2.1
    obtain ⟨g6, h6, hg6, r6⟩ : ∃ g, x 6 = .pointer (some ⟨g, 0, none⟩) ∧ W2.heap.size ≤ g ∧ RowIs W g 112 [.map none] [] := f.2.2.2.2.2.2.1
    obtain ⟨g7, h7, hg7, r7⟩ : ∃ g, x 7 = .pointer (some ⟨g, 0, none⟩) ∧ W2.heap.size ≤ g ∧ RowIs W g 112 [.map none] [] := f.2.2.2.2.2.2.2.1
    have hne : g6 ≠ g7 := fun e => hap.1 7 (by simp) (by rw [h6, h7, e])
    clear f hap
    simp only [List.length_cons, List.length_nil, Nat.reduceAdd, List.take_succ_cons, List.take_zero, List.filterMap_cons, List.filterMap_nil, List.drop_succ_cons, List.drop_zero, putAll, Act.put, List.setIfInBounds_toArray, List.set_cons_succ, List.set_cons_zero, h23, h26, h6, h7]
    have q6 := r6.cell (j := 0) rfl
    have q7 := r7.cell (j := 0) rfl
    have qf6 := r6.frozen 0
    have qf7 := r7.frozen 0
    have hn1 : p1 ≠ g6 ∧ p1 ≠ g7 := ⟨fun e => by subst e; exact hM1.not_row r6, fun e => by subst e; exact hM1.not_row r7⟩
    have hn2 : p2 ≠ g6 ∧ p2 ≠ g7 := ⟨fun e => by subst e; exact hM2.not_row r6, fun e => by subst e; exact hM2.not_row r7⟩
    have hk : ∀ b, b ≠ g6 → b ≠ g7 → ((W.setCell ⟨g6, 0, none⟩ (.map (some p1))).setCell ⟨g7, 0, none⟩ (.map (some p2))).heap[b]? = W.heap[b]? := fun b h1 h2 => (Below.heap_setCell _ _ _ _ h2).trans (Below.heap_setCell _ _ _ _ h1)
    have r63 : RowIs ((W.setCell ⟨g6, 0, none⟩ (.map (some p1))).setCell ⟨g7, 0, none⟩ (.map (some p2))) g6 112 [.map (some p1)] [] := by have h := (r6.set (j := 0) (by simp) (.map (some p1))).other (p := ⟨g7, 0, none⟩) (by simpa using hne.symm) (.map (some p2)); simpa using h
    have r73 : RowIs ((W.setCell ⟨g6, 0, none⟩ (.map (some p1))).setCell ⟨g7, 0, none⟩ (.map (some p2))) g7 112 [.map (some p2)] [] := by have h := (r7.other (p := ⟨g6, 0, none⟩) (by simpa using hne) (.map (some p1))).set (j := 0) (by simp) (.map (some p2)); simpa using h
    have hx3 : Ext W2 ((W.setCell ⟨g6, 0, none⟩ (.map (some p1))).setCell ⟨g7, 0, none⟩ (.map (some p2))) := (he.set (p := ⟨g6, 0, none⟩) hg6 _).set (p := ⟨g7, 0, none⟩) hg7 _
    have HM1 := Lib.hid (hM1.keep (w' := ((W.setCell ⟨g6, 0, none⟩ (.map (some p1))).setCell ⟨g7, 0, none⟩ (.map (some p2)))) (hk _ hn1.1 hn1.2))
    have HM2 := Lib.hid (hM2.keep (w' := ((W.setCell ⟨g6, 0, none⟩ (.map (some p1))).setCell ⟨g7, 0, none⟩ (.map (some p2)))) (hk _ hn2.1 hn2.2))
    have hz3 : ((W.setCell ⟨g6, 0, none⟩ (.map (some p1))).setCell ⟨g7, 0, none⟩ (.map (some p2))).heap.size ≤ W.heap.size ∧ W.heap.size ≤ ((W.setCell ⟨g6, 0, none⟩ (.map (some p1))).setCell ⟨g7, 0, none⟩ (.map (some p2))).heap.size := by simp
    have hgl6 := r6.lt
    have hgl7 := r7.lt
    have hpl1 := hM1.lt
    have hpl2 := hM2.lt
    have hez := he.size
    clear hM1 hM2 hk r6 r7 he hn1 hn2
    have rA3 := rA2.ext hx3
    have rB3 := rB2.ext hx3
    have rR3 := rR2.ext hx3
    have HG3 := Lib.hid (HG2.out.ext hx3)
    have HV3 := Lib.hid (HV2.out.ext hx3)
    have HX3 := Lib.hid (HX2.out.trans hx3)
    have HA3 := Lib.hid (HA2.out.ext hx3)
    have HB3 := Lib.hid (HB2.out.ext hx3)
    clear rA2 rB2 rR2 hx3 HG2 HV2 HX2 HA2 HB2 HAE HBE
    have b1 := rB3.cell (j := 1) rfl
    have a1 := rA3.cell (j := 1) rfl
    go_wp
    clear q6 q7 qf6 qf7
    go_wp2_with fail
    generalize ((W.setCell ⟨g6, 0, none⟩ (.map (some p1))).setCell ⟨g7, 0, none⟩ (.map (some p2))) = W3 at *
    have HK := Lib.hid (keys_any (.slice A2 se.length n2) (.slice B2 te.length m2) W3 rfl rfl)
    refine HK.out.mono ?_
    rintro r w4 ⟨rfl, rfl⟩
    have hx4 : Ext W3 ((W3.alloc (.cells #[.slice A2 se.length n2] 27)).alloc (.cells #[.slice B2 te.length m2] 27)) := ((Ext.refl W3).alloc _).alloc _
    have k1 : ((W3.alloc (.cells #[.slice A2 se.length n2] 27)).alloc (.cells #[.slice B2 te.length m2] 27)).cell? ⟨W3.heap.size, 0, none⟩ = some (.slice A2 se.length n2) := by simp [go_sem]
    have k2 : ((W3.alloc (.cells #[.slice A2 se.length n2] 27)).alloc (.cells #[.slice B2 te.length m2] 27)).cell? ⟨W3.heap.size + 1, 0, none⟩ = some (.slice B2 te.length m2) := by simp [go_sem]
    have hz4 : ((W3.alloc (.cells #[.slice A2 se.length n2] 27)).alloc (.cells #[.slice B2 te.length m2] 27)).heap.size ≤ W3.heap.size + 2 ∧ W3.heap.size + 2 ≤ ((W3.alloc (.cells #[.slice A2 se.length n2] 27)).alloc (.cells #[.slice B2 te.length m2] 27)).heap.size := by simp
    clear a1 b1
    go_wp2_with fail
    generalize (W3.alloc (.cells #[.slice A2 se.length n2] 27)).alloc (.cells #[.slice B2 te.length m2] 27) = W4 at *
    skip
    have rA4 := rA3.ext hx4
    have rB4 := rB3.ext hx4
    have rR4 := rR3.ext hx4
    have HG4 := Lib.hid (HG3.out.ext hx4)
    have HV4 := Lib.hid (HV3.out.ext hx4)
    have HX4 := Lib.hid (HX3.out.trans hx4)
    have HA4 := Lib.hid (HA3.out.ext hx4)
    have HB4 := Lib.hid (HB3.out.ext hx4)
    have HM14 := Lib.hid (HM1.out.ext hx4)
    have HM24 := Lib.hid (HM2.out.ext hx4)
    have r64 := r63.ext hx4
    have r74 := r73.ext hx4
    have rG4 := HG4.out
    clear rA3 rB3 rR3 hx4 HG3 HV3 HX3 HA3 HB3 HM1 HM2 r63 r73
    have hkl := keysL_len (se.map (·.key)) (te.map (·.key))
    rw [List.length_map, List.length_map] at hkl
    have hse : se.length ≤ 549755813888 := SM1.out.entries
    have hte : te.length ≤ 549755813888 := SM2.out.entries
    refine (wpIn_wide (n := 9)).1 ?_
    refine wpIn_rangeFunc_ownG rfl (by omega) (gf := 105) (lb := #[.pointer (some ⟨W3.heap.size, 0, none⟩), .pointer (some ⟨W3.heap.size + 1, 0, none⟩)]) rfl trivial (enters_of Tryz.func105 (by kernel_rfl) rfl)
      (keys_stops 8 (by omega) (w := W4) (n₀ := W4.heap.size) (S := fun b => b < W4.heap.size ∧ b ≠ W1.heap.size) (Nat.le_refl _) k1 k2 ⟨by omega, by omega⟩ ⟨by omega, by omega⟩ (fun b h => h.1)
        (HA4.out.entries.mono (by decide) fun b hb h => ⟨hb, by omega⟩) (HB4.out.entries.mono (by decide) fun b hb h => ⟨hb, by omega⟩))
      (fun h k => h.trans k) (KpS.put (Nat.le_refl _)) (Below.refl _ _) (fun _ => rfl)
      (fun pre W => ∃ vE, RowIs W W1.heap.size 30 [(.slice J1 (joinM sa ta).length j1), vE, (.slice none 0 0)] [] ∧ RowE W W4.heap.size W1.heap.size vE (pre.map fun k => joinEnt (getE se k) (getE te k)) ∧ OldK W4.heap.size W1.heap.size W4 W)
      (fun _ _ _ => False)
      (fun s W W' row ⟨vE, h1, h2, h3⟩ hg hr => ⟨vE, h1.kept hg (fun r e => (hr r e).2), h2.kept hg (fun r e => (hr r e).2), OldK.from _ _ _ _ (Nat.le_refl _) () W W' row h3 hg hr⟩)
      (fun _ _ _ _ _ hs _ _ => hs)
      ⟨_, HG4.out, RowE.nil _ _ _ _, OldK.refl (Nat.le_refl _)⟩
      ?a1 ?assign ?body ?done ?stop
    case stop =>
      rintro D c pre W _ _ h _
      exact h.elim
    case assign =>
      intro l x W K hK
      gi_wp2
      exact hK
    case body =>
      rintro l pre x W ⟨vE, hS, hE, hO⟩ hlt
      have hOs := hO.size
      have hgl1 : W1.heap.size < W4.heap.size := by omega
      have rA := rA4.keep (hO.same w.heap.size (by omega) (by omega))
      have rB := rB4.keep (hO.same (w.heap.size + 1) (by omega) (by omega))
      have r6 := r64.keep (hO.same g6 (by omega) (by omega))
      have r7 := r74.keep (hO.same g7 (by omega) (by omega))
      have M1 := HM14.out.keep (hO.same p1 (by omega) (by omega))
      have M2 := HM24.out.keep (hO.same p2 (by omega) (by omega))
      have EA := HA4.out.entries.keep (by decide) (w' := W) (fun b hb h2 => hO.same b (by omega) (by omega))
      have EB := HB4.out.entries.keep (by decide) (w' := W) (fun b hb h2 => hO.same b (by omega) (by omega))
      have hEf := hE.form
      rw [List.length_map] at hEf
      obtain ⟨AE, cE, rfl, -, -⟩ := hEf
      have hlt2 : pre.length ≤ 1099511627776 := Nat.le_trans (Nat.le_of_lt hlt) (Nat.le_trans hkl (by omega))
      have hxb : Ext W ((W.alloc (.cells #[St [], .slice none 0 0, .slice none 0 0, .slice none 0 0, .int .u64 0, St [], .bool false] 37)).alloc (.cells #[St [], .slice none 0 0, .slice none 0 0, .slice none 0 0, .int .u64 0, St [], .bool false] 37)) := ((Ext.refl W).alloc _).alloc _
      have r9 : RowIs ((W.alloc (.cells #[St [], .slice none 0 0, .slice none 0 0, .slice none 0 0, .int .u64 0, St [], .bool false] 37)).alloc (.cells #[St [], .slice none 0 0, .slice none 0 0, .slice none 0 0, .int .u64 0, St [], .bool false] 37)) W.heap.size 37 [St [], .slice none 0 0, .slice none 0 0, .slice none 0 0, .int .u64 0, St [], .bool false] [] := (rowNew W 37 [St [], .slice none 0 0, .slice none 0 0, .slice none 0 0, .int .u64 0, St [], .bool false]).alloc _
      have r10 : RowIs ((W.alloc (.cells #[St [], .slice none 0 0, .slice none 0 0, .slice none 0 0, .int .u64 0, St [], .bool false] 37)).alloc (.cells #[St [], .slice none 0 0, .slice none 0 0, .slice none 0 0, .int .u64 0, St [], .bool false] 37)) (W.heap.size + 1) 37 [St [], .slice none 0 0, .slice none 0 0, .slice none 0 0, .int .u64 0, St [], .bool false] [] := by have h := rowNew (W.alloc (.cells #[St [], .slice none 0 0, .slice none 0 0, .slice none 0 0, .int .u64 0, St [], .bool false] 37)) 37 [St [], .slice none 0 0, .slice none 0 0, .slice none 0 0, .int .u64 0, St [], .bool false]; rw [World.size_alloc] at h; exact h
      have hzb : ((W.alloc (.cells #[St [], .slice none 0 0, .slice none 0 0, .slice none 0 0, .int .u64 0, St [], .bool false] 37)).alloc (.cells #[St [], .slice none 0 0, .slice none 0 0, .slice none 0 0, .int .u64 0, St [], .bool false] 37)).heap.size ≤ W.heap.size + 2 ∧ W.heap.size + 2 ≤ ((W.alloc (.cells #[St [], .slice none 0 0, .slice none 0 0, .slice none 0 0, .int .u64 0, St [], .bool false] 37)).alloc (.cells #[St [], .slice none 0 0, .slice none 0 0, .slice none 0 0, .int .u64 0, St [], .bool false] 37)).heap.size := by simp
      skip
      have hspa := findE_split se x
      have hspb := findE_split te x
      have HSx := Lib.hid hS
      have HEx := Lib.hid hE
      have HOx := Lib.hid hO
      have HR := Lib.hid (show _ ∧ _ ∧ _ ∧ _ ∧ _ ∧ _ from ⟨r6, r7, rA, rB, M1, M2⟩)
      clear hS hE hO r6 r7 rA rB M1 M2
      refine wpIn_block (wpIn_seq_k ?_)
      intro K5 hK5
      have HK5 := Lib.hid hK5
      clear hK5
      gi_wp2_with fail
      refine HK5.out _ _ ?_
      clear HK5 K5
      generalize ((W.alloc (.cells #[St [], .slice none 0 0, .slice none 0 0, .slice none 0 0, .int .u64 0, St [], .bool false] 37)).alloc (.cells #[St [], .slice none 0 0, .slice none 0 0, .slice none 0 0, .int .u64 0, St [], .bool false] 37)) = Wb at *
      have q6 := (HR.out.1.ext hxb).cell (j := 0) rfl
      have qa := (HR.out.2.2.1.ext hxb).cell (j := 1) rfl
      have hlk1 := (run_lookup_MapIs (P := Tryz.prog) (z := 0) Tryz.underlying112 keyOkS zeroI (HR.out.2.2.2.2.1.ext hxb) x).2
      rw [lookL_mem, show ∀ L : List (Str × Int), getL 0 L x = (lookL L x).getD 0 from fun _ => rfl, plF_lookup se 0 [] x] at hlk1
      simp only [show lookL ([] : List (Str × Int)) x = none from rfl, Nat.zero_add] at hlk1
      have HEA := Lib.hid (fun (pre post : List Entry) (m : Entry) (hl : se = pre ++ m :: post) => entry_at EA hxb hl)
      clear EA
      refine wpIn_seq_k ?_
      intro K6 hK6
      have HK6 := Lib.hid hK6
      clear hK6
      cases hfa0 : se.findIdx? (fun e => decide (e.key = x)) with
      | none =>
        rw [hfa0] at hlk1 hspa
        simp only at hspa
        simp only [Option.map_none, Option.getD_none, Option.isSome_none] at hlk1
        have HEd1 := Lib.hid (show getE se x = noneE from by unfold getE; rw [hspa]; rfl)
        clear hspa hfa0
        gi_wp2_with fail
        refine HK6.out _ _ ?_
        clear HK6 K6 q6 qa hlk1 HEA
        have hsm1 := small_none
        have HAc := Lib.hid (EntAt.none W (fun b => b < w.heap.size) none none none)
        have r10c := r10
        have r9c := r9
        have hxc := hxb
        clear r9 r10 hxb
        obtain ⟨Wc, rfl⟩ : ∃ Wc, Wc = Wb := ⟨_, rfl⟩
        refine wpIn_seq_k ?_
        intro K9 hK9
        have HK9 := Lib.hid hK9
        clear hK9
        have q7 := (HR.out.2.1.ext hxc).cell (j := 0) rfl
        have qb := (HR.out.2.2.2.1.ext hxc).cell (j := 1) rfl
        have hlk2 := (run_lookup_MapIs (P := Tryz.prog) (z := 0) Tryz.underlying112 keyOkS zeroI (HR.out.2.2.2.2.2.ext hxc) x).2
        rw [lookL_mem, show ∀ L : List (Str × Int), getL 0 L x = (lookL L x).getD 0 from fun _ => rfl, plF_lookup te 0 [] x] at hlk2
        simp only [show lookL ([] : List (Str × Int)) x = none from rfl, Nat.zero_add] at hlk2
        have HEB := Lib.hid (fun (pre post : List Entry) (m : Entry) (hl : te = pre ++ m :: post) => entry_at EB hxc hl)
        clear EB
        cases hfb0 : te.findIdx? (fun e => decide (e.key = x)) with
        | none =>
          rw [hfb0] at hlk2 hspb
          simp only at hspb
          simp only [Option.map_none, Option.getD_none, Option.isSome_none] at hlk2
          have HEd2 := Lib.hid (show getE te x = noneE from by unfold getE; rw [hspb]; rfl)
          clear hspb hfb0
          gi_wp2_with fail
          refine HK9.out _ _ ?_
          clear HK9 K9 q7 qb hlk2 HEB
          have HBd := EntAt.none W (fun b => b < w.heap.size) none none none
          have hsm2 := small_none
          have r10d := r10c
          have r9d := r9c
          have hxd := hxc
          clear r9c r10c hxc
          obtain ⟨Wd, rfl⟩ : ∃ Wd, Wd = Wc := ⟨_, rfl⟩
          have rS := HSx.out.ext hxd
          have hEd := HEx.out.ext hxd
          have HAd := Lib.hid (HAc.out.ext hxd)
          have HBd2 := Lib.hid (HBd.ext hxd)
          have hgl := rS.lt
          have hxz := hxd.size
          obtain ⟨J, hJ⟩ : ∃ J, J = joinEnt noneE noneE := ⟨_, rfl⟩
          have HJe := Lib.hid hJ
          refine wpIn_region_factsA [fun v _ => v = .pointer (some ⟨W1.heap.size, 1, none⟩), fun v _ => v = .slice AE pre.length cE, fun v _ => v = entV noneE (.slice none 0 0) (.slice none 0 0) (.slice none 0 0), fun v _ => v = entV noneE (.slice none 0 0) (.slice none 0 0) (.slice none 0 0),
            fun v W' => ∃ u1 u2 u3, v = entV J u1 u2 u3 ∧ EntNew W' Wd.heap.size J u1 u2 u3, fun v W' => ∃ h u1 u2 u3, v = .slice (some ⟨h, 0, none⟩) 1 1 ∧ Wd.heap.size ≤ h ∧ RowIs W' h 37 (entL J u1 u2 u3) [] ∧ EntNew W' Wd.heap.size J u1 u2 u3] []
            rfl (by rintro ⟨a, w, h⟩; exact h) (by intro o ho c; simp only [List.mem_cons, List.not_mem_nil, or_false] at ho; rcases ho with rfl | rfl | rfl | rfl | rfl | rfl | rfl | rfl | rfl <;> (intro h; cases h)) (by kernel_rfl) (by kernel_rfl) ?hR ?hstep ?hend
          case hR =>
            simp only [List.mem_cons, List.not_mem_nil, or_false, forall_eq_or_imp, forall_eq]
            exact ⟨fun v _ _ h _ => h, fun v _ _ h _ => h, fun v _ _ h _ => h, fun v _ _ h _ => h, fun v _ _ h he => by obtain ⟨u1, u2, u3, e, z⟩ := h; exact ⟨u1, u2, u3, e, z.ext he⟩, fun v _ _ h he => by obtain ⟨k, u1, u2, u3, e, z, b, c⟩ := h; exact ⟨k, u1, u2, u3, e, z, b.ext he, c.ext he⟩⟩
          case hstep =>
            simp only [List.length_cons, List.length_nil, Nat.reduceAdd, List.take_succ_cons, List.take_zero, stepsAllA, and_true]
            refine ⟨?_, ?_, ?_, ?_, ?_, ?_⟩
            · intro x' W' he f
              have h : x' 5 = .pointer (some ⟨W1.heap.size, 0, none⟩) := f.1
              go_wp
              exact stepQ_ok (r := freshQ _ _ _ _) ⟨rfl, fun h => by simp at h⟩ (Ext.refl _)
            · intro x' W' he f
              have h : x' 57 = .pointer (some ⟨W1.heap.size, 1, none⟩) := f.1
              have hc := (rS.ext he).cell (j := 1) rfl
              go_wp
              exact stepQ_ok (r := freshQ _ _ _ _) ⟨rfl, fun h => by simp at h⟩ (Ext.refl _)
            · intro x' W' he f
              have h : x' 9 = .pointer (some ⟨W.heap.size, 0, none⟩) := f.1
              have c0 := (r9d.ext he).cell (j := 0) rfl
              have c1 := (r9d.ext he).cell (j := 1) rfl
              have c2 := (r9d.ext he).cell (j := 2) rfl
              have c3 := (r9d.ext he).cell (j := 3) rfl
              have c4 := (r9d.ext he).cell (j := 4) rfl
              have c5 := (r9d.ext he).cell (j := 5) rfl
              have c6 := (r9d.ext he).cell (j := 6) rfl
              go_wp
              exact stepQ_ok (r := freshQ _ _ _ _) ⟨rfl, fun h => by simp at h⟩ (Ext.refl _)
            · intro x' W' he f
              have h : x' 10 = .pointer (some ⟨W.heap.size + 1, 0, none⟩) := f.1
              have c0 := (r10d.ext he).cell (j := 0) rfl
              have c1 := (r10d.ext he).cell (j := 1) rfl
              have c2 := (r10d.ext he).cell (j := 2) rfl
              have c3 := (r10d.ext he).cell (j := 3) rfl
              have c4 := (r10d.ext he).cell (j := 4) rfl
              have c5 := (r10d.ext he).cell (j := 5) rfl
              have c6 := (r10d.ext he).cell (j := 6) rfl
              go_wp
              exact stepQ_ok (r := freshQ _ _ _ _) ⟨rfl, fun h => by simp at h⟩ (Ext.refl _)
            · intro x' W' he f
              have h59 : x' 59 = entV noneE (.slice none 0 0) (.slice none 0 0) (.slice none 0 0) := f.1
              have h60 : x' 60 = entV noneE (.slice none 0 0) (.slice none 0 0) (.slice none 0 0) := f.2.1
              have hs := he.size
              have HC := Lib.hid (joinE_any (HAd.out.ext he) (HBd2.out.ext he) hsm1 hsm2)
              rw [← hJ] at HC
              clear hJ
              go_wp
              refine HC.out.mono ?_
              rintro r W6 ⟨u1, u2, u3, rfl, hn, hx2⟩
              dsimp only
              go_wp
              exact stepQ_ok (v := entV J u1 u2 u3) (r := freshQ _ _ _ _) ⟨⟨u1, u2, u3, rfl, hn.lower hs⟩, fun h => by simp at h⟩ hx2
            · intro x' W' he f
              obtain ⟨u1, u2, u3, h, hn⟩ : ∃ u1 u2 u3, x' 61 = entV J u1 u2 u3 ∧ EntNew W' Wd.heap.size J u1 u2 u3 := f.1
              have hs := he.size
              obtain ⟨D1, d1, rfl, -, -⟩ := hn.seen.form
              obtain ⟨D2, d2, rfl, -, -⟩ := hn.counts.form
              obtain ⟨D3, d3, rfl, -, -⟩ := hn.items.form
              have hrow := rowNew W' 37 (entL J (.slice D1 J.seen.length d1) (.slice D2 J.counts.length d2) (.slice D3 J.items.length d3))
              have hxa := (Ext.refl W').alloc (.cells (entL J (.slice D1 J.seen.length d1) (.slice D2 J.counts.length d2) (.slice D3 J.items.length d3)).toArray 37)
              clear hJ
              go_wp
              exact stepQ_ok (v := .slice (some ⟨W'.heap.size, 0, none⟩) 1 1) (r := freshQ _ _ _ _) ⟨⟨W'.heap.size, _, _, _, rfl, hs, hrow, hn.ext hxa⟩, fun h => by simp at h⟩ hxa
          case hend =>
            intro x' W' he hap f
            have h58 : x' 58 = .slice AE pre.length cE := f.2.1
            obtain ⟨k, u1, u2, u3, h62, hk, hrow, hn⟩ : ∃ h u1 u2 u3, x' 62 = .slice (some ⟨h, 0, none⟩) 1 1 ∧ Wd.heap.size ≤ h ∧ RowIs W' h 37 (entL J u1 u2 u3) [] ∧ EntNew W' Wd.heap.size J u1 u2 u3 := f.2.2.2.2.2.1
            clear f hap hJ
            have hs := he.size
            simp only [List.length_cons, List.length_nil, Nat.reduceAdd, List.take_succ_cons, List.take_zero, List.filterMap_cons, List.filterMap_nil, List.drop_succ_cons, List.drop_zero, putAll, Act.put, List.setIfInBounds_toArray, List.set_cons_succ, List.set_cons_zero, h58, h62]
            have hone := entL_one (hn.rd (S := fun _ => True) (fun _ _ _ => trivial))
            have hEl : ∀ b, ownBlk (.slice AE pre.length cE) b → b < Wd.heap.size := fun b hb => (hEd.base_le hb).2
            have hEb : ∀ b, ownBlk (.slice AE pre.length cE) b → W4.heap.size ≤ b := fun b hb => (hEd.base_le hb).1
            obtain ⟨L0, hL0⟩ : ∃ L0, L0 = pre.map (fun k => joinEnt (getE se k) (getE te k)) := ⟨_, rfl⟩
            have hlen : L0.length = pre.length := by rw [hL0, List.length_map]
            have hEd2 := hEd.ext he
            rw [← hL0] at hEd2
            obtain ⟨vss, y1, y2, y3⟩ := hEd2
            rw [hlen] at y3
            have rSe := rS.ext he
            have hnS : ¬ ownBlk (.slice AE pre.length cE) W1.heap.size := fun hb => by have := hEb _ hb; omega
            have HL := Lib.hid (show (pre ++ [x]).map (fun k => joinEnt (getE se k) (getE te k)) = L0 ++ [J] from by rw [List.map_append, ← hL0]; simp only [List.map_cons, List.map_nil, HEd1.out, HEd2.out, HJe.out])
            have HS2 := Lib.hid (show _ ∧ _ from ⟨y1, y2⟩)
            have HNN := Lib.hid hn
            clear y1 y2 hL0 HEd1 HEd2
            refine wpList_append_Own rfl (.tmp 58) (.tmp 62) 27 rfl W4.heap.size 37 7 120 zeroEnt Tryz.underlying27 info_entry rfl (by omega) (.slice AE pre.length cE) pre.length vss.flatten (by simp [go_sem]) y3 (some ⟨k, 0, none⟩) 1 1 (entL J u1 u2 u3) (by simp [go_sem])
              ⟨by simp, hone, fun _ => ⟨k, 0, rfl, fun j u hj => by rw [Nat.zero_add]; exact hrow.cell hj⟩⟩ (by omega) (by omega) (by omega) ?_
            intro v' w' hown hgr
            have hE2 : RowE w' W4.heap.size W1.heap.size v' (L0 ++ [J]) := RowE.snoc HS2.out.1 HS2.out.2 HNN.out hEl hgl (by omega) (by rw [hlen]; exact hown) hgr
            have hF := hE2.form
            rw [show (L0 ++ [J]).length = pre.length + 1 by rw [List.length_append, hlen]; rfl] at hF
            obtain ⟨AF, cF, rfl, -, -⟩ := hF
            have rSw := rSe.keep (hgr.same _ rSe.lt hnS)
            have hc := rSw.cell (j := 1) rfl
            have hf := rSw.frozen 1
            have rS2 := rSw.set (j := 1) (by simp) (.slice AF (pre.length + 1) cF)
            simp only [List.set_cons_succ, List.set_cons_zero] at rS2
            have hO2 := ((HOx.out.ext (hxd.trans he)).grew hgr hEb).set (j := 1) (.slice AF (pre.length + 1) cF)
            have hko := ((hxd.trans he).keepsO.trans (hgr.keeps y3)).trans (KeepsOthers.setCell w' ⟨W1.heap.size, 1, none⟩ (.slice AF (pre.length + 1) cF))
            have hE3 := hE2.set (j := 1) (u := .slice AF (pre.length + 1) cF) rSw (by decide)
            have HF := Lib.hid (show _ ∧ _ ∧ _ ∧ _ from ⟨rS2, hO2, hko, hE3⟩)
            clear rS2 hO2 hko hE3 hE2 hgr hown HS2 HNN hn hrow y3 rSe rSw hEd rS hone r9d r10d HAd HBd2 HBd
            go_wp
            obtain ⟨rS2, hO2, hko, hE3⟩ := HF.out
            exact ⟨hko.from _, HOx.out.kps hO2 hko.size, _, rS2, by rw [HL.out]; exact hE3, hO2⟩
        | some jb =>
          rw [hfb0] at hlk2 hspb
          obtain ⟨preb, mb, postb, hlb, hjb, hkb, hfb⟩ := hspb
          simp only [Option.map_some, Option.getD_some, Option.isSome_some] at hlk2
          obtain ⟨bb, ob, wb1, wb2, wb3, e, eb0, eb1, eb2, eb3, eb4, eb5, eb6, hEBb⟩ := HEB.out preb postb mb hlb
          subst e
          obtain ⟨Cb1, cb1, rfl, -, -⟩ := hEBb.seen.form
          obtain ⟨Cb2, cb2, rfl, -, -⟩ := hEBb.counts.form
          obtain ⟨Cb3, cb3, rfl, -, -⟩ := hEBb.items.form
          have hltb : preb.length < te.length := by rw [hlb]; simp
          have hmb : mb ∈ te := by rw [hlb]; simp
          subst hjb
          have HEd2 := Lib.hid (show getE te x = mb from by unfold getE; rw [hfb]; rfl)
          have hsm2 := SM2.out.each mb hmb
          have sb0 := r10c.cell (j := 0) rfl
          have sb1 := r10c.cell (j := 1) rfl
          have sb2 := r10c.cell (j := 2) rfl
          have sb3 := r10c.cell (j := 3) rfl
          have sb4 := r10c.cell (j := 4) rfl
          have sb5 := r10c.cell (j := 5) rfl
          have sb6 := r10c.cell (j := 6) rfl
          have fb0 := r10c.frozen 0
          have fb1 := r10c.frozen 1
          have fb2 := r10c.frozen 2
          have fb3 := r10c.frozen 3
          have fb4 := r10c.frozen 4
          have fb5 := r10c.frozen 5
          have fb6 := r10c.frozen 6
          have r10d : RowIs ((((((((Wc).setCell ⟨W.heap.size + 1, 0, none⟩ (St mb.key)).setCell ⟨W.heap.size + 1, 1, none⟩ (.slice Cb1 mb.seen.length cb1)).setCell ⟨W.heap.size + 1, 2, none⟩ (.slice Cb2 mb.counts.length cb2)).setCell ⟨W.heap.size + 1, 3, none⟩ (.slice Cb3 mb.items.length cb3)).setCell ⟨W.heap.size + 1, 4, none⟩ (U mb.cell.1)).setCell ⟨W.heap.size + 1, 5, none⟩ (St mb.cell.2.1)).setCell ⟨W.heap.size + 1, 6, none⟩ (.bool mb.cell.2.2)) _ _ _ _ := put7_rowJ (e0 := noneE) (a1 := .slice none 0 0) (a2 := .slice none 0 0) (a3 := .slice none 0 0) (e := mb) (v1 := (.slice Cb1 mb.seen.length cb1)) (v2 := (.slice Cb2 mb.counts.length cb2)) (v3 := (.slice Cb3 mb.items.length cb3)) r10c
          have r9d : RowIs ((((((((Wc).setCell ⟨W.heap.size + 1, 0, none⟩ (St mb.key)).setCell ⟨W.heap.size + 1, 1, none⟩ (.slice Cb1 mb.seen.length cb1)).setCell ⟨W.heap.size + 1, 2, none⟩ (.slice Cb2 mb.counts.length cb2)).setCell ⟨W.heap.size + 1, 3, none⟩ (.slice Cb3 mb.items.length cb3)).setCell ⟨W.heap.size + 1, 4, none⟩ (U mb.cell.1)).setCell ⟨W.heap.size + 1, 5, none⟩ (St mb.cell.2.1)).setCell ⟨W.heap.size + 1, 6, none⟩ (.bool mb.cell.2.2)) _ _ _ _ := r9c.keep (put7_heap _ _ mb (.slice Cb1 mb.seen.length cb1) (.slice Cb2 mb.counts.length cb2) (.slice Cb3 mb.items.length cb3) _ (by omega))
          have hxd : Ext W ((((((((Wc).setCell ⟨W.heap.size + 1, 0, none⟩ (St mb.key)).setCell ⟨W.heap.size + 1, 1, none⟩ (.slice Cb1 mb.seen.length cb1)).setCell ⟨W.heap.size + 1, 2, none⟩ (.slice Cb2 mb.counts.length cb2)).setCell ⟨W.heap.size + 1, 3, none⟩ (.slice Cb3 mb.items.length cb3)).setCell ⟨W.heap.size + 1, 4, none⟩ (U mb.cell.1)).setCell ⟨W.heap.size + 1, 5, none⟩ (St mb.cell.2.1)).setCell ⟨W.heap.size + 1, 6, none⟩ (.bool mb.cell.2.2)) := put7_ext hxc (by omega) mb _ _ _
          have HBd := hEBb
          skip
          have HR9 := Lib.hid (show _ ∧ _ ∧ _ ∧ _ from ⟨r9d, r10d, hxd, HBd⟩)
          clear hlb hkb hfb0 hfb hEBb r9c r10c hxc r9d r10d hxd HBd HEB
          gi_wp2_with fail
          refine HK9.out _ _ ?_
          clear HK9 K9 q7 qb hlk2 eb0 eb1 eb2 eb3 eb4 eb5 eb6 sb0 sb1 sb2 sb3 sb4 sb5 sb6 fb0 fb1 fb2 fb3 fb4 fb5 fb6
          generalize ((((((((Wc).setCell ⟨W.heap.size + 1, 0, none⟩ (St mb.key)).setCell ⟨W.heap.size + 1, 1, none⟩ (.slice Cb1 mb.seen.length cb1)).setCell ⟨W.heap.size + 1, 2, none⟩ (.slice Cb2 mb.counts.length cb2)).setCell ⟨W.heap.size + 1, 3, none⟩ (.slice Cb3 mb.items.length cb3)).setCell ⟨W.heap.size + 1, 4, none⟩ (U mb.cell.1)).setCell ⟨W.heap.size + 1, 5, none⟩ (St mb.cell.2.1)).setCell ⟨W.heap.size + 1, 6, none⟩ (.bool mb.cell.2.2)) = Wd at *
          obtain ⟨r9d, r10d, hxd, HBd⟩ := HR9.out
          clear HR9
          have rS := HSx.out.ext hxd
          have hEd := HEx.out.ext hxd
          have HAd := Lib.hid (HAc.out.ext hxd)
          have HBd2 := Lib.hid (HBd.ext hxd)
          have hgl := rS.lt
          have hxz := hxd.size
          obtain ⟨J, hJ⟩ : ∃ J, J = joinEnt noneE mb := ⟨_, rfl⟩
          have HJe := Lib.hid hJ
          refine wpIn_region_factsA [fun v _ => v = .pointer (some ⟨W1.heap.size, 1, none⟩), fun v _ => v = .slice AE pre.length cE, fun v _ => v = entV noneE (.slice none 0 0) (.slice none 0 0) (.slice none 0 0), fun v _ => v = entV mb (.slice Cb1 mb.seen.length cb1) (.slice Cb2 mb.counts.length cb2) (.slice Cb3 mb.items.length cb3),
            fun v W' => ∃ u1 u2 u3, v = entV J u1 u2 u3 ∧ EntNew W' Wd.heap.size J u1 u2 u3, fun v W' => ∃ h u1 u2 u3, v = .slice (some ⟨h, 0, none⟩) 1 1 ∧ Wd.heap.size ≤ h ∧ RowIs W' h 37 (entL J u1 u2 u3) [] ∧ EntNew W' Wd.heap.size J u1 u2 u3] []
            rfl (by rintro ⟨a, w, h⟩; exact h) (by intro o ho c; simp only [List.mem_cons, List.not_mem_nil, or_false] at ho; rcases ho with rfl | rfl | rfl | rfl | rfl | rfl | rfl | rfl | rfl <;> (intro h; cases h)) (by kernel_rfl) (by kernel_rfl) ?hR ?hstep ?hend
          case hR =>
            simp only [List.mem_cons, List.not_mem_nil, or_false, forall_eq_or_imp, forall_eq]
            exact ⟨fun v _ _ h _ => h, fun v _ _ h _ => h, fun v _ _ h _ => h, fun v _ _ h _ => h, fun v _ _ h he => by obtain ⟨u1, u2, u3, e, z⟩ := h; exact ⟨u1, u2, u3, e, z.ext he⟩, fun v _ _ h he => by obtain ⟨k, u1, u2, u3, e, z, b, c⟩ := h; exact ⟨k, u1, u2, u3, e, z, b.ext he, c.ext he⟩⟩
          case hstep =>
            simp only [List.length_cons, List.length_nil, Nat.reduceAdd, List.take_succ_cons, List.take_zero, stepsAllA, and_true]
            refine ⟨?_, ?_, ?_, ?_, ?_, ?_⟩
            · intro x' W' he f
              have h : x' 5 = .pointer (some ⟨W1.heap.size, 0, none⟩) := f.1
              go_wp
              exact stepQ_ok (r := freshQ _ _ _ _) ⟨rfl, fun h => by simp at h⟩ (Ext.refl _)
            · intro x' W' he f
              have h : x' 57 = .pointer (some ⟨W1.heap.size, 1, none⟩) := f.1
              have hc := (rS.ext he).cell (j := 1) rfl
              go_wp
              exact stepQ_ok (r := freshQ _ _ _ _) ⟨rfl, fun h => by simp at h⟩ (Ext.refl _)
            · intro x' W' he f
              have h : x' 9 = .pointer (some ⟨W.heap.size, 0, none⟩) := f.1
              have c0 := (r9d.ext he).cell (j := 0) rfl
              have c1 := (r9d.ext he).cell (j := 1) rfl
              have c2 := (r9d.ext he).cell (j := 2) rfl
              have c3 := (r9d.ext he).cell (j := 3) rfl
              have c4 := (r9d.ext he).cell (j := 4) rfl
              have c5 := (r9d.ext he).cell (j := 5) rfl
              have c6 := (r9d.ext he).cell (j := 6) rfl
              go_wp
              exact stepQ_ok (r := freshQ _ _ _ _) ⟨rfl, fun h => by simp at h⟩ (Ext.refl _)
            · intro x' W' he f
              have h : x' 10 = .pointer (some ⟨W.heap.size + 1, 0, none⟩) := f.1
              have c0 := (r10d.ext he).cell (j := 0) rfl
              have c1 := (r10d.ext he).cell (j := 1) rfl
              have c2 := (r10d.ext he).cell (j := 2) rfl
              have c3 := (r10d.ext he).cell (j := 3) rfl
              have c4 := (r10d.ext he).cell (j := 4) rfl
              have c5 := (r10d.ext he).cell (j := 5) rfl
              have c6 := (r10d.ext he).cell (j := 6) rfl
              go_wp
              exact stepQ_ok (r := freshQ _ _ _ _) ⟨rfl, fun h => by simp at h⟩ (Ext.refl _)
            · intro x' W' he f
              have h59 : x' 59 = entV noneE (.slice none 0 0) (.slice none 0 0) (.slice none 0 0) := f.1
              have h60 : x' 60 = entV mb (.slice Cb1 mb.seen.length cb1) (.slice Cb2 mb.counts.length cb2) (.slice Cb3 mb.items.length cb3) := f.2.1
              have hs := he.size
              have HC := Lib.hid (joinE_any (HAd.out.ext he) (HBd2.out.ext he) hsm1 hsm2)
              rw [← hJ] at HC
              clear hJ
              go_wp
              refine HC.out.mono ?_
              rintro r W6 ⟨u1, u2, u3, rfl, hn, hx2⟩
              dsimp only
              go_wp
              exact stepQ_ok (v := entV J u1 u2 u3) (r := freshQ _ _ _ _) ⟨⟨u1, u2, u3, rfl, hn.lower hs⟩, fun h => by simp at h⟩ hx2
            · intro x' W' he f
              obtain ⟨u1, u2, u3, h, hn⟩ : ∃ u1 u2 u3, x' 61 = entV J u1 u2 u3 ∧ EntNew W' Wd.heap.size J u1 u2 u3 := f.1
              have hs := he.size
              obtain ⟨D1, d1, rfl, -, -⟩ := hn.seen.form
              obtain ⟨D2, d2, rfl, -, -⟩ := hn.counts.form
              obtain ⟨D3, d3, rfl, -, -⟩ := hn.items.form
              have hrow := rowNew W' 37 (entL J (.slice D1 J.seen.length d1) (.slice D2 J.counts.length d2) (.slice D3 J.items.length d3))
              have hxa := (Ext.refl W').alloc (.cells (entL J (.slice D1 J.seen.length d1) (.slice D2 J.counts.length d2) (.slice D3 J.items.length d3)).toArray 37)
              clear hJ
              go_wp
              exact stepQ_ok (v := .slice (some ⟨W'.heap.size, 0, none⟩) 1 1) (r := freshQ _ _ _ _) ⟨⟨W'.heap.size, _, _, _, rfl, hs, hrow, hn.ext hxa⟩, fun h => by simp at h⟩ hxa
          case hend =>
            intro x' W' he hap f
            have h58 : x' 58 = .slice AE pre.length cE := f.2.1
            obtain ⟨k, u1, u2, u3, h62, hk, hrow, hn⟩ : ∃ h u1 u2 u3, x' 62 = .slice (some ⟨h, 0, none⟩) 1 1 ∧ Wd.heap.size ≤ h ∧ RowIs W' h 37 (entL J u1 u2 u3) [] ∧ EntNew W' Wd.heap.size J u1 u2 u3 := f.2.2.2.2.2.1
            clear f hap hJ
            have hs := he.size
            simp only [List.length_cons, List.length_nil, Nat.reduceAdd, List.take_succ_cons, List.take_zero, List.filterMap_cons, List.filterMap_nil, List.drop_succ_cons, List.drop_zero, putAll, Act.put, List.setIfInBounds_toArray, List.set_cons_succ, List.set_cons_zero, h58, h62]
            have hone := entL_one (hn.rd (S := fun _ => True) (fun _ _ _ => trivial))
            have hEl : ∀ b, ownBlk (.slice AE pre.length cE) b → b < Wd.heap.size := fun b hb => (hEd.base_le hb).2
            have hEb : ∀ b, ownBlk (.slice AE pre.length cE) b → W4.heap.size ≤ b := fun b hb => (hEd.base_le hb).1
            obtain ⟨L0, hL0⟩ : ∃ L0, L0 = pre.map (fun k => joinEnt (getE se k) (getE te k)) := ⟨_, rfl⟩
            have hlen : L0.length = pre.length := by rw [hL0, List.length_map]
            have hEd2 := hEd.ext he
            rw [← hL0] at hEd2
            obtain ⟨vss, y1, y2, y3⟩ := hEd2
            rw [hlen] at y3
            have rSe := rS.ext he
            have hnS : ¬ ownBlk (.slice AE pre.length cE) W1.heap.size := fun hb => by have := hEb _ hb; omega
            have HL := Lib.hid (show (pre ++ [x]).map (fun k => joinEnt (getE se k) (getE te k)) = L0 ++ [J] from by rw [List.map_append, ← hL0]; simp only [List.map_cons, List.map_nil, HEd1.out, HEd2.out, HJe.out])
            have HS2 := Lib.hid (show _ ∧ _ from ⟨y1, y2⟩)
            have HNN := Lib.hid hn
            clear y1 y2 hL0 HEd1 HEd2
            refine wpList_append_Own rfl (.tmp 58) (.tmp 62) 27 rfl W4.heap.size 37 7 120 zeroEnt Tryz.underlying27 info_entry rfl (by omega) (.slice AE pre.length cE) pre.length vss.flatten (by simp [go_sem]) y3 (some ⟨k, 0, none⟩) 1 1 (entL J u1 u2 u3) (by simp [go_sem])
              ⟨by simp, hone, fun _ => ⟨k, 0, rfl, fun j u hj => by rw [Nat.zero_add]; exact hrow.cell hj⟩⟩ (by omega) (by omega) (by omega) ?_
            intro v' w' hown hgr
            have hE2 : RowE w' W4.heap.size W1.heap.size v' (L0 ++ [J]) := RowE.snoc HS2.out.1 HS2.out.2 HNN.out hEl hgl (by omega) (by rw [hlen]; exact hown) hgr
            have hF := hE2.form
            rw [show (L0 ++ [J]).length = pre.length + 1 by rw [List.length_append, hlen]; rfl] at hF
            obtain ⟨AF, cF, rfl, -, -⟩ := hF
            have rSw := rSe.keep (hgr.same _ rSe.lt hnS)
            have hc := rSw.cell (j := 1) rfl
            have hf := rSw.frozen 1
            have rS2 := rSw.set (j := 1) (by simp) (.slice AF (pre.length + 1) cF)
            simp only [List.set_cons_succ, List.set_cons_zero] at rS2
            have hO2 := ((HOx.out.ext (hxd.trans he)).grew hgr hEb).set (j := 1) (.slice AF (pre.length + 1) cF)
            have hko := ((hxd.trans he).keepsO.trans (hgr.keeps y3)).trans (KeepsOthers.setCell w' ⟨W1.heap.size, 1, none⟩ (.slice AF (pre.length + 1) cF))
            have hE3 := hE2.set (j := 1) (u := .slice AF (pre.length + 1) cF) rSw (by decide)
            have HF := Lib.hid (show _ ∧ _ ∧ _ ∧ _ from ⟨rS2, hO2, hko, hE3⟩)
            clear rS2 hO2 hko hE3 hE2 hgr hown HS2 HNN hn hrow y3 rSe rSw hEd rS hone r9d r10d HAd HBd2 HBd
            go_wp
            obtain ⟨rS2, hO2, hko, hE3⟩ := HF.out
            exact ⟨hko.from _, HOx.out.kps hO2 hko.size, _, rS2, by rw [HL.out]; exact hE3, hO2⟩
      | some ja =>
        rw [hfa0] at hlk1 hspa
        obtain ⟨prea, ma, posta, hla, hja, hka, hfa⟩ := hspa
        simp only [Option.map_some, Option.getD_some, Option.isSome_some] at hlk1
        obtain ⟨ba, oa, wa1, wa2, wa3, e, ea0, ea1, ea2, ea3, ea4, ea5, ea6, hEAa⟩ := HEA.out prea posta ma hla
        subst e
        obtain ⟨Ca1, ca1, rfl, -, -⟩ := hEAa.seen.form
        obtain ⟨Ca2, ca2, rfl, -, -⟩ := hEAa.counts.form
        obtain ⟨Ca3, ca3, rfl, -, -⟩ := hEAa.items.form
        have hlta : prea.length < se.length := by rw [hla]; simp
        have hma : ma ∈ se := by rw [hla]; simp
        subst hja
        have HEd1 := Lib.hid (show getE se x = ma from by unfold getE; rw [hfa]; rfl)
        have hsm1 := SM1.out.each ma hma
        have sa0 := r9.cell (j := 0) rfl
        have sa1 := r9.cell (j := 1) rfl
        have sa2 := r9.cell (j := 2) rfl
        have sa3 := r9.cell (j := 3) rfl
        have sa4 := r9.cell (j := 4) rfl
        have sa5 := r9.cell (j := 5) rfl
        have sa6 := r9.cell (j := 6) rfl
        have fa0 := r9.frozen 0
        have fa1 := r9.frozen 1
        have fa2 := r9.frozen 2
        have fa3 := r9.frozen 3
        have fa4 := r9.frozen 4
        have fa5 := r9.frozen 5
        have fa6 := r9.frozen 6
        have r9c : RowIs ((((((((Wb).setCell ⟨W.heap.size, 0, none⟩ (St ma.key)).setCell ⟨W.heap.size, 1, none⟩ (.slice Ca1 ma.seen.length ca1)).setCell ⟨W.heap.size, 2, none⟩ (.slice Ca2 ma.counts.length ca2)).setCell ⟨W.heap.size, 3, none⟩ (.slice Ca3 ma.items.length ca3)).setCell ⟨W.heap.size, 4, none⟩ (U ma.cell.1)).setCell ⟨W.heap.size, 5, none⟩ (St ma.cell.2.1)).setCell ⟨W.heap.size, 6, none⟩ (.bool ma.cell.2.2)) _ _ _ _ := put7_rowJ (e0 := noneE) (a1 := .slice none 0 0) (a2 := .slice none 0 0) (a3 := .slice none 0 0) (e := ma) (v1 := (.slice Ca1 ma.seen.length ca1)) (v2 := (.slice Ca2 ma.counts.length ca2)) (v3 := (.slice Ca3 ma.items.length ca3)) r9
        have r10c : RowIs ((((((((Wb).setCell ⟨W.heap.size, 0, none⟩ (St ma.key)).setCell ⟨W.heap.size, 1, none⟩ (.slice Ca1 ma.seen.length ca1)).setCell ⟨W.heap.size, 2, none⟩ (.slice Ca2 ma.counts.length ca2)).setCell ⟨W.heap.size, 3, none⟩ (.slice Ca3 ma.items.length ca3)).setCell ⟨W.heap.size, 4, none⟩ (U ma.cell.1)).setCell ⟨W.heap.size, 5, none⟩ (St ma.cell.2.1)).setCell ⟨W.heap.size, 6, none⟩ (.bool ma.cell.2.2)) _ _ _ _ := r10.keep (put7_heap _ _ ma (.slice Ca1 ma.seen.length ca1) (.slice Ca2 ma.counts.length ca2) (.slice Ca3 ma.items.length ca3) _ (by omega))
        have hxc : Ext W ((((((((Wb).setCell ⟨W.heap.size, 0, none⟩ (St ma.key)).setCell ⟨W.heap.size, 1, none⟩ (.slice Ca1 ma.seen.length ca1)).setCell ⟨W.heap.size, 2, none⟩ (.slice Ca2 ma.counts.length ca2)).setCell ⟨W.heap.size, 3, none⟩ (.slice Ca3 ma.items.length ca3)).setCell ⟨W.heap.size, 4, none⟩ (U ma.cell.1)).setCell ⟨W.heap.size, 5, none⟩ (St ma.cell.2.1)).setCell ⟨W.heap.size, 6, none⟩ (.bool ma.cell.2.2)) := put7_ext hxb (by omega) ma _ _ _
        have HAc := Lib.hid hEAa
        have HR6 := Lib.hid (show _ ∧ _ ∧ _ from ⟨r9c, r10c, hxc⟩)
        clear hla hka hfa0 hfa hEAa r9c r10c hxc r9 r10 HEA
        gi_wp2_with fail
        refine HK6.out _ _ ?_
        clear HK6 K6 q6 qa hlk1 ea0 ea1 ea2 ea3 ea4 ea5 ea6 sa0 sa1 sa2 sa3 sa4 sa5 sa6 fa0 fa1 fa2 fa3 fa4 fa5 fa6
        generalize ((((((((Wb).setCell ⟨W.heap.size, 0, none⟩ (St ma.key)).setCell ⟨W.heap.size, 1, none⟩ (.slice Ca1 ma.seen.length ca1)).setCell ⟨W.heap.size, 2, none⟩ (.slice Ca2 ma.counts.length ca2)).setCell ⟨W.heap.size, 3, none⟩ (.slice Ca3 ma.items.length ca3)).setCell ⟨W.heap.size, 4, none⟩ (U ma.cell.1)).setCell ⟨W.heap.size, 5, none⟩ (St ma.cell.2.1)).setCell ⟨W.heap.size, 6, none⟩ (.bool ma.cell.2.2)) = Wc at *
        obtain ⟨r9c, r10c, hxc⟩ := HR6.out
        clear HR6
        refine wpIn_seq_k ?_
        intro K9 hK9
        have HK9 := Lib.hid hK9
        clear hK9
        have q7 := (HR.out.2.1.ext hxc).cell (j := 0) rfl
        have qb := (HR.out.2.2.2.1.ext hxc).cell (j := 1) rfl
        have hlk2 := (run_lookup_MapIs (P := Tryz.prog) (z := 0) Tryz.underlying112 keyOkS zeroI (HR.out.2.2.2.2.2.ext hxc) x).2
        rw [lookL_mem, show ∀ L : List (Str × Int), getL 0 L x = (lookL L x).getD 0 from fun _ => rfl, plF_lookup te 0 [] x] at hlk2
        simp only [show lookL ([] : List (Str × Int)) x = none from rfl, Nat.zero_add] at hlk2
        have HEB := Lib.hid (fun (pre post : List Entry) (m : Entry) (hl : te = pre ++ m :: post) => entry_at EB hxc hl)
        clear EB
        cases hfb0 : te.findIdx? (fun e => decide (e.key = x)) with
        | none =>
          rw [hfb0] at hlk2 hspb
          simp only at hspb
          simp only [Option.map_none, Option.getD_none, Option.isSome_none] at hlk2
          have HEd2 := Lib.hid (show getE te x = noneE from by unfold getE; rw [hspb]; rfl)
          clear hspb hfb0
          gi_wp2_with fail
          refine HK9.out _ _ ?_
          clear HK9 K9 q7 qb hlk2 HEB
          have HBd := EntAt.none W (fun b => b < w.heap.size) none none none
          have hsm2 := small_none
          have r10d := r10c
          have r9d := r9c
          have hxd := hxc
          clear r9c r10c hxc
          obtain ⟨Wd, rfl⟩ : ∃ Wd, Wd = Wc := ⟨_, rfl⟩
          have rS := HSx.out.ext hxd
          have hEd := HEx.out.ext hxd
          have HAd := Lib.hid (HAc.out.ext hxd)
          have HBd2 := Lib.hid (HBd.ext hxd)
          have hgl := rS.lt
          have hxz := hxd.size
          obtain ⟨J, hJ⟩ : ∃ J, J = joinEnt ma noneE := ⟨_, rfl⟩
          have HJe := Lib.hid hJ
          refine wpIn_region_factsA [fun v _ => v = .pointer (some ⟨W1.heap.size, 1, none⟩), fun v _ => v = .slice AE pre.length cE, fun v _ => v = entV ma (.slice Ca1 ma.seen.length ca1) (.slice Ca2 ma.counts.length ca2) (.slice Ca3 ma.items.length ca3), fun v _ => v = entV noneE (.slice none 0 0) (.slice none 0 0) (.slice none 0 0),
            fun v W' => ∃ u1 u2 u3, v = entV J u1 u2 u3 ∧ EntNew W' Wd.heap.size J u1 u2 u3, fun v W' => ∃ h u1 u2 u3, v = .slice (some ⟨h, 0, none⟩) 1 1 ∧ Wd.heap.size ≤ h ∧ RowIs W' h 37 (entL J u1 u2 u3) [] ∧ EntNew W' Wd.heap.size J u1 u2 u3] []
            rfl (by rintro ⟨a, w, h⟩; exact h) (by intro o ho c; simp only [List.mem_cons, List.not_mem_nil, or_false] at ho; rcases ho with rfl | rfl | rfl | rfl | rfl | rfl | rfl | rfl | rfl <;> (intro h; cases h)) (by kernel_rfl) (by kernel_rfl) ?hR ?hstep ?hend
          case hR =>
            simp only [List.mem_cons, List.not_mem_nil, or_false, forall_eq_or_imp, forall_eq]
            exact ⟨fun v _ _ h _ => h, fun v _ _ h _ => h, fun v _ _ h _ => h, fun v _ _ h _ => h, fun v _ _ h he => by obtain ⟨u1, u2, u3, e, z⟩ := h; exact ⟨u1, u2, u3, e, z.ext he⟩, fun v _ _ h he => by obtain ⟨k, u1, u2, u3, e, z, b, c⟩ := h; exact ⟨k, u1, u2, u3, e, z, b.ext he, c.ext he⟩⟩
          case hstep =>
            simp only [List.length_cons, List.length_nil, Nat.reduceAdd, List.take_succ_cons, List.take_zero, stepsAllA, and_true]
            refine ⟨?_, ?_, ?_, ?_, ?_, ?_⟩
            · intro x' W' he f
              have h : x' 5 = .pointer (some ⟨W1.heap.size, 0, none⟩) := f.1
              go_wp
              exact stepQ_ok (r := freshQ _ _ _ _) ⟨rfl, fun h => by simp at h⟩ (Ext.refl _)
            · intro x' W' he f
              have h : x' 57 = .pointer (some ⟨W1.heap.size, 1, none⟩) := f.1
              have hc := (rS.ext he).cell (j := 1) rfl
              go_wp
              exact stepQ_ok (r := freshQ _ _ _ _) ⟨rfl, fun h => by simp at h⟩ (Ext.refl _)
            · intro x' W' he f
              have h : x' 9 = .pointer (some ⟨W.heap.size, 0, none⟩) := f.1
              have c0 := (r9d.ext he).cell (j := 0) rfl
              have c1 := (r9d.ext he).cell (j := 1) rfl
              have c2 := (r9d.ext he).cell (j := 2) rfl
              have c3 := (r9d.ext he).cell (j := 3) rfl
              have c4 := (r9d.ext he).cell (j := 4) rfl
              have c5 := (r9d.ext he).cell (j := 5) rfl
              have c6 := (r9d.ext he).cell (j := 6) rfl
              go_wp
              exact stepQ_ok (r := freshQ _ _ _ _) ⟨rfl, fun h => by simp at h⟩ (Ext.refl _)
            · intro x' W' he f
              have h : x' 10 = .pointer (some ⟨W.heap.size + 1, 0, none⟩) := f.1
              have c0 := (r10d.ext he).cell (j := 0) rfl
              have c1 := (r10d.ext he).cell (j := 1) rfl
              have c2 := (r10d.ext he).cell (j := 2) rfl
              have c3 := (r10d.ext he).cell (j := 3) rfl
              have c4 := (r10d.ext he).cell (j := 4) rfl
              have c5 := (r10d.ext he).cell (j := 5) rfl
              have c6 := (r10d.ext he).cell (j := 6) rfl
              go_wp
              exact stepQ_ok (r := freshQ _ _ _ _) ⟨rfl, fun h => by simp at h⟩ (Ext.refl _)
            · intro x' W' he f
              have h59 : x' 59 = entV ma (.slice Ca1 ma.seen.length ca1) (.slice Ca2 ma.counts.length ca2) (.slice Ca3 ma.items.length ca3) := f.1
              have h60 : x' 60 = entV noneE (.slice none 0 0) (.slice none 0 0) (.slice none 0 0) := f.2.1
              have hs := he.size
              have HC := Lib.hid (joinE_any (HAd.out.ext he) (HBd2.out.ext he) hsm1 hsm2)
              rw [← hJ] at HC
              clear hJ
              go_wp
              refine HC.out.mono ?_
              rintro r W6 ⟨u1, u2, u3, rfl, hn, hx2⟩
              dsimp only
              go_wp
              exact stepQ_ok (v := entV J u1 u2 u3) (r := freshQ _ _ _ _) ⟨⟨u1, u2, u3, rfl, hn.lower hs⟩, fun h => by simp at h⟩ hx2
            · intro x' W' he f
              obtain ⟨u1, u2, u3, h, hn⟩ : ∃ u1 u2 u3, x' 61 = entV J u1 u2 u3 ∧ EntNew W' Wd.heap.size J u1 u2 u3 := f.1
              have hs := he.size
              obtain ⟨D1, d1, rfl, -, -⟩ := hn.seen.form
              obtain ⟨D2, d2, rfl, -, -⟩ := hn.counts.form
              obtain ⟨D3, d3, rfl, -, -⟩ := hn.items.form
              have hrow := rowNew W' 37 (entL J (.slice D1 J.seen.length d1) (.slice D2 J.counts.length d2) (.slice D3 J.items.length d3))
              have hxa := (Ext.refl W').alloc (.cells (entL J (.slice D1 J.seen.length d1) (.slice D2 J.counts.length d2) (.slice D3 J.items.length d3)).toArray 37)
              clear hJ
              go_wp
              exact stepQ_ok (v := .slice (some ⟨W'.heap.size, 0, none⟩) 1 1) (r := freshQ _ _ _ _) ⟨⟨W'.heap.size, _, _, _, rfl, hs, hrow, hn.ext hxa⟩, fun h => by simp at h⟩ hxa
          case hend =>
            intro x' W' he hap f
            have h58 : x' 58 = .slice AE pre.length cE := f.2.1
            obtain ⟨k, u1, u2, u3, h62, hk, hrow, hn⟩ : ∃ h u1 u2 u3, x' 62 = .slice (some ⟨h, 0, none⟩) 1 1 ∧ Wd.heap.size ≤ h ∧ RowIs W' h 37 (entL J u1 u2 u3) [] ∧ EntNew W' Wd.heap.size J u1 u2 u3 := f.2.2.2.2.2.1
            clear f hap hJ
            have hs := he.size
            simp only [List.length_cons, List.length_nil, Nat.reduceAdd, List.take_succ_cons, List.take_zero, List.filterMap_cons, List.filterMap_nil, List.drop_succ_cons, List.drop_zero, putAll, Act.put, List.setIfInBounds_toArray, List.set_cons_succ, List.set_cons_zero, h58, h62]
            have hone := entL_one (hn.rd (S := fun _ => True) (fun _ _ _ => trivial))
            have hEl : ∀ b, ownBlk (.slice AE pre.length cE) b → b < Wd.heap.size := fun b hb => (hEd.base_le hb).2
            have hEb : ∀ b, ownBlk (.slice AE pre.length cE) b → W4.heap.size ≤ b := fun b hb => (hEd.base_le hb).1
            obtain ⟨L0, hL0⟩ : ∃ L0, L0 = pre.map (fun k => joinEnt (getE se k) (getE te k)) := ⟨_, rfl⟩
            have hlen : L0.length = pre.length := by rw [hL0, List.length_map]
            have hEd2 := hEd.ext he
            rw [← hL0] at hEd2
            obtain ⟨vss, y1, y2, y3⟩ := hEd2
            rw [hlen] at y3
            have rSe := rS.ext he
            have hnS : ¬ ownBlk (.slice AE pre.length cE) W1.heap.size := fun hb => by have := hEb _ hb; omega
            have HL := Lib.hid (show (pre ++ [x]).map (fun k => joinEnt (getE se k) (getE te k)) = L0 ++ [J] from by rw [List.map_append, ← hL0]; simp only [List.map_cons, List.map_nil, HEd1.out, HEd2.out, HJe.out])
            have HS2 := Lib.hid (show _ ∧ _ from ⟨y1, y2⟩)
            have HNN := Lib.hid hn
            clear y1 y2 hL0 HEd1 HEd2
            refine wpList_append_Own rfl (.tmp 58) (.tmp 62) 27 rfl W4.heap.size 37 7 120 zeroEnt Tryz.underlying27 info_entry rfl (by omega) (.slice AE pre.length cE) pre.length vss.flatten (by simp [go_sem]) y3 (some ⟨k, 0, none⟩) 1 1 (entL J u1 u2 u3) (by simp [go_sem])
              ⟨by simp, hone, fun _ => ⟨k, 0, rfl, fun j u hj => by rw [Nat.zero_add]; exact hrow.cell hj⟩⟩ (by omega) (by omega) (by omega) ?_
            intro v' w' hown hgr
            have hE2 : RowE w' W4.heap.size W1.heap.size v' (L0 ++ [J]) := RowE.snoc HS2.out.1 HS2.out.2 HNN.out hEl hgl (by omega) (by rw [hlen]; exact hown) hgr
            have hF := hE2.form
            rw [show (L0 ++ [J]).length = pre.length + 1 by rw [List.length_append, hlen]; rfl] at hF
            obtain ⟨AF, cF, rfl, -, -⟩ := hF
            have rSw := rSe.keep (hgr.same _ rSe.lt hnS)
            have hc := rSw.cell (j := 1) rfl
            have hf := rSw.frozen 1
            have rS2 := rSw.set (j := 1) (by simp) (.slice AF (pre.length + 1) cF)
            simp only [List.set_cons_succ, List.set_cons_zero] at rS2
            have hO2 := ((HOx.out.ext (hxd.trans he)).grew hgr hEb).set (j := 1) (.slice AF (pre.length + 1) cF)
            have hko := ((hxd.trans he).keepsO.trans (hgr.keeps y3)).trans (KeepsOthers.setCell w' ⟨W1.heap.size, 1, none⟩ (.slice AF (pre.length + 1) cF))
            have hE3 := hE2.set (j := 1) (u := .slice AF (pre.length + 1) cF) rSw (by decide)
            have HF := Lib.hid (show _ ∧ _ ∧ _ ∧ _ from ⟨rS2, hO2, hko, hE3⟩)
            clear rS2 hO2 hko hE3 hE2 hgr hown HS2 HNN hn hrow y3 rSe rSw hEd rS hone r9d r10d HAd HBd2 HBd
            go_wp
            obtain ⟨rS2, hO2, hko, hE3⟩ := HF.out
            exact ⟨hko.from _, HOx.out.kps hO2 hko.size, _, rS2, by rw [HL.out]; exact hE3, hO2⟩
        | some jb =>
          rw [hfb0] at hlk2 hspb
          obtain ⟨preb, mb, postb, hlb, hjb, hkb, hfb⟩ := hspb
          simp only [Option.map_some, Option.getD_some, Option.isSome_some] at hlk2
          obtain ⟨bb, ob, wb1, wb2, wb3, e, eb0, eb1, eb2, eb3, eb4, eb5, eb6, hEBb⟩ := HEB.out preb postb mb hlb
          subst e
          obtain ⟨Cb1, cb1, rfl, -, -⟩ := hEBb.seen.form
          obtain ⟨Cb2, cb2, rfl, -, -⟩ := hEBb.counts.form
          obtain ⟨Cb3, cb3, rfl, -, -⟩ := hEBb.items.form
          have hltb : preb.length < te.length := by rw [hlb]; simp
          have hmb : mb ∈ te := by rw [hlb]; simp
          subst hjb
          have HEd2 := Lib.hid (show getE te x = mb from by unfold getE; rw [hfb]; rfl)
          have hsm2 := SM2.out.each mb hmb
          have sb0 := r10c.cell (j := 0) rfl
          have sb1 := r10c.cell (j := 1) rfl
          have sb2 := r10c.cell (j := 2) rfl
          have sb3 := r10c.cell (j := 3) rfl
          have sb4 := r10c.cell (j := 4) rfl
          have sb5 := r10c.cell (j := 5) rfl
          have sb6 := r10c.cell (j := 6) rfl
          have fb0 := r10c.frozen 0
          have fb1 := r10c.frozen 1
          have fb2 := r10c.frozen 2
          have fb3 := r10c.frozen 3
          have fb4 := r10c.frozen 4
          have fb5 := r10c.frozen 5
          have fb6 := r10c.frozen 6
          have r10d : RowIs ((((((((Wc).setCell ⟨W.heap.size + 1, 0, none⟩ (St mb.key)).setCell ⟨W.heap.size + 1, 1, none⟩ (.slice Cb1 mb.seen.length cb1)).setCell ⟨W.heap.size + 1, 2, none⟩ (.slice Cb2 mb.counts.length cb2)).setCell ⟨W.heap.size + 1, 3, none⟩ (.slice Cb3 mb.items.length cb3)).setCell ⟨W.heap.size + 1, 4, none⟩ (U mb.cell.1)).setCell ⟨W.heap.size + 1, 5, none⟩ (St mb.cell.2.1)).setCell ⟨W.heap.size + 1, 6, none⟩ (.bool mb.cell.2.2)) _ _ _ _ := put7_rowJ (e0 := noneE) (a1 := .slice none 0 0) (a2 := .slice none 0 0) (a3 := .slice none 0 0) (e := mb) (v1 := (.slice Cb1 mb.seen.length cb1)) (v2 := (.slice Cb2 mb.counts.length cb2)) (v3 := (.slice Cb3 mb.items.length cb3)) r10c
          have r9d : RowIs ((((((((Wc).setCell ⟨W.heap.size + 1, 0, none⟩ (St mb.key)).setCell ⟨W.heap.size + 1, 1, none⟩ (.slice Cb1 mb.seen.length cb1)).setCell ⟨W.heap.size + 1, 2, none⟩ (.slice Cb2 mb.counts.length cb2)).setCell ⟨W.heap.size + 1, 3, none⟩ (.slice Cb3 mb.items.length cb3)).setCell ⟨W.heap.size + 1, 4, none⟩ (U mb.cell.1)).setCell ⟨W.heap.size + 1, 5, none⟩ (St mb.cell.2.1)).setCell ⟨W.heap.size + 1, 6, none⟩ (.bool mb.cell.2.2)) _ _ _ _ := r9c.keep (put7_heap _ _ mb (.slice Cb1 mb.seen.length cb1) (.slice Cb2 mb.counts.length cb2) (.slice Cb3 mb.items.length cb3) _ (by omega))
          have hxd : Ext W ((((((((Wc).setCell ⟨W.heap.size + 1, 0, none⟩ (St mb.key)).setCell ⟨W.heap.size + 1, 1, none⟩ (.slice Cb1 mb.seen.length cb1)).setCell ⟨W.heap.size + 1, 2, none⟩ (.slice Cb2 mb.counts.length cb2)).setCell ⟨W.heap.size + 1, 3, none⟩ (.slice Cb3 mb.items.length cb3)).setCell ⟨W.heap.size + 1, 4, none⟩ (U mb.cell.1)).setCell ⟨W.heap.size + 1, 5, none⟩ (St mb.cell.2.1)).setCell ⟨W.heap.size + 1, 6, none⟩ (.bool mb.cell.2.2)) := put7_ext hxc (by omega) mb _ _ _
          have HBd := hEBb
          skip
          have HR9 := Lib.hid (show _ ∧ _ ∧ _ ∧ _ from ⟨r9d, r10d, hxd, HBd⟩)
          clear hlb hkb hfb0 hfb hEBb r9c r10c hxc r9d r10d hxd HBd HEB
          gi_wp2_with fail
          refine HK9.out _ _ ?_
          clear HK9 K9 q7 qb hlk2 eb0 eb1 eb2 eb3 eb4 eb5 eb6 sb0 sb1 sb2 sb3 sb4 sb5 sb6 fb0 fb1 fb2 fb3 fb4 fb5 fb6
          generalize ((((((((Wc).setCell ⟨W.heap.size + 1, 0, none⟩ (St mb.key)).setCell ⟨W.heap.size + 1, 1, none⟩ (.slice Cb1 mb.seen.length cb1)).setCell ⟨W.heap.size + 1, 2, none⟩ (.slice Cb2 mb.counts.length cb2)).setCell ⟨W.heap.size + 1, 3, none⟩ (.slice Cb3 mb.items.length cb3)).setCell ⟨W.heap.size + 1, 4, none⟩ (U mb.cell.1)).setCell ⟨W.heap.size + 1, 5, none⟩ (St mb.cell.2.1)).setCell ⟨W.heap.size + 1, 6, none⟩ (.bool mb.cell.2.2)) = Wd at *
          obtain ⟨r9d, r10d, hxd, HBd⟩ := HR9.out
          clear HR9
          have rS := HSx.out.ext hxd
          have hEd := HEx.out.ext hxd
          have HAd := Lib.hid (HAc.out.ext hxd)
          have HBd2 := Lib.hid (HBd.ext hxd)
          have hgl := rS.lt
          have hxz := hxd.size
          obtain ⟨J, hJ⟩ : ∃ J, J = joinEnt ma mb := ⟨_, rfl⟩
          have HJe := Lib.hid hJ
          refine wpIn_region_factsA [fun v _ => v = .pointer (some ⟨W1.heap.size, 1, none⟩), fun v _ => v = .slice AE pre.length cE, fun v _ => v = entV ma (.slice Ca1 ma.seen.length ca1) (.slice Ca2 ma.counts.length ca2) (.slice Ca3 ma.items.length ca3), fun v _ => v = entV mb (.slice Cb1 mb.seen.length cb1) (.slice Cb2 mb.counts.length cb2) (.slice Cb3 mb.items.length cb3),
            fun v W' => ∃ u1 u2 u3, v = entV J u1 u2 u3 ∧ EntNew W' Wd.heap.size J u1 u2 u3, fun v W' => ∃ h u1 u2 u3, v = .slice (some ⟨h, 0, none⟩) 1 1 ∧ Wd.heap.size ≤ h ∧ RowIs W' h 37 (entL J u1 u2 u3) [] ∧ EntNew W' Wd.heap.size J u1 u2 u3] []
            rfl (by rintro ⟨a, w, h⟩; exact h) (by intro o ho c; simp only [List.mem_cons, List.not_mem_nil, or_false] at ho; rcases ho with rfl | rfl | rfl | rfl | rfl | rfl | rfl | rfl | rfl <;> (intro h; cases h)) (by kernel_rfl) (by kernel_rfl) ?hR ?hstep ?hend
          case hR =>
            simp only [List.mem_cons, List.not_mem_nil, or_false, forall_eq_or_imp, forall_eq]
            exact ⟨fun v _ _ h _ => h, fun v _ _ h _ => h, fun v _ _ h _ => h, fun v _ _ h _ => h, fun v _ _ h he => by obtain ⟨u1, u2, u3, e, z⟩ := h; exact ⟨u1, u2, u3, e, z.ext he⟩, fun v _ _ h he => by obtain ⟨k, u1, u2, u3, e, z, b, c⟩ := h; exact ⟨k, u1, u2, u3, e, z, b.ext he, c.ext he⟩⟩
          case hstep =>
            simp only [List.length_cons, List.length_nil, Nat.reduceAdd, List.take_succ_cons, List.take_zero, stepsAllA, and_true]
            refine ⟨?_, ?_, ?_, ?_, ?_, ?_⟩
            · intro x' W' he f
              have h : x' 5 = .pointer (some ⟨W1.heap.size, 0, none⟩) := f.1
              go_wp
              exact stepQ_ok (r := freshQ _ _ _ _) ⟨rfl, fun h => by simp at h⟩ (Ext.refl _)
            · intro x' W' he f
              have h : x' 57 = .pointer (some ⟨W1.heap.size, 1, none⟩) := f.1
              have hc := (rS.ext he).cell (j := 1) rfl
              go_wp
              exact stepQ_ok (r := freshQ _ _ _ _) ⟨rfl, fun h => by simp at h⟩ (Ext.refl _)
            · intro x' W' he f
              have h : x' 9 = .pointer (some ⟨W.heap.size, 0, none⟩) := f.1
              have c0 := (r9d.ext he).cell (j := 0) rfl
              have c1 := (r9d.ext he).cell (j := 1) rfl
              have c2 := (r9d.ext he).cell (j := 2) rfl
              have c3 := (r9d.ext he).cell (j := 3) rfl
              have c4 := (r9d.ext he).cell (j := 4) rfl
              have c5 := (r9d.ext he).cell (j := 5) rfl
              have c6 := (r9d.ext he).cell (j := 6) rfl
              go_wp
              exact stepQ_ok (r := freshQ _ _ _ _) ⟨rfl, fun h => by simp at h⟩ (Ext.refl _)
            · intro x' W' he f
              have h : x' 10 = .pointer (some ⟨W.heap.size + 1, 0, none⟩) := f.1
              have c0 := (r10d.ext he).cell (j := 0) rfl
              have c1 := (r10d.ext he).cell (j := 1) rfl
              have c2 := (r10d.ext he).cell (j := 2) rfl
              have c3 := (r10d.ext he).cell (j := 3) rfl
              have c4 := (r10d.ext he).cell (j := 4) rfl
              have c5 := (r10d.ext he).cell (j := 5) rfl
              have c6 := (r10d.ext he).cell (j := 6) rfl
              go_wp
              exact stepQ_ok (r := freshQ _ _ _ _) ⟨rfl, fun h => by simp at h⟩ (Ext.refl _)
            · intro x' W' he f
              have h59 : x' 59 = entV ma (.slice Ca1 ma.seen.length ca1) (.slice Ca2 ma.counts.length ca2) (.slice Ca3 ma.items.length ca3) := f.1
              have h60 : x' 60 = entV mb (.slice Cb1 mb.seen.length cb1) (.slice Cb2 mb.counts.length cb2) (.slice Cb3 mb.items.length cb3) := f.2.1
              have hs := he.size
              have HC := Lib.hid (joinE_any (HAd.out.ext he) (HBd2.out.ext he) hsm1 hsm2)
              rw [← hJ] at HC
              clear hJ
              go_wp
              refine HC.out.mono ?_
              rintro r W6 ⟨u1, u2, u3, rfl, hn, hx2⟩
              dsimp only
              go_wp
              exact stepQ_ok (v := entV J u1 u2 u3) (r := freshQ _ _ _ _) ⟨⟨u1, u2, u3, rfl, hn.lower hs⟩, fun h => by simp at h⟩ hx2
            · intro x' W' he f
              obtain ⟨u1, u2, u3, h, hn⟩ : ∃ u1 u2 u3, x' 61 = entV J u1 u2 u3 ∧ EntNew W' Wd.heap.size J u1 u2 u3 := f.1
              have hs := he.size
              obtain ⟨D1, d1, rfl, -, -⟩ := hn.seen.form
              obtain ⟨D2, d2, rfl, -, -⟩ := hn.counts.form
              obtain ⟨D3, d3, rfl, -, -⟩ := hn.items.form
              have hrow := rowNew W' 37 (entL J (.slice D1 J.seen.length d1) (.slice D2 J.counts.length d2) (.slice D3 J.items.length d3))
              have hxa := (Ext.refl W').alloc (.cells (entL J (.slice D1 J.seen.length d1) (.slice D2 J.counts.length d2) (.slice D3 J.items.length d3)).toArray 37)
              clear hJ
              go_wp
              exact stepQ_ok (v := .slice (some ⟨W'.heap.size, 0, none⟩) 1 1) (r := freshQ _ _ _ _) ⟨⟨W'.heap.size, _, _, _, rfl, hs, hrow, hn.ext hxa⟩, fun h => by simp at h⟩ hxa
          case hend =>
            intro x' W' he hap f
            have h58 : x' 58 = .slice AE pre.length cE := f.2.1
            obtain ⟨k, u1, u2, u3, h62, hk, hrow, hn⟩ : ∃ h u1 u2 u3, x' 62 = .slice (some ⟨h, 0, none⟩) 1 1 ∧ Wd.heap.size ≤ h ∧ RowIs W' h 37 (entL J u1 u2 u3) [] ∧ EntNew W' Wd.heap.size J u1 u2 u3 := f.2.2.2.2.2.1
            clear f hap hJ
            have hs := he.size
            simp only [List.length_cons, List.length_nil, Nat.reduceAdd, List.take_succ_cons, List.take_zero, List.filterMap_cons, List.filterMap_nil, List.drop_succ_cons, List.drop_zero, putAll, Act.put, List.setIfInBounds_toArray, List.set_cons_succ, List.set_cons_zero, h58, h62]
            have hone := entL_one (hn.rd (S := fun _ => True) (fun _ _ _ => trivial))
            have hEl : ∀ b, ownBlk (.slice AE pre.length cE) b → b < Wd.heap.size := fun b hb => (hEd.base_le hb).2
            have hEb : ∀ b, ownBlk (.slice AE pre.length cE) b → W4.heap.size ≤ b := fun b hb => (hEd.base_le hb).1
            obtain ⟨L0, hL0⟩ : ∃ L0, L0 = pre.map (fun k => joinEnt (getE se k) (getE te k)) := ⟨_, rfl⟩
            have hlen : L0.length = pre.length := by rw [hL0, List.length_map]
            have hEd2 := hEd.ext he
            rw [← hL0] at hEd2
            obtain ⟨vss, y1, y2, y3⟩ := hEd2
            rw [hlen] at y3
            have rSe := rS.ext he
            have hnS : ¬ ownBlk (.slice AE pre.length cE) W1.heap.size := fun hb => by have := hEb _ hb; omega
            have HL := Lib.hid (show (pre ++ [x]).map (fun k => joinEnt (getE se k) (getE te k)) = L0 ++ [J] from by rw [List.map_append, ← hL0]; simp only [List.map_cons, List.map_nil, HEd1.out, HEd2.out, HJe.out])
            have HS2 := Lib.hid (show _ ∧ _ from ⟨y1, y2⟩)
            have HNN := Lib.hid hn
            clear y1 y2 hL0 HEd1 HEd2
            refine wpList_append_Own rfl (.tmp 58) (.tmp 62) 27 rfl W4.heap.size 37 7 120 zeroEnt Tryz.underlying27 info_entry rfl (by omega) (.slice AE pre.length cE) pre.length vss.flatten (by simp [go_sem]) y3 (some ⟨k, 0, none⟩) 1 1 (entL J u1 u2 u3) (by simp [go_sem])
              ⟨by simp, hone, fun _ => ⟨k, 0, rfl, fun j u hj => by rw [Nat.zero_add]; exact hrow.cell hj⟩⟩ (by omega) (by omega) (by omega) ?_
            intro v' w' hown hgr
            have hE2 : RowE w' W4.heap.size W1.heap.size v' (L0 ++ [J]) := RowE.snoc HS2.out.1 HS2.out.2 HNN.out hEl hgl (by omega) (by rw [hlen]; exact hown) hgr
            have hF := hE2.form
            rw [show (L0 ++ [J]).length = pre.length + 1 by rw [List.length_append, hlen]; rfl] at hF
            obtain ⟨AF, cF, rfl, -, -⟩ := hF
            have rSw := rSe.keep (hgr.same _ rSe.lt hnS)
            have hc := rSw.cell (j := 1) rfl
            have hf := rSw.frozen 1
            have rS2 := rSw.set (j := 1) (by simp) (.slice AF (pre.length + 1) cF)
            simp only [List.set_cons_succ, List.set_cons_zero] at rS2
            have hO2 := ((HOx.out.ext (hxd.trans he)).grew hgr hEb).set (j := 1) (.slice AF (pre.length + 1) cF)
            have hko := ((hxd.trans he).keepsO.trans (hgr.keeps y3)).trans (KeepsOthers.setCell w' ⟨W1.heap.size, 1, none⟩ (.slice AF (pre.length + 1) cF))
            have hE3 := hE2.set (j := 1) (u := .slice AF (pre.length + 1) cF) rSw (by decide)
            have HF := Lib.hid (show _ ∧ _ ∧ _ ∧ _ from ⟨rS2, hO2, hko, hE3⟩)
            clear rS2 hO2 hko hE3 hE2 hgr hown HS2 HNN hn hrow y3 rSe rSw hEd rS hone r9d r10d HAd HBd2 HBd
            go_wp
            obtain ⟨rS2, hO2, hko, hE3⟩ := HF.out
            exact ⟨hko.from _, HOx.out.kps hO2 hko.size, _, rS2, by rw [HL.out]; exact hE3, hO2⟩
    case done =>
      rintro D ys W hD rfl ⟨vE, hS, hE, hO⟩ hK
      have hOs := hO.size
      have hEf := hE.form
      rw [List.length_map] at hEf
      obtain ⟨AE, cE, rfl, -, -⟩ := hEf
      have rA := rA4.keep (hO.same w.heap.size (by omega) (by omega))
      have rB := rB4.keep (hO.same (w.heap.size + 1) (by omega) (by omega))
      have rR := rR4.keep (hO.same (w.heap.size + 1 + 1) (by omega) (by omega))
      have hV := HV4.out.keep (w' := W) (fun b hb hlt => hO.same b hlt (fun e => HV4.out.apart rG4 (by decide) (by rw [← e]; exact hb)))
      have PA := HA4.out.pruned.keep (by decide) (w' := W) (fun b hb h2 => hO.same b (by omega) (by omega))
      have PB := HB4.out.pruned.keep (by decide) (w' := W) (fun b hb h2 => hO.same b (by omega) (by omega))
      have hXw : Ext w W := hO.below HX4.out (by omega) (by omega)
      have HKD := Lib.hid hK
      clear hK
      have qa := rA.cell (j := 2) rfl
      have qb := rB.cell (j := 2) rfl
      have hxc : Ext W (W.alloc (.cells #[.slice A3 sp.length n3, .slice B3 tp.length m3] 28)) := (Ext.refl W).alloc _
      have rC := rowNew W 28 [.slice A3 sp.length n3, .slice B3 tp.length m3]
      have hlen : [sp, tp].flatten.length ≤ 1099511627776 := by have := SM1.out.pruned; have := SM2.out.pruned; simp at *; omega
      have HC := Lib.hid (concatS_any (sl_twoS (hk := by decide) (S := fun b => b ≤ W.heap.size) ((PA.mono (by decide) fun b _ h => by omega).ext (by decide) hxc) ((PB.mono (by decide) fun b _ h => by omega).ext (by decide) hxc) (Nat.le_refl _) (rC.cell (j := 0) rfl) (rC.cell (j := 1) rfl)) hlen)
      have HSx := Lib.hid hS
      have HEx := Lib.hid hE
      have HOx := Lib.hid hO
      have HXw := Lib.hid hXw
      have HVx := Lib.hid hV
      clear hS hE hO hXw hV PA PB rC
      dsimp only [Exit.inBlock, Exit.then]
      go_wp2_with fail
      refine HC.out.mono ?_
      rintro r W5 ⟨vP, rfl, hP, hx5⟩
      obtain ⟨P1, pn, rfl, -, -⟩ := hP.form
      have hx05 := hxc.trans hx5
      have hg5 : W1.heap.size < W.heap.size := by omega
      have hP5 := hP.lower (base' := W.heap.size) (by simp)
      obtain ⟨LP, hLP⟩ : ∃ LP, LP = [sp, tp].flatten := ⟨_, rfl⟩
      have HLP := Lib.hid hLP
      rw [← hLP] at hP5 hlen ⊢
      clear hLP hP HC hx5 hxc
      have rS5 := HSx.out.ext hx05
      have s52 := rS5.cell (j := 2) rfl
      have sf52 := rS5.frozen 2
      have rS6 := rS5.set (j := 2) (by simp) (.slice P1 LP.length pn)
      simp only [List.set_cons_succ, List.set_cons_zero] at rS6
      have hP6 := hP5.keep (w' := W5.setCell ⟨W1.heap.size, 2, none⟩ (.slice P1 LP.length pn)) (fun b hb _ => Below.heap_setCell _ _ _ _ (fun e => hP5.apart rS5 (by decide) (by have e2 : b = W1.heap.size := e; rw [← e2]; exact hb)))
      have HK6 := Lib.hid (((OldK.refl (n := W.heap.size) (g := W1.heap.size) (Nat.le_refl _)).ext hx05).set (j := 2) (.slice P1 LP.length pn))
      have HSO := Lib.hid (sortS_any hP6 hlen)
      have c62 := rS6.cell (j := 2) rfl
      have hz6 := HK6.out.size
      have HS6 := Lib.hid rS6
      clear rS5 rS6 hP5 hP6 hx05 qa qb
      go_wp2_with fail
      clear s52 sf52
      generalize W5.setCell ⟨W1.heap.size, 2, none⟩ (.slice P1 LP.length pn) = W6 at *
      refine HSO.out.mono ?_
      rintro r W7 ⟨rfl, hP7, hb7⟩
      have hlS := sortS_len LP
      have rS7 := HS6.out.keep (hb7.block _ hg5)
      have HK7 := Lib.hid (HK6.out.low hb7)
      have HCO := compactS_any hP7 (by omega)
      have HCP := Lib.hid HCO
      have c72 := rS7.cell (j := 2) rfl
      have cf72 := rS7.frozen 2
      have HS7 := Lib.hid rS7
      clear HS6 HK6 HSO hP7 hb7 c62 rS7 hlS HCO
      go_wp2_with fail
      refine HCP.out.mono ?_
      rintro r W8 ⟨vC, rfl, hP8, hb8⟩
      obtain ⟨LC, hLC⟩ : ∃ LC, LC = Lib.compact (sortS LP) := ⟨_, rfl⟩
      have HLC := Lib.hid hLC
      rw [← hLC] at hP8
      obtain ⟨C1, cn, rfl, -, -⟩ := hP8.form
      have rS8 := HS7.out.keep (hb8.block _ hg5)
      have HK8 := HK7.out.low hb8
      have s82 := rS8.cell (j := 2) rfl
      have s80 := rS8.cell (j := 0) rfl
      have s81 := rS8.cell (j := 1) rfl
      have sf82 := rS8.frozen 2
      have hkr := HK8.same (w.heap.size + 1 + 1) (by omega) (by omega)
      have rR8 := rR.keep hkr
      have t0 := rR8.cell (j := 0) rfl
      have t1 := rR8.cell (j := 1) rfl
      have t2 := rR8.cell (j := 2) rfl
      have tf0 := rR8.frozen 0
      have tf1 := rR8.frozen 1
      have tf2 := rR8.frozen 2
      have rS9 := rS8.set (j := 2) (by simp) (.slice C1 LC.length cn)
      simp only [List.set_cons_succ, List.set_cons_zero] at rS9
      have hP9 := hP8.keep (w' := W8.setCell ⟨W1.heap.size, 2, none⟩ (.slice C1 LC.length cn)) (fun b hb _ => Below.heap_setCell _ _ _ _ (fun e => hP8.apart rS8 (by decide) (by have e2 : b = W1.heap.size := e; rw [← e2]; exact hb)))
      have HK9 := Lib.hid (HK8.set (j := 2) (.slice C1 LC.length cn))
      have HP9 := Lib.hid hP9
      have hneR : ¬ (w.heap.size + 1 + 1 = W1.heap.size) := by omega
      have hneR2 : ¬ (W1.heap.size = w.heap.size + 1 + 1) := by omega
      clear hLC hP8 hb8 rS8 HK8 hkr rR8 rS9 hP9 HCP HS7 HK7 c72
      go_wp2_with fail
      generalize W8.setCell ⟨W1.heap.size, 2, none⟩ (.slice C1 LC.length cn) = W9 at *
      have hDl : D < W.heap.size := (Array.getElem?_eq_some_iff.1 HKD.out).1
      obtain ⟨vG, hvG⟩ : ∃ v, v = Value.slice J1 (joinM sa ta).length j1 := ⟨_, rfl⟩
      obtain ⟨vE, hvE⟩ : ∃ v, v = Value.slice AE (keysE se te).length cE := ⟨_, rfl⟩
      obtain ⟨vC, hvC⟩ : ∃ v, v = Value.slice C1 LC.length cn := ⟨_, rfl⟩
      have hK2 : (put3 W9 (w.heap.size + 1 + 1) vG vE vC).heap[D]? = some (.deferred (some [])) := (put3_heap _ _ _ _ _ _ (by omega)).trans ((HK9.out.same D hDl (by omega)).trans HKD.out)
      have hsame : ∀ b, b < W.heap.size → b ≠ W1.heap.size → b ≠ w.heap.size + 1 + 1 → (put3 W9 (w.heap.size + 1 + 1) vG vE vC).heap[b]? = W.heap[b]? := fun b h1 h2 h3 => (put3_heap _ _ _ _ _ _ h3).trans (HK9.out.same b h1 h2)
      have hxP : Ext w (put3 W9 (w.heap.size + 1 + 1) vG vE vC) := put3_ext (HK9.out.below HXw.out (by omega) (by omega)) (by omega) _ _ _
      have rRP : RowIs (put3 W9 (w.heap.size + 1 + 1) vG vE vC) (w.heap.size + 1 + 1) 30 [vG, vE, vC] [] := by have h := (((rR.keep (HK9.out.same (w.heap.size + 1 + 1) (by omega) (by omega))).set (j := 0) (by simp) vG).set (j := 1) (by simp) vE).set (j := 2) (by simp) vC; simpa using h
      have hg := grownBy_putObj' (put3 W9 (w.heap.size + 1 + 1) vG vE vC) D (.deferred none)
      have hr : ∀ r, (some D : Option Nat) = some r → ∃ o : Obj, (put3 W9 (w.heap.size + 1 + 1) vG vE vC).heap[r]? = some o ∧ o.isCells = false := fun r e => by cases e; exact ⟨_, hK2, rfl⟩
      have rRF := rRP.kept hg hr
      have o1 := (HVx.out.keep (w' := put3 W9 (w.heap.size + 1 + 1) vG vE vC) (fun b hb hlt => hsame b hlt (fun e => HVx.out.apart HSx.out (by decide) (by rw [← e]; exact hb)) (by have := (HVx.out.base_le hb).1; omega))).kept hg hr
      have o2 := (HEx.out.keep (w' := put3 W9 (w.heap.size + 1 + 1) vG vE vC) (fun b hb hlt hor => hsame b hlt (by omega) (by omega))).kept hg hr
      have o3 := (HP9.out.keep (w' := put3 W9 (w.heap.size + 1 + 1) vG vE vC) (fun b hb hlt => put3_heap _ _ _ _ _ _ (by have := (HP9.out.base_le hb).1; omega))).kept hg hr
      have o4 : Ext w ((put3 W9 (w.heap.size + 1 + 1) vG vE vC).putObj D (.deferred none)) := Below.trans hxP (belowK_b (w := w) (Nat.le_refl _) _ D _ _ (by omega) hK2 rfl rfl)
      have hpr : Lib.compact (sortS (sp ++ tp)) = LC := by rw [HLC.out, HLP.out]; simp
      have q0 := rRF.cell (j := 0) rfl
      have q1 := rRF.cell (j := 1) rfl
      have q2 := rRF.cell (j := 2) rfl
      have hwW4 : w.heap.size ≤ W4.heap.size := by omega
      have hwW : w.heap.size ≤ W.heap.size := by omega
      rw [← hvG] at o1
      rw [← hvE] at o2
      rw [← hvC] at o3
      rw [← hvG, ← hvE, ← hvC]
      clear hvG hvE hvC hsame hxP rRP hg hr
      refine ⟨by simp, .inl ⟨_, _, rfl, run_takeDeferred hK2, ?_⟩⟩
      refine ⟨stV vG vE vC, ?_, vG, vE, vC, rfl, ⟨?_, ?_, ?_⟩, o4⟩
      · simp [results, Tryz.f15, go_sem, q0, q1, q2]
      · exact o1.lower (base' := w.heap.size) (Nat.le_add_right _ _)
      · exact OwnL.lower (OwnL.mono o2 (S' := fun b => w.heap.size ≤ b ∧ ¬ ownBlk vE b) fun b _ hb => ⟨Nat.le_trans hwW4 hb.1, hb.2.2⟩) hwW4
      · show Own _ _ _ _ _ (Lib.compact (sortS (sp ++ tp))).length ((Lib.compact (sortS (sp ++ tp))).flatMap strC); rw [hpr]; exact o3.lower (base' := w.heap.size) hwW
end Go.Proofs.YtdikcgmdmcfpfaaGreat
