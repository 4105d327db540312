/- Contracts of the functions that the statement goes through, with their plain words: Package state: Copy. Package entry: Value. Package state: Of, Get. Package entry: the closures of updates that call and store what comes of it: add, write, put. Printed by gen_updates.py. Package entry: the other closures of updates. Package entry: updates: the map of maps of closures. -/
import Derived.Test.YtdikcgmdmcfpfaaGreatSf09
namespace Go.Proofs.YtdikcgmdmcfpfaaGreat
open Go.RowKit Go.Shelf

set_option maxRecDepth 100000 in
set_option maxHeartbeats 2000000 in
theorem copyS_any {S : Nat → Prop} {s : State} {v1 v2 v3 : Value} {w : World} (h : StAt w S s v1 v2 v3) (sm : SmallS s) :
    Calls Tryz.prog 28 #[stV v1 v2 v3] w fun r w' => ∃ u1 u2 u3, r = .returned (stV u1 u2 u3) ∧ StNew w' w.heap.size s u1 u2 u3 ∧ Ext w w' := by
  obtain ⟨sa, se, sp⟩ := s
  obtain ⟨A1, n1, rfl, -, -⟩ := h.all.form
  obtain ⟨A2, n2, rfl, -, -⟩ := h.entries.form
  obtain ⟨A3, n3, rfl, -, -⟩ := h.pruned.form
  have h' := h.entries
  have HAT := Lib.hid (fun (pre post : List Entry) (m : Entry) (wr : World) (hx : Ext w wr) (hl : se = pre ++ m :: post) => entry_at h' hx hl)
  have H := Lib.hid h
  have SM := Lib.hid sm
  have hx0 := ((Ext.refl w).alloc (.cells #[.slice A1 sa.length n1, .slice A2 se.length n2, .slice A3 sp.length n3] 30)).alloc (.cells #[.slice none 0 0, .slice none 0 0, .slice none 0 0] 30)
  have rB0 := (rowNew w 30 [.slice A1 sa.length n1, .slice A2 se.length n2, .slice A3 sp.length n3]).alloc (.cells #[.slice none 0 0, .slice none 0 0, .slice none 0 0] 30)
  have rR0 := rowNew (w.alloc (.cells #[.slice A1 sa.length n1, .slice A2 se.length n2, .slice A3 sp.length n3] 30)) 30 [.slice none 0 0, .slice none 0 0, .slice none 0 0]
  rw [World.size_alloc] at rR0
  have hz0 : w.heap.size + 2 ≤ ((w.alloc (.cells #[.slice A1 sa.length n1, .slice A2 se.length n2, .slice A3 sp.length n3] 30)).alloc (.cells #[.slice none 0 0, .slice none 0 0, .slice none 0 0] 30)).heap.size := by simp
  clear h h' sm
  go_enter Tryz.func28, Tryz.ntmps28
  go_wp2_with fail
  generalize (w.alloc (.cells #[.slice A1 sa.length n1, .slice A2 se.length n2, .slice A3 sp.length n3] 30)).alloc (.cells #[.slice none 0 0, .slice none 0 0, .slice none 0 0] 30) = W0 at *
  refine wp_region_facts [fun v _ => v = .pointer (some ⟨w.heap.size, 0, none⟩), fun v _ => v = .slice A1 sa.length n1, fun v W => Own W W0.heap.size 25 2 v sa.length (sa.flatMap markC),
    fun v _ => v = .pointer (some ⟨w.heap.size, 2, none⟩), fun v _ => v = .slice A3 sp.length n3, fun v W => Own W W0.heap.size 9 1 v sp.length (sp.flatMap strC),
    fun v W => ∃ u1 u3, v = .agg #[u1, .slice none 0 0, u3] ∧ Own W W0.heap.size 25 2 u1 sa.length (sa.flatMap markC) ∧ Own W W0.heap.size 9 1 u3 sp.length (sp.flatMap strC),
    fun v W => ∃ g, v = .pointer (some ⟨g, 0, none⟩) ∧ W0.heap.size ≤ g ∧ RowIs W g 30 [.slice none 0 0, .slice none 0 0, .slice none 0 0] []] rfl (by kernel_rfl) ?hR ?hstep ?hend
  case hR =>
    simp only [List.mem_cons, List.not_mem_nil, or_false, forall_eq_or_imp, forall_eq]
    exact ⟨fun v _ _ h _ => h, fun v _ _ h _ => h, fun v _ _ h he => h.ext he, fun v _ _ h _ => h, fun v _ _ h _ => h, fun v _ _ h he => h.ext he, fun v _ _ h he => by obtain ⟨u1, u3, e, a, b⟩ := h; exact ⟨u1, u3, e, a.ext he, b.ext he⟩,
      fun v _ _ h he => by obtain ⟨g, e, a, b⟩ := h; exact ⟨g, e, a, b.ext he⟩⟩
  case hstep =>
    simp only [List.length_cons, List.length_nil, Nat.reduceAdd, List.take_succ_cons, List.take_zero, stepsAll, and_true]
    refine ⟨?_, ?_, ?_, ?_, ?_, ?_, ?_, ?_⟩
    · intro x W he f
      have h : x 1 = .pointer (some ⟨w.heap.size, 0, none⟩) := f.1
      go_wp
      exact stepQ_ok rfl (Ext.refl _)
    · intro x W he f
      have h : x 6 = .pointer (some ⟨w.heap.size, 0, none⟩) := f.1
      have hc := (rB0.ext he).cell (j := 0) rfl
      go_wp
      exact stepQ_ok rfl (Ext.refl _)
    · intro x W he f
      have h : x 7 = .slice A1 sa.length n1 := f.1
      have hs := he.size
      have HC := Lib.hid (clone_mark (H.out.all.ext (by decide) (hx0.trans he)) (Nat.le_trans SM.out.all (by decide)))
      go_wp
      refine HC.out.mono ?_
      rintro r W2 ⟨v, rfl, hv, hx2⟩
      dsimp only
      go_wp
      refine stepQ_ok (v := v) ?_ hx2
      exact (own_markT.1 hv).lower hs
    · intro x W he f
      have h : x 1 = .pointer (some ⟨w.heap.size, 0, none⟩) := f.1
      go_wp
      exact stepQ_ok rfl (Ext.refl _)
    · intro x W he f
      have h : x 9 = .pointer (some ⟨w.heap.size, 2, none⟩) := f.1
      have hc := (rB0.ext he).cell (j := 2) rfl
      go_wp
      exact stepQ_ok rfl (Ext.refl _)
    · intro x W he f
      have h : x 10 = .slice A3 sp.length n3 := f.1
      have hs := he.size
      have HC := Lib.hid (clone_str (H.out.pruned.ext (by decide) (hx0.trans he)) (Nat.le_trans SM.out.pruned (by decide)))
      go_wp
      refine HC.out.mono ?_
      rintro r W2 ⟨v, rfl, hv, hx2⟩
      dsimp only
      go_wp
      refine stepQ_ok (v := v) ?_ hx2
      exact (OwnL.flat_iff.1 hv).lower hs
    · intro x W he f
      have h1 : Own W W0.heap.size 25 2 (x 8) sa.length (sa.flatMap markC) := f.1
      have h2 : Own W W0.heap.size 9 1 (x 11) sp.length (sp.flatMap strC) := f.2.1
      obtain ⟨B1, m1, e1, -, -⟩ := h1.form
      obtain ⟨B3, m3, e3, -, -⟩ := h2.form
      rw [e1] at h1
      rw [e3] at h2
      go_wp
      exact stepQ_ok (v := .agg #[.slice B1 sa.length m1, .slice none 0 0, .slice B3 sp.length m3]) ⟨_, _, rfl, h1, h2⟩ (Ext.refl _)
    · intro x W he f
      have hs := he.size
      have hrow := rowNew W 30 [.slice none 0 0, .slice none 0 0, .slice none 0 0]
      go_wp
      exact stepQ_ok ⟨W.heap.size, rfl, hs, hrow⟩ ((Ext.refl W).alloc _)
  case hend =>
    intro x W he f
    obtain ⟨g, h3, hgb, hg⟩ : ∃ g, x 3 = .pointer (some ⟨g, 0, none⟩) ∧ W0.heap.size ≤ g ∧ RowIs W g 30 [.slice none 0 0, .slice none 0 0, .slice none 0 0] [] := f.2.2.2.2.2.2.2.1
    obtain ⟨u1, u3, h12, ho1, ho3⟩ : ∃ u1 u3, x 12 = .agg #[u1, .slice none 0 0, u3] ∧ Own W W0.heap.size 25 2 u1 sa.length (sa.flatMap markC) ∧ Own W W0.heap.size 9 1 u3 sp.length (sp.flatMap strC) := f.2.2.2.2.2.2.1
    clear f
    obtain ⟨B1, m1, rfl, -, -⟩ := ho1.form
    obtain ⟨B3, m3, rfl, -, -⟩ := ho3.form
    simp only [List.length_cons, List.length_nil, Nat.reduceAdd, List.take_succ_cons, List.take_zero, List.filterMap_cons, List.filterMap_nil, List.drop_succ_cons, List.drop_zero, putAll, Act.put, List.setIfInBounds_toArray, List.set_cons_succ, List.set_cons_zero, h3, h12]
    have hg0 := hg.cell (j := 0) rfl
    have hg1 := hg.cell (j := 1) rfl
    have hg2 := hg.cell (j := 2) rfl
    have hf0 := hg.frozen 0
    have hf1 := hg.frozen 1
    have hf2 := hg.frozen 2
    have hS := ((hg.set (j := 0) (by simp) (.slice B1 sa.length m1)).set (j := 1) (by simp) (.slice none 0 0)).set (j := 2) (by simp) (.slice B3 sp.length m3)
    simp only [List.set_cons_succ, List.set_cons_zero] at hS
    have hk : ∀ b, b ≠ g → (((W.setCell ⟨g, 0, none⟩ (.slice B1 sa.length m1)).setCell ⟨g, 1, none⟩ (.slice none 0 0)).setCell ⟨g, 2, none⟩ (.slice B3 sp.length m3)).heap[b]? = W.heap[b]? := fun b hb =>
      ((Below.heap_setCell _ _ _ _ hb).trans (Below.heap_setCell _ _ _ _ hb)).trans (Below.heap_setCell _ _ _ _ hb)
    have HO1 := Lib.hid ((ho1.keep (w' := ((W.setCell ⟨g, 0, none⟩ (.slice B1 sa.length m1)).setCell ⟨g, 1, none⟩ (.slice none 0 0)).setCell ⟨g, 2, none⟩ (.slice B3 sp.length m3)) fun b hb _ => hk b (fun e => by subst e; exact ho1.apart hg (by decide) hb)).lower hz0)
    have HO3 := Lib.hid ((ho3.keep (w' := ((W.setCell ⟨g, 0, none⟩ (.slice B1 sa.length m1)).setCell ⟨g, 1, none⟩ (.slice none 0 0)).setCell ⟨g, 2, none⟩ (.slice B3 sp.length m3)) fun b hb _ => hk b (fun e => by subst e; exact ho3.apart hg (by decide) hb)).lower hz0)
    have HS := Lib.hid hS
    have hx1 := (((hx0.trans he).set (p := ⟨g, 0, none⟩) (by simp; omega) (.slice B1 sa.length m1)).set (p := ⟨g, 1, none⟩) (by simp; omega) (.slice none 0 0)).set (p := ⟨g, 2, none⟩) (by simp; omega) (.slice B3 sp.length m3)
    have HB := Lib.hid ((rB0.ext he).keep (w' := ((W.setCell ⟨g, 0, none⟩ (.slice B1 sa.length m1)).setCell ⟨g, 1, none⟩ (.slice none 0 0)).setCell ⟨g, 2, none⟩ (.slice B3 sp.length m3)) (hk _ (by omega)))
    have HR := Lib.hid ((rR0.ext he).keep (w' := ((W.setCell ⟨g, 0, none⟩ (.slice B1 sa.length m1)).setCell ⟨g, 1, none⟩ (.slice none 0 0)).setCell ⟨g, 2, none⟩ (.slice B3 sp.length m3)) (hk _ (by omega)))
    have b1 := HB.out.cell (j := 1) rfl
    have b1o := (rB0.ext he).cell (j := 1) rfl
    have HX1 := Lib.hid hx1
    clear ho1 ho3 hS hx1 hg he
    go_wp
    go_wp2_with fail
    generalize ((W.setCell ⟨g, 0, none⟩ (.slice B1 sa.length m1)).setCell ⟨g, 1, none⟩ (.slice none 0 0)).setCell ⟨g, 2, none⟩ (.slice B3 sp.length m3) = W1 at *
    have hgw := HS.out.lt
    go_loopw [16] (fun i wr => ∃ pre post vE, se = pre ++ post ∧ i = I pre.length ∧ Hid (RowIs wr g 30 [.slice B1 sa.length m1, vE, .slice B3 sp.length m3] [] ∧ Own wr (w.heap.size + 2) 25 2 (.slice B1 sa.length m1) sa.length (sa.flatMap markC) ∧ Own wr (w.heap.size + 2) 9 1 (.slice B3 sp.length m3) sp.length (sp.flatMap strC) ∧
      RowE wr (w.heap.size + 2) g vE pre ∧ RowIs wr (w.heap.size + 1) 30 [.slice none 0 0, .slice none 0 0, .slice none 0 0] []) ∧ Ext w wr) (fun i _ => se.length - (intOf i).toNat)
    case atStart => exact ⟨[], se, .slice none 0 0, rfl, rfl, Lib.hid ⟨HS.out, HO1.out, HO3.out, RowE.nil _ _ _ _, HR.out⟩, HX1.out⟩
    case round =>
      obtain ⟨pre, post, vE, hl, rfl, hI, hx⟩ := hrel
      cases post with
      | cons m post =>
        obtain ⟨b, o, a1, a2, a3, rfl, e0, e1, e2, e3, e4, e5, e6, hEA⟩ := HAT.out pre post m wr hx hl
        obtain ⟨C1, c1, rfl, -, -⟩ := hEA.seen.form
        obtain ⟨C2, c2, rfl, -, -⟩ := hEA.counts.form
        obtain ⟨C3, c3, rfl, -, -⟩ := hEA.items.form
        have hlt : pre.length < se.length := by rw [hl]; simp
        have HL := Lib.hid hl
        have hsm := SM.out.each m (by show m ∈ se; rw [hl]; simp)
        have hse : se.length ≤ 549755813888 := SM.out.entries
        have HEA := Lib.hid (hEA.ext hx)
        clear hl hEA
        go_wp2_with fail
        obtain ⟨hg, ho1, ho3, hE, hR⟩ := hI.out
        have hxb := (Ext.refl wr).alloc (.cells #[St m.key, .slice C1 m.seen.length c1, .slice C2 m.counts.length c2, .slice C3 m.items.length c3, U m.cell.1, St m.cell.2.1, .bool m.cell.2.2] 37)
        have rb := rowNew wr 37 [St m.key, .slice C1 m.seen.length c1, .slice C2 m.counts.length c2, .slice C3 m.items.length c3, U m.cell.1, St m.cell.2.1, .bool m.cell.2.2]
        have hgb := hg.ext hxb
        have ho1b := ho1.ext hxb
        have ho3b := ho3.ext hxb
        have hEb := hE.ext hxb
        have hRb := hR.ext hxb
        have hEAb := HEA.out.ext hxb
        have hxwb := hx.trans hxb
        obtain ⟨AE, cE, rfl, -, -⟩ := hE.form
        generalize hWb : wr.alloc (.cells #[St m.key, .slice C1 m.seen.length c1, .slice C2 m.counts.length c2, .slice C3 m.items.length c3, U m.cell.1, St m.cell.2.1, .bool m.cell.2.2] 37) = Wb at *
        clear hg ho1 ho3 hE hR hI HEA hxb hWb e0 e1 e2 e3 e4 e5 e6
        have hgl := hgb.lt
        have hEl : ∀ b, ownBlk (.slice AE pre.length cE) b → b < Wb.heap.size := fun b hb => (hEb.base_le hb).2
        obtain ⟨xE, hoE⟩ := hEb.own
        have hEg : ¬ ownBlk (.slice AE pre.length cE) g := hoE.apart hgb (by decide)
        refine wp_region_facts3 [.early (fun v _ => v = .pointer (some ⟨g, 1, none⟩)), .early (fun v _ => v = .slice AE pre.length cE), .early (fun v _ => v = entV m (.slice C1 m.seen.length c1) (.slice C2 m.counts.length c2) (.slice C3 m.items.length c3)),
          .early (fun v W => ∃ u1 u2 u3, v = entV m u1 u2 u3 ∧ EntNew W Wb.heap.size m u1 u2 u3),
          .early (fun v W => ∃ h u1 u2 u3, v = .slice (some ⟨h, 0, none⟩) 1 1 ∧ Wb.heap.size ≤ h ∧ RowIs W h 37 (entL m u1 u2 u3) [] ∧ EntNew W Wb.heap.size m u1 u2 u3),
          .move (fun v W => RowE W (w.heap.size + 2) g v (pre ++ [m])), .late (fun v _ => v = .pointer (some ⟨g, 1, none⟩))] 5 (fun W => Ext Wb W) (fun W => Moved (.slice AE pre.length cE) Wb W) Ext (MvR (.slice AE pre.length cE)) rfl (by kernel_rfl) (by kernel_rfl) ?hR ?hRq ?hJ ?hstep ?hend
        case hR =>
          simp only [List.mem_cons, List.not_mem_nil, or_false, forall_eq_or_imp, forall_eq, HF.fact]
          exact ⟨fun v _ _ h _ => h, fun v _ _ h _ => h, fun v _ _ h _ => h, fun v _ _ h he => by obtain ⟨u1, u2, u3, e, a⟩ := h; exact ⟨u1, u2, u3, e, a.ext he⟩, fun v _ _ h he => by obtain ⟨k, u1, u2, u3, e, a, b, c⟩ := h; exact ⟨k, u1, u2, u3, e, a, b.ext he, c.ext he⟩, fun v _ _ h he => h.ext he, fun v _ _ h _ => h⟩
        case hRq =>
          simp only [List.mem_cons, List.not_mem_nil, or_false, forall_eq_or_imp, forall_eq, HF.fact, HF.isStore]
          exact ⟨fun _ v _ _ h _ => h, fun _ v _ _ h _ => h, fun _ v _ _ h _ => h, fun _ v _ _ h he => by obtain ⟨u1, u2, u3, e, a⟩ := h; exact ⟨u1, u2, u3, e, a.mvR he hEl⟩,
            fun _ v _ _ h he => by obtain ⟨k, u1, u2, u3, e, a, b, c⟩ := h; exact ⟨k, u1, u2, u3, e, a, b.mvR he (fun ho => by have := hEl k ho; omega), c.mvR he hEl⟩, fun h => (by cases h), fun _ v _ _ h _ => h⟩
        case hJ => exact (Ext.refl Wb).drew
        case hstep =>
          simp only [List.length_cons, List.length_nil, Nat.reduceAdd, List.take_succ_cons, List.take_zero, stepsAll3, and_true]
          refine ⟨?_, ?_, ?_, ?_, ?_, ?_, ?_⟩
          · intro x W hj f
            have h : x 3 = .pointer (some ⟨g, 0, none⟩) := f.1
            go_wp
            exact stepQ2_ok rfl ⟨hj, Ext.refl _⟩
          · intro x W hj f
            have h : x 20 = .pointer (some ⟨g, 1, none⟩) := f.1
            have hc := (hgb.ext hj).cell (j := 1) rfl
            go_wp
            exact stepQ2_ok rfl ⟨hj, Ext.refl _⟩
          · intro x W hj f
            have h : x 5 = .pointer (some ⟨wr.heap.size, 0, none⟩) := f.1
            have q0 := (rb.ext hj).cell (j := 0) rfl
            have q1 := (rb.ext hj).cell (j := 1) rfl
            have q2 := (rb.ext hj).cell (j := 2) rfl
            have q3 := (rb.ext hj).cell (j := 3) rfl
            have q4 := (rb.ext hj).cell (j := 4) rfl
            have q5 := (rb.ext hj).cell (j := 5) rfl
            have q6 := (rb.ext hj).cell (j := 6) rfl
            go_wp
            exact stepQ2_ok rfl ⟨hj, Ext.refl _⟩
          · intro x W hj f
            have h : x 22 = entV m (.slice C1 m.seen.length c1) (.slice C2 m.counts.length c2) (.slice C3 m.items.length c3) := f.1
            have hs := hj.size
            have HC := Lib.hid (copyE_any (hEAb.ext hj) (Nat.le_trans hsm.seen (by decide)) (Nat.le_trans hsm.counts (by decide)) (Nat.le_trans hsm.items (by decide)) (fun it hit => Nat.le_trans (hsm.dots it hit) (by decide)))
            go_wp
            refine HC.out.mono ?_
            rintro r W2 ⟨u1, u2, u3, rfl, hn, hx2⟩
            dsimp only
            go_wp
            exact stepQ2_ok (v := entV m u1 u2 u3) ⟨u1, u2, u3, rfl, hn.lower hs⟩ ⟨hj.trans hx2, hx2⟩
          · intro x W hj f
            obtain ⟨u1, u2, u3, h, hn⟩ : ∃ u1 u2 u3, x 23 = entV m u1 u2 u3 ∧ EntNew W Wb.heap.size m u1 u2 u3 := f.1
            have hs := hj.size
            obtain ⟨D1, d1, rfl, -, -⟩ := hn.seen.form
            obtain ⟨D2, d2, rfl, -, -⟩ := hn.counts.form
            obtain ⟨D3, d3, rfl, -, -⟩ := hn.items.form
            have hrow := rowNew W 37 (entL m (.slice D1 m.seen.length d1) (.slice D2 m.counts.length d2) (.slice D3 m.items.length d3))
            have hxa := (Ext.refl W).alloc (.cells (entL m (.slice D1 m.seen.length d1) (.slice D2 m.counts.length d2) (.slice D3 m.items.length d3)).toArray 37)
            go_wp
            exact stepQ2_ok (v := .slice (some ⟨W.heap.size, 0, none⟩) 1 1) ⟨W.heap.size, _, _, _, rfl, hs, hrow, hn.ext hxa⟩ ⟨hj.trans hxa, hxa⟩
          · intro x W hj f
            have h21 : x 21 = .slice AE pre.length cE := f.1
            obtain ⟨k, u1, u2, u3, h24, hk, hrow, hn⟩ : ∃ h u1 u2 u3, x 24 = .slice (some ⟨h, 0, none⟩) 1 1 ∧ Wb.heap.size ≤ h ∧ RowIs W h 37 (entL m u1 u2 u3) [] ∧ EntNew W Wb.heap.size m u1 u2 u3 := f.2.1
            have hs := hj.size
            have hone := entL_one (hn.rd (S := fun _ => True) (fun _ _ _ => trivial))
            obtain ⟨vss, g1, g2, g3⟩ := hEb.ext hj
            refine wpList_append_Own rfl (.tmp 21) (.tmp 24) 27 rfl (w.heap.size + 2) 37 7 120 zeroEnt Tryz.underlying27 info_entry rfl (by omega) (.slice AE pre.length cE) pre.length vss.flatten (by simp [go_sem, h21]) g3 (some ⟨k, 0, none⟩) 1 1 (entL m u1 u2 u3) (by simp [go_sem, h24])
              ⟨by simp, hone, fun _ => ⟨k, 0, rfl, fun j u hj => by rw [Nat.zero_add]; exact hrow.cell hj⟩⟩ (by omega) (by omega) (by omega) ?_
            intro v' w' hown hgr
            exact stepQ2_ok (RowE.snoc g1 g2 hn hEl hgl (by omega) hown hgr) ⟨Grew.moved hj hgr, hgr.size, hgr.same⟩
          · intro x W b hj f
            have h : x 3 = .pointer (some ⟨g, 0, none⟩) := f.1
            go_wp
            exact stepQ2_ok rfl ⟨hj, Ext.refl _⟩
        case hend =>
          intro x W hj f
          have h25 : RowE W (w.heap.size + 2) g (x 25) (pre ++ [m]) := f.2.2.2.2.2.1
          have h26 : x 26 = .pointer (some ⟨g, 1, none⟩) := f.2.2.2.2.2.2.1
          clear f
          obtain ⟨AF, cF, hF, -, -⟩ := h25.form
          rw [show (pre ++ [m]).length = pre.length + 1 by simp] at hF
          simp only [List.length_cons, List.length_nil, Nat.reduceAdd, List.take_succ_cons, List.take_zero, List.filterMap_cons, List.filterMap_nil, List.drop_succ_cons, List.drop_zero, putAll, Act.put, List.setIfInBounds_toArray, List.set_cons_succ, List.set_cons_zero, h26, hF]
          rw [hF] at h25
          have hgW := hgb.mvR hj.mv hEg
          have hRW := hRb.mvR hj.mv (hoE.apart hRb (by decide))
          have ho1W := ho1b.mvR hj.mv (ho1b.apart2 hoE (by decide))
          have ho3W := ho3b.mvR hj.mv (ho3b.apart2 hoE (by decide))
          have hxW := hxwb.moved hj (fun b hb => by have := (hEb.base_le hb).1; omega)
          have hc := hgW.cell (j := 1) rfl
          have hf := hgW.frozen 1
          have hgS := hgW.set (j := 1) (by simp) (.slice AF (pre.length + 1) cF)
          simp only [List.set_cons_succ, List.set_cons_zero] at hgS
          have HI := Lib.hid (show RowIs (W.setCell ⟨g, 1, none⟩ (.slice AF (pre.length + 1) cF)) g 30 [.slice B1 sa.length m1, .slice AF (pre.length + 1) cF, .slice B3 sp.length m3] [] ∧ Own (W.setCell ⟨g, 1, none⟩ (.slice AF (pre.length + 1) cF)) (w.heap.size + 2) 25 2 (.slice B1 sa.length m1) sa.length (sa.flatMap markC) ∧ Own (W.setCell ⟨g, 1, none⟩ (.slice AF (pre.length + 1) cF)) (w.heap.size + 2) 9 1 (.slice B3 sp.length m3) sp.length (sp.flatMap strC) ∧
            RowE (W.setCell ⟨g, 1, none⟩ (.slice AF (pre.length + 1) cF)) (w.heap.size + 2) g (.slice AF (pre.length + 1) cF) (pre ++ [m]) ∧ RowIs (W.setCell ⟨g, 1, none⟩ (.slice AF (pre.length + 1) cF)) (w.heap.size + 1) 30 [.slice none 0 0, .slice none 0 0, .slice none 0 0] [] from
            ⟨hgS, ho1W.keep fun b hb _ => Below.heap_setCell _ _ _ _ (fun e => ho1W.apart hgW (by decide) (by have e2 : b = g := e; rw [← e2]; exact hb)), ho3W.keep fun b hb _ => Below.heap_setCell _ _ _ _ (fun e => ho3W.apart hgW (by decide) (by have e2 : b = g := e; rw [← e2]; exact hb)),
              h25.set hgW (by decide), hRW.other (by simp; omega) _⟩)
          have HXW := Lib.hid (hxW.set (p := ⟨g, 1, none⟩) (by simp; omega) (.slice AF (pre.length + 1) cF))
          clear h25 hgS hgW hRW ho1W ho3W hxW hgb hRb ho1b ho3b hEb hoE hEAb rb
          go_wp
          exact ⟨⟨pre ++ [m], post, _, by rw [HL.out]; simp, by simp, HI, HXW.out⟩, by simp [intOf]; omega⟩
      | nil =>
        rw [List.append_nil] at hl
        subst hl
        obtain ⟨hg, ho1, ho3, hE, hR⟩ := hI.out
        obtain ⟨AE, cE, rfl, -, -⟩ := hE.form
        have k0 := hg.cell (j := 0) rfl
        have k1 := hg.cell (j := 1) rfl
        have k2 := hg.cell (j := 2) rfl
        have r0 := hR.cell (j := 0) rfl
        have r1 := hR.cell (j := 1) rfl
        have r2 := hR.cell (j := 2) rfl
        have f0 := hR.frozen 0
        have f1 := hR.frozen 1
        have f2 := hR.frozen 2
        have HI := hI
        have HX := Lib.hid hx
        clear hI hg ho1 ho3 hE hR hx
        go_wp2_with fail
        (try simp only [Exit.inBlock, Exit.then])
        refine bodyPost_ret (v := stV (.slice B1 sa.length m1) (.slice AE se.length cE) (.slice B3 sp.length m3)) (by simp [results, Tryz.f28, go_sem, r0, r1, r2]) rfl ?_
        obtain ⟨hg, ho1, ho3, hE, hR⟩ := HI.out
        have hk : ∀ b, b ≠ w.heap.size + 1 → (((wr.setCell ⟨w.heap.size + 1, 0, none⟩ (.slice B1 sa.length m1)).setCell ⟨w.heap.size + 1, 1, none⟩ (.slice AE se.length cE)).setCell ⟨w.heap.size + 1, 2, none⟩ (.slice B3 sp.length m3)).heap[b]? = wr.heap[b]? := fun b hb =>
          ((Below.heap_setCell _ _ _ _ hb).trans (Below.heap_setCell _ _ _ _ hb)).trans (Below.heap_setCell _ _ _ _ hb)
        refine ⟨.slice B1 sa.length m1, .slice AE se.length cE, .slice B3 sp.length m3, rfl, ⟨?_, ?_, ?_⟩, ?_⟩
        · exact (ho1.keep fun b hb _ => hk b (by have := (ho1.base_le hb).1; omega)).lower (by omega)
        · exact (OwnL.lower (OwnL.mono (OwnL.keep (w' := ((wr.setCell ⟨w.heap.size + 1, 0, none⟩ (.slice B1 sa.length m1)).setCell ⟨w.heap.size + 1, 1, none⟩ (.slice AE se.length cE)).setCell ⟨w.heap.size + 1, 2, none⟩ (.slice B3 sp.length m3)) hE (fun b hb _ => hk b (by have := hb.1; omega)) (fun b hb _ => hk b (by have := (hE.base_le hb).1; omega))) (S' := fun b => w.heap.size ≤ b ∧ ¬ ownBlk (.slice AE se.length cE) b) fun b _ hb => ⟨by have := hb.1; omega, hb.2.2⟩) (by omega))
        · exact (ho3.keep fun b hb _ => hk b (by have := (ho3.base_le hb).1; omega)).lower (by omega)
        · exact ((HX.out.set (p := ⟨w.heap.size + 1, 0, none⟩) (by simp) _).set (p := ⟨w.heap.size + 1, 1, none⟩) (by simp) _).set (p := ⟨w.heap.size + 1, 2, none⟩) (by simp) _
end Go.Proofs.YtdikcgmdmcfpfaaGreat
namespace Go.Proofs.YtdikcgmdmcfpfaaGreat
open Go.RowKit Go.Shelf

set_option maxRecDepth 100000 in
set_option maxHeartbeats 1000000 in
theorem value1_any {S : Nat → Prop} {e : Entry} {v1 v2 v3 : Value} {W : World} {B : Nat} (hb : RowIs W B 37 (entL e v1 v2 v3) []) (h : EntAt W S e v1 v2 v3) :
    Calls Tryz.prog 146 #[.pointer (some ⟨B, 0, none⟩)] W fun r w' => r = .returned (.iface 2 (I (valueL e.counts))) ∧ Ext W w' := by
  have HC := Lib.hid (counterValue_any h.counts)
  obtain ⟨A2, n2, rfl, -, -⟩ := h.counts.form
  have k2 := hb.cell (j := 2) rfl
  clear h hb
  go_enter Tryz.func146, Tryz.ntmps146
  go_wp2_with fail
  refine HC.out.mono ?_
  rintro r W1 ⟨rfl, hx1⟩
  go_wp2_with fail
  go_ret
  exact ⟨rfl, hx1⟩

set_option maxRecDepth 100000 in
set_option maxHeartbeats 1000000 in
theorem value2_any {S : Nat → Prop} {e : Entry} {v1 v2 v3 : Value} {W : World} {B : Nat} (hl : (placesL e.items).length ≤ 1099511627776) (hb : RowIs W B 37 (entL e v1 v2 v3) []) (h : EntAt W S e v1 v2 v3) :
    Calls Tryz.prog 148 #[.pointer (some ⟨B, 0, none⟩)] W fun r w' => ∃ s, r = .returned (.iface 28 s) ∧ Own w' W.heap.size 9 1 s (textsB e.items).length ((textsB e.items).flatMap strC) ∧ Ext W w' := by
  have HC := Lib.hid (texts_any h.items hl)
  obtain ⟨A3, n3, rfl, -, -⟩ := h.items.form
  have k3 := hb.cell (j := 3) rfl
  clear h hb
  go_enter Tryz.func148, Tryz.ntmps148
  go_wp2_with fail
  refine HC.out.mono ?_
  rintro r W1 ⟨v', rfl, ho, hx1⟩
  obtain ⟨A, n, rfl, -, -⟩ := ho.form
  go_wp2_with fail
  go_ret
  exact ⟨_, rfl, ho, hx1⟩

def cellVal (c : Cell) : Value := if (textC c).2 then .iface 9 (St (textC c).1) else .nilIface

set_option maxRecDepth 100000 in
set_option maxHeartbeats 1000000 in
theorem value3_any {S : Nat → Prop} {e : Entry} {v1 v2 v3 : Value} {W : World} {B : Nat} (hb : RowIs W B 37 (entL e v1 v2 v3) []) (h : EntAt W S e v1 v2 v3) :
    Calls Tryz.prog 150 #[.pointer (some ⟨B, 0, none⟩)] W fun r w' => r = .returned (cellVal e.cell) ∧ Ext W w' := by
  obtain ⟨ek, es, ec, ei, x1, x2, x3⟩ := e
  have HC := Lib.hid (textC_any (x1, x2, x3) W)
  have HV := Lib.hid (show cellVal (x1, x2, x3) = if (textC (x1, x2, x3)).2 then .iface 9 (St (textC (x1, x2, x3)).1) else .nilIface from rfl)
  generalize cellVal (x1, x2, x3) = V at *
  have k4 := hb.cell (j := 4) rfl
  have k5 := hb.cell (j := 5) rfl
  have k6 := hb.cell (j := 6) rfl
  clear h hb
  go_enter Tryz.func150, Tryz.ntmps150
  go_wp2_with fail
  refine HC.out.mono ?_
  rintro r W1 ⟨rfl, hx1⟩
  generalize textC (x1, x2, x3) = p at *
  obtain ⟨p1, p2⟩ := p
  cases p2 with
  | false =>
    go_wp2_with fail
    go_ret
    exact ⟨by rw [HV.out]; rfl, hx1⟩
  | true =>
    go_wp2_with fail
    go_ret
    exact ⟨by rw [HV.out]; rfl, hx1⟩

/-- what an entry's value is -/
def ValAt (W : World) (base : Nat) (e : Entry) (v : Value) : Prop :=
  if kindS e.key = 1 then v = .iface 2 (I (valueL e.counts)) else
  if kindS e.key = 2 then (∃ s, v = .iface 28 s ∧ Own W base 9 1 s (textsB e.items).length ((textsB e.items).flatMap strC)) else
  if kindS e.key = 3 then v = cellVal e.cell else v = .nilIface

theorem zeroF2 (B : Nat) (w : World) : (zeroValue 196).run Tryz.prog w = .ok (mayV B none) w := Tryz.zeroValue196 w

set_option maxRecDepth 100000 in
set_option maxHeartbeats 1000000 in
theorem valueE_any {S : Nat → Prop} {e : Entry} {v1 v2 v3 : Value} {w : World} (h : EntAt w S e v1 v2 v3) (hl40 : (placesL e.items).length ≤ 1099511627776) :
    Calls Tryz.prog 86 #[entV e v1 v2 v3] w fun r w' => ∃ v, r = .returned v ∧ ValAt w' w.heap.size e v ∧ Ext w w' := by
  obtain ⟨ek, es, ec, ei, x1, x2, x3⟩ := e
  have H := Lib.hid h
  obtain ⟨A1, n1, rfl, -, -⟩ := h.seen.form
  obtain ⟨A2, n2, rfl, -, -⟩ := h.counts.form
  obtain ⟨A3, n3, rfl, -, -⟩ := h.items.form
  have hx0 := (Ext.refl w).alloc (.cells #[St ek, .slice A1 es.length n1, .slice A2 ec.length n2, .slice A3 ei.length n3, U x1, St x2, .bool x3] 37)
  have hb0 := rowNew w 37 [St ek, .slice A1 es.length n1, .slice A2 ec.length n2, .slice A3 ei.length n3, U x1, St x2, .bool x3]
  clear h
  have eg1 : ∀ args w, (callFunc 146 args).run Tryz.prog w = .ok (.enter 146 args) w := enters_of Tryz.func146 (by kernel_rfl) rfl
  have eg2 : ∀ args w, (callFunc 148 args).run Tryz.prog w = .ok (.enter 148 args) w := enters_of Tryz.func148 (by kernel_rfl) rfl
  have eg3 : ∀ args w, (callFunc 150 args).run Tryz.prog w = .ok (.enter 150 args) w := enters_of Tryz.func150 (by kernel_rfl) rfl
  have hmm := @run_makeMap Tryz.prog
  obtain ⟨W0, hW0⟩ : ∃ W0, w.alloc (.cells #[St ek, .slice A1 es.length n1, .slice A2 ec.length n2, .slice A3 ei.length n3, U x1, St x2, .bool x3] 37) = W0 := ⟨_, rfl⟩
  rw [hW0] at hx0 hb0
  have hz1 := hb0.lt
  obtain ⟨Wa, ua, ma, ta⟩ := run_update_MapIs (P := Tryz.prog) (t := 197) Tryz.underlying197 keyOk8 (MapIs.new (K := K8) (V := mayV w.heap.size) W0) 1 (some 146)
  obtain ⟨Wb, ub, mb, tb⟩ := run_update_MapIs (P := Tryz.prog) (t := 197) Tryz.underlying197 keyOk8 ma 2 (some 148)
  obtain ⟨Wc, uc, mc, tc⟩ := run_update_MapIs (P := Tryz.prog) (t := 197) Tryz.underlying197 keyOk8 mb 3 (some 150)
  have hxa := ((Ext.refl W0).alloc (.map #[] 0)).turned ta (Nat.le_refl _)
  have hxb := hxa.turned tb (Nat.le_refl _)
  have hxc := hxb.turned tc (Nat.le_refl _)
  have d0 := (hb0.ext hxc).cell (j := 0) rfl
  have HK := Lib.hid (kind_any ek Wc)
  have HC := Lib.hid mc
  have HXC := Lib.hid hxc
  clear ta tb tc hxa hxb hxc ma mb mc
  have ua' : (Instr.mapUpdate 197 (.map (some W0.heap.size)) (.int .u8 1) (.func (.func 146) #[] #[.pointer (some ⟨w.heap.size, 0, none⟩)])).run Tryz.prog (W0.alloc (.map #[] 0)) = .ok () Wa := ua
  have ub' : (Instr.mapUpdate 197 (.map (some W0.heap.size)) (.int .u8 2) (.func (.func 148) #[] #[.pointer (some ⟨w.heap.size, 0, none⟩)])).run Tryz.prog Wa = .ok () Wb := ub
  have uc' : (Instr.mapUpdate 197 (.map (some W0.heap.size)) (.int .u8 3) (.func (.func 150) #[] #[.pointer (some ⟨w.heap.size, 0, none⟩)])).run Tryz.prog Wb = .ok () Wc := uc
  clear ua ub uc
  go_enter Tryz.func86, Tryz.ntmps86
  go_wp2_with fail
  refine HK.out.mono ?_
  rintro r W2 ⟨rfl, hx2⟩
  have hL := (run_lookup_MapIs (P := Tryz.prog) (t := 197) (z := none) Tryz.underlying197 keyOk8 (zeroF2 w.heap.size) (HC.out.ext hx2) (kindS ek)).2
  have HB2 := Lib.hid (hb0.ext (HXC.out.trans hx2))
  have HX2 := Lib.hid (hx0.trans (HXC.out.trans hx2))
  have HKK := Lib.hid (show ∀ W b v, ValAt W b ⟨ek, es, ec, ei, (x1, x2, x3)⟩ v = (if kindS ek = 1 then v = .iface 2 (I (valueL ec)) else if kindS ek = 2 then (∃ s, v = .iface 28 s ∧ Own W b 9 1 s (textsB ei).length ((textsB ei).flatMap strC)) else if kindS ek = 3 then v = cellVal (x1, x2, x3) else v = .nilIface) from fun _ _ _ => rfl)
  generalize kindS ek = kk at *
  have hL' : (Instr.lookup 197 (.map (some W0.heap.size)) (U8 kk) true).run Tryz.prog W2 = .ok (.tuple #[mayV w.heap.size (getL none (putL (putL (putL [] 1 (some 146)) 2 (some 148)) 3 (some 150)) kk), .bool (decide (kk ∈ [1, 2, 3]))]) W2 := hL
  clear hL
  rcases (show kk = 1 ∨ kk = 2 ∨ kk = 3 ∨ (kk ≠ 1 ∧ kk ≠ 2 ∧ kk ≠ 3) by omega) with h1 | h1 | h1 | ⟨h1, h2, h3⟩
  · subst h1
    have hl : (Instr.lookup 197 (.map (some W0.heap.size)) (U8 1) true).run Tryz.prog W2 = .ok (.tuple #[.func (.func 146) #[] #[.pointer (some ⟨w.heap.size, 0, none⟩)], .bool true]) W2 := hL'
    clear hL'
    have HT := Lib.hid (value1_any HB2.out (H.out.ext HX2.out))
    go_wp2_with fail
    refine HT.out.mono ?_
    rintro r W3 ⟨rfl, hx3⟩
    have HX3 := Lib.hid (HX2.out.trans hx3)
    have hsz := HX2.out.size
    clear hx3
    go_wp2_with fail
    go_ret
    exact ⟨_, rfl, by rw [HKK.out]; exact rfl, HX3.out⟩
  · subst h1
    have hl : (Instr.lookup 197 (.map (some W0.heap.size)) (U8 2) true).run Tryz.prog W2 = .ok (.tuple #[.func (.func 148) #[] #[.pointer (some ⟨w.heap.size, 0, none⟩)], .bool true]) W2 := hL'
    clear hL'
    have HT := Lib.hid (value2_any hl40 HB2.out (H.out.ext HX2.out))
    go_wp2_with fail
    refine HT.out.mono ?_
    rintro r W3 ⟨s, rfl, ho, hx3⟩
    have HX3 := Lib.hid (HX2.out.trans hx3)
    have hsz := HX2.out.size
    clear hx3
    go_wp2_with fail
    go_ret
    exact ⟨_, rfl, by rw [HKK.out]; exact ⟨_, rfl, ho.lower hsz⟩, HX3.out⟩
  · subst h1
    have hl : (Instr.lookup 197 (.map (some W0.heap.size)) (U8 3) true).run Tryz.prog W2 = .ok (.tuple #[.func (.func 150) #[] #[.pointer (some ⟨w.heap.size, 0, none⟩)], .bool true]) W2 := hL'
    clear hL'
    have HT := Lib.hid (value3_any HB2.out (H.out.ext HX2.out))
    go_wp2_with fail
    refine HT.out.mono ?_
    rintro r W3 ⟨rfl, hx3⟩
    have HX3 := Lib.hid (HX2.out.trans hx3)
    have hsz := HX2.out.size
    clear hx3
    go_wp2_with fail
    go_ret
    exact ⟨_, rfl, by rw [HKK.out]; exact rfl, HX3.out⟩
  · have hl : (Instr.lookup 197 (.map (some W0.heap.size)) (U8 kk) true).run Tryz.prog W2 = .ok (.tuple #[.nilFunc, .bool false]) W2 := by
      rw [hL']
      have e2 : (kk == 1) = false := by simp; omega
      have e3 : (kk == 2) = false := by simp; omega
      have e4 : (kk == 3) = false := by simp; omega
      simp [getL, putL, List.lookup, e2, e3, e4, h1, h2, h3, mayV]
    clear hL'
    go_wp2_with fail
    go_ret
    exact ⟨_, rfl, by rw [HKK.out, if_neg h1, if_neg h2, if_neg h3]; rfl, HX2.out⟩
end Go.Proofs.YtdikcgmdmcfpfaaGreat
namespace Go.Proofs.YtdikcgmdmcfpfaaGreat
open Go.RowKit Go.Shelf

theorem small_none : SmallE noneE := ⟨by decide, by decide, by decide, (fun it h => by cases h), by decide⟩
theorem findE_mem {l : List Entry} {k : Str} {m : Entry} (h : findE l k = some m) : m ∈ l := List.mem_of_find?_eq_some h
theorem findE_key {l : List Entry} {k : Str} {m : Entry} (h : findE l k = some m) : m.key = k := by simpa using List.find?_some h
theorem small_find {l : List Entry} (h : ∀ e ∈ l, SmallE e) (k : Str) : SmallE ((findE l k).getD noneE) := by
  cases hf : findE l k with
  | none => exact small_none
  | some m => exact h m (findE_mem hf)

set_option maxRecDepth 100000 in
set_option maxHeartbeats 1000000 in
theorem ofS_any {S : Nat → Prop} {s : State} {v1 v2 v3 : Value} {w : World} (k : Str) (h : StAt w S s v1 v2 v3) (sm : ∀ e ∈ s.entries, SmallE e) :
    Calls Tryz.prog 24 #[stV v1 v2 v3, St k] w fun r w' => ∃ u1 u2 u3, r = .returned (.tuple #[entV ((findE s.entries k).getD noneE) u1 u2 u3, .bool (findE s.entries k).isSome]) ∧ EntNew w' w.heap.size ((findE s.entries k).getD noneE) u1 u2 u3 ∧ Ext w w' := by
  obtain ⟨sa, se, sp⟩ := s
  obtain ⟨A1, n1, rfl, -, -⟩ := h.all.form
  obtain ⟨A2, n2, rfl, -, -⟩ := h.entries.form
  obtain ⟨A3, n3, rfl, -, -⟩ := h.pruned.form
  have hx0 := ((Ext.refl w).alloc (.cells #[.slice A1 sa.length n1, .slice A2 se.length n2, .slice A3 sp.length n3] 30)).alloc (.cells #[St [], .slice none 0 0, .slice none 0 0, .slice none 0 0, .int .u64 0, St [], .bool false] 37)
  have rR0 := rowNew (w.alloc (.cells #[.slice A1 sa.length n1, .slice A2 se.length n2, .slice A3 sp.length n3] 30)) 37 [St [], .slice none 0 0, .slice none 0 0, .slice none 0 0, .int .u64 0, St [], .bool false]
  rw [World.size_alloc] at rR0
  have H1 := Lib.hid (find_any k (h.entries.ext (by decide) hx0))
  have hz0 : w.heap.size + 2 ≤ ((w.alloc (.cells #[.slice A1 sa.length n1, .slice A2 se.length n2, .slice A3 sp.length n3] 30)).alloc (.cells #[St [], .slice none 0 0, .slice none 0 0, .slice none 0 0, .int .u64 0, St [], .bool false] 37)).heap.size := by simp
  have HSM := Lib.hid (small_find sm k)
  clear h
  go_enter Tryz.func24, Tryz.ntmps24
  go_wp2_with fail
  generalize (w.alloc (.cells #[.slice A1 sa.length n1, .slice A2 se.length n2, .slice A3 sp.length n3] 30)).alloc (.cells #[St [], .slice none 0 0, .slice none 0 0, .slice none 0 0, .int .u64 0, St [], .bool false] 37) = W0 at *
  refine H1.out.mono ?_
  rintro r W1 ⟨v1, v2, v3, rfl, hA, hx1⟩
  simp only at hA HSM ⊢
  have HS0 := Lib.hid HSM.out
  clear HSM
  generalize he : (findE se k).getD noneE = e at hA HS0 ⊢
  generalize his : (findE se k).isSome = is
  have HE := Lib.hid he
  have HIS := Lib.hid his
  clear he his
  obtain ⟨C1, c1, rfl, -, -⟩ := hA.seen.form
  obtain ⟨C2, c2, rfl, -, -⟩ := hA.counts.form
  obtain ⟨C3, c3, rfl, -, -⟩ := hA.items.form
  have hxb := (Ext.refl W1).alloc (.cells #[St e.key, .slice C1 e.seen.length c1, .slice C2 e.counts.length c2, .slice C3 e.items.length c3, U e.cell.1, St e.cell.2.1, .bool e.cell.2.2] 37)
  have HC := Lib.hid (copyE_any (hA.ext hxb) (Nat.le_trans HS0.out.seen (by decide)) (Nat.le_trans HS0.out.counts (by decide)) (Nat.le_trans HS0.out.items (by decide)) (fun it hit => Nat.le_trans (HS0.out.dots it hit) (by decide)))
  have hx01 := hx0.trans (hx1.trans hxb)
  have hz1 := (hx1.trans hxb).size
  have rR1 := rR0.ext (hx1.trans hxb)
  clear hA hx0 hx1 rR0
  go_wp2_with fail
  refine HC.out.mono ?_
  rintro r W2 ⟨u1, u2, u3, rfl, hn, hx2⟩
  obtain ⟨D1, d1, rfl, -, -⟩ := hn.seen.form
  obtain ⟨D2, d2, rfl, -, -⟩ := hn.counts.form
  obtain ⟨D3, d3, rfl, -, -⟩ := hn.items.form
  have hR := rR1.ext hx2
  have r0 := hR.cell (j := 0) rfl
  have r1 := hR.cell (j := 1) rfl
  have r2 := hR.cell (j := 2) rfl
  have r3 := hR.cell (j := 3) rfl
  have r4 := hR.cell (j := 4) rfl
  have r5 := hR.cell (j := 5) rfl
  have r6 := hR.cell (j := 6) rfl
  have f0 := hR.frozen 0
  have f1 := hR.frozen 1
  have f2 := hR.frozen 2
  have f3 := hR.frozen 3
  have f4 := hR.frozen 4
  have f5 := hR.frozen 5
  have f6 := hR.frozen 6
  have HX := Lib.hid (hx01.trans hx2)
  have HN := Lib.hid hn
  clear hR rR1 hn hx2 hxb hx01
  go_wp2_with fail
  (try simp only [Exit.inBlock, Exit.then])
  refine bodyPost_ret (v := .tuple #[entV e (.slice D1 e.seen.length d1) (.slice D2 e.counts.length d2) (.slice D3 e.items.length d3), .bool is]) (by simp [results, Tryz.f24, go_sem, entV, entC, r0, r1, r2, r3, r4, r5, r6]) rfl ?_
  have hp := put7_out (q := w.heap.size + 1) HX.out (by omega) HN.out (by omega)
  refine ⟨.slice D1 e.seen.length d1, .slice D2 e.counts.length d2, .slice D3 e.items.length d3, by rw [HE.out, HIS.out], ?_⟩
  rw [HE.out]
  exact hp

theorem ValAt.lower {W : World} {base base' : Nat} {e : Entry} {v : Value} (h : ValAt W base e v) (hb : base' ≤ base) : ValAt W base' e v := by
  unfold ValAt at h ⊢
  split
  · rename_i h1; rw [if_pos h1] at h; exact h
  · rename_i h1
    rw [if_neg h1] at h
    split
    · rename_i h2; rw [if_pos h2] at h; obtain ⟨s, e1, o⟩ := h; exact ⟨s, e1, o.lower hb⟩
    · rename_i h2
      rw [if_neg h2] at h
      exact h

/-- the entry whose value is a key's -/
def atE (l : List Entry) (k : Str) : Entry := (findE l k).getD { noneE with key := k }

set_option maxRecDepth 100000 in
set_option maxHeartbeats 1000000 in
theorem getS_any {S : Nat → Prop} {s : State} {v1 v2 v3 : Value} {w : World} (k : Str) (h : StAt w S s v1 v2 v3) (sm : ∀ e ∈ s.entries, SmallE e) :
    Calls Tryz.prog 39 #[stV v1 v2 v3, St k] w fun r w' => ∃ v, r = .returned v ∧ ValAt w' w.heap.size (atE s.entries k) v ∧ Ext w w' := by
  obtain ⟨sa, se, sp⟩ := s
  obtain ⟨A1, n1, rfl, -, -⟩ := h.all.form
  obtain ⟨A2, n2, rfl, -, -⟩ := h.entries.form
  obtain ⟨A3, n3, rfl, -, -⟩ := h.pruned.form
  have hx0 := (Ext.refl w).alloc (.cells #[.slice A1 sa.length n1, .slice A2 se.length n2, .slice A3 sp.length n3] 30)
  have H1 := Lib.hid (find_any k (h.entries.ext (by decide) hx0))
  have HSM := Lib.hid sm
  have HAT := Lib.hid (show atE se k = (findE se k).getD { noneE with key := k } from rfl)
  clear h sm
  go_enter Tryz.func39, Tryz.ntmps39
  go_wp2_with fail
  generalize w.alloc (.cells #[.slice A1 sa.length n1, .slice A2 se.length n2, .slice A3 sp.length n3] 30) = W0 at *
  refine H1.out.mono ?_
  rintro r W1 ⟨v1, v2, v3, rfl, hA, hx1⟩
  simp only at hA HSM HAT ⊢
  cases hf : findE se k with
  | none =>
    have HAT2 := Lib.hid (show atE se k = { noneE with key := k } by rw [HAT.out, hf]; rfl)
    rw [hf] at hA
    simp only [Option.getD_none, Option.isSome_none] at hA ⊢
    have hA2 : EntAt W1 S { noneE with key := k } (.slice none 0 0) (.slice none 0 0) (.slice none 0 0) := ⟨Sl.nil _ _ (by decide), Sl.nil _ _ (by decide), Sl.nil _ _ (by decide)⟩
    obtain ⟨C1, c1, rfl, -, -⟩ := hA.seen.form
    obtain ⟨C2, c2, rfl, -, -⟩ := hA.counts.form
    obtain ⟨C3, c3, rfl, -, -⟩ := hA.items.form
    have hxb := (Ext.refl W1).alloc (.cells #[St k, .slice none 0 0, .slice none 0 0, .slice none 0 0, .int .u64 0, St [], .bool false] 37)
    have HV := Lib.hid (valueE_any (hA2.ext hxb) (show (placesL ([] : List Item)).length ≤ _ by decide))
    have HX := Lib.hid (hx0.trans (hx1.trans hxb))
    clear hA hA2 hx0 hx1 hf HAT H1 hxb
    go_wp2_with fail
    refine HV.out.mono ?_
    rintro r W2 ⟨v, rfl, hv, hx2⟩
    have hs := HX.out.size
    have HVV := Lib.hid hv
    have HX2 := Lib.hid hx2
    clear hv hx2
    go_wp2_with fail
    go_ret
    exact ⟨_, rfl, by rw [HAT2.out]; exact HVV.out.lower hs, HX.out.trans HX2.out⟩
  | some e =>
    have HAT2 := Lib.hid (show atE se k = e by rw [HAT.out, hf]; rfl)
    have hse : SmallE e := HSM.out e (findE_mem hf)
    rw [hf] at hA
    simp only [Option.getD_some, Option.isSome_some] at hA ⊢
    obtain ⟨C1, c1, rfl, -, -⟩ := hA.seen.form
    obtain ⟨C2, c2, rfl, -, -⟩ := hA.counts.form
    obtain ⟨C3, c3, rfl, -, -⟩ := hA.items.form
    have hxb := (Ext.refl W1).alloc (.cells #[St e.key, .slice C1 e.seen.length c1, .slice C2 e.counts.length c2, .slice C3 e.items.length c3, U e.cell.1, St e.cell.2.1, .bool e.cell.2.2] 37)
    have HV := Lib.hid (valueE_any (hA.ext hxb) (Nat.le_trans hse.places (by decide)))
    have HX := Lib.hid (hx0.trans (hx1.trans hxb))
    clear hA hx0 hx1 hf HAT H1 hxb
    go_wp2_with fail
    refine HV.out.mono ?_
    rintro r W2 ⟨v, rfl, hv, hx2⟩
    have hs := HX.out.size
    have HVV := Lib.hid hv
    have HX2 := Lib.hid hx2
    clear hv hx2
    go_wp2_with fail
    go_ret
    exact ⟨_, rfl, by rw [HAT2.out]; exact HVV.out.lower hs, HX.out.trans HX2.out⟩
end Go.Proofs.YtdikcgmdmcfpfaaGreat
namespace Go.Proofs.YtdikcgmdmcfpfaaGreat
open Go.RowKit Go.Shelf

/-- what such a closure leaves: the row E has the entry e', the first of whose slices is as it was -/
def Did (W w' : World) (E pr : Nat) (S : Nat → Prop) (e' : Entry) (v1 : Value) : Prop :=
  ∃ u2 u3, RowIs w' E 37 (entL e' v1 u2 u3) [] ∧ EntAt w' (fun b => S b ∨ W.heap.size ≤ b) e' v1 u2 u3 ∧ Kept2 W w' E pr

/-- the moves of such a region: all but the row E stays -/
def MvE (E : Nat) (w w' : World) : Prop := w.heap.size ≤ w'.heap.size ∧ ∀ b, b < w.heap.size → b ≠ E → w'.heap[b]? = w.heap[b]?
theorem MvE.refl (E : Nat) (w : World) : MvE E w w := ⟨Nat.le_refl _, fun _ _ _ => rfl⟩
theorem Ext.mvE {E : Nat} {w w' : World} (h : Ext w w') : MvE E w w' := ⟨h.size, fun b hb _ => h.block b hb⟩
theorem MvE.set (E j : Nat) (w : World) (v : Value) : MvE E w (w.setCell ⟨E, j, none⟩ v) := ⟨by rw [World.size_setCell]; exact Nat.le_refl _, fun b _ hb => Below.heap_setCell _ _ _ _ hb⟩
theorem Own.mvE {w w' : World} {base T k n E : Nat} {v : Value} {xs : List Value} (h : Own w base T k v n xs) (m : MvE E w w') (hE : E < base) : Own w' base T k v n xs :=
  h.keep fun b hb hlt => m.2 b hlt (by have := (h.base_le hb).1; omega)
theorem OwnL.mvE {α : Type} {T : Shape α} {tid : Nat} {w w' : World} {base E : Nat} {v : Value} {l : List α} (h : OwnL T tid w base (fun b => base ≤ b) v l) (m : MvE E w w') (hE : E < base) : OwnL T tid w' base (fun b => base ≤ b) v l :=
  h.keep (fun b hb hlt => m.2 b hlt (by omega)) fun b hb hlt => m.2 b hlt (by have := (h.base_le hb).1; omega)
theorem Kept2.refl (w : World) (p m : Nat) : Kept2 w w p m := ⟨rfl, rfl, rfl, Nat.le_refl _, fun _ _ _ _ => rfl⟩
theorem Kept2.ext {W w w' : World} {p m : Nat} (k : Kept2 W w p m) (h : Ext w w') : Kept2 W w' p m :=
  ⟨h.os.trans k.os, h.tape.trans k.tape, h.output.trans k.output, Nat.le_trans k.size h.size, fun j hj h1 h2 => (h.block j (Nat.lt_of_lt_of_le hj k.size)).trans (k.other j hj h1 h2)⟩
theorem Kept2.set1 {W w : World} {p m j : Nat} (k : Kept2 W w p m) (v : Value) : Kept2 W (w.setCell ⟨p, j, none⟩ v) p m :=
  ⟨k.os, k.tape, k.output, by rw [World.size_setCell]; exact k.size, fun b hb h1 h2 => (Below.heap_setCell _ _ _ _ h1).trans (k.other b hb h1 h2)⟩
theorem Kept2.set2 {W w : World} {p m j : Nat} (k : Kept2 W w p m) (v : Value) : Kept2 W (w.setCell ⟨m, j, none⟩ v) p m :=
  ⟨k.os, k.tape, k.output, by rw [World.size_setCell]; exact k.size, fun b hb h1 h2 => (Below.heap_setCell _ _ _ _ h2).trans (k.other b hb h1 h2)⟩
theorem Ext.kept {W w : World} (h : Ext W w) (p m : Nat) : Kept2 W w p m := ⟨h.os, h.tape, h.output, h.size, fun j hj _ _ => h.block j hj⟩
theorem EntAt.kept {W w : World} {S : Nat → Prop} {e : Entry} {v1 v2 v3 : Value} {p m : Nat} (h : EntAt W S e v1 v2 v3) (k : Kept2 W w p m) (hS : ∀ b, S b → b ≠ p ∧ b ≠ m) : EntAt w S e v1 v2 v3 :=
  ⟨h.seen.keep (by decide) fun b hb hlt => k.other b hlt (hS b hb).1 (hS b hb).2, h.counts.keep (by decide) fun b hb hlt => k.other b hlt (hS b hb).1 (hS b hb).2, h.items.keep (by decide) fun b hb hlt => k.other b hlt (hS b hb).1 (hS b hb).2⟩

set_option maxRecDepth 100000 in
set_option maxHeartbeats 1000000 in
theorem upd1_any {S : Nat → Prop} {W : World} {pe pr E : Nat} {e : Entry} {v1 v2 v3 z : Value} {pd : Nat} {d1 : Str} (n : Int) (hn1 : -9223372036854775808 ≤ n) (hn2 : n ≤ 9223372036854775807) (hd : W.cell? ⟨pd, 0, none⟩ = some (St d1)) (hl : e.counts.length < 1099511627776)
    (hpe : W.cell? ⟨pe, 0, none⟩ = some (.pointer (some ⟨E, 0, none⟩))) (hr : RowIs W pr 38 [z] []) (hE : RowIs W E 37 (entL e v1 v2 v3) []) (hA : EntAt W S e v1 v2 v3) (hS : ∀ b, S b → b ≠ E ∧ b ≠ pr) (hpr : pr ≠ E) :
    Calls Tryz.prog 155 #[I n, .pointer (some ⟨pe, 0, none⟩), .pointer (some ⟨pd, 0, none⟩), .pointer (some ⟨pr, 0, none⟩)] W fun r w' => r = .returned (I (addC e.counts d1 n).2) ∧ Did W w' E pr S { e with counts := (addC e.counts d1 n).1 } v1 := by
  obtain ⟨A1, n1, rfl, -, -⟩ := hA.seen.form
  obtain ⟨A2, n2, rfl, -, -⟩ := hA.counts.form
  obtain ⟨A3, n3, rfl, -, -⟩ := hA.items.form
  have HA := Lib.hid hA
  have HS := Lib.hid hS
  clear hA hS
  have hEl := hE.lt
  let J1 : World → Prop := fun w => ∃ u, Own w W.heap.size 93 3 u (addC e.counts d1 n).1.length ((addC e.counts d1 n).1.flatMap countC) ∧ RowIs w E 37 (entL e (.slice A1 e.seen.length n1) u (.slice A3 e.items.length n3)) [] ∧ RowIs w pr 38 [z] [] ∧ Kept2 W w E pr
  go_enter Tryz.func155, Tryz.ntmps155
  go_wp2_with fail
  refine wp_region_facts2 [.early (fun v _ => v = .pointer (some ⟨E, 0, none⟩)),
    .early (fun v _ => v = .pointer (some ⟨E, 0, none⟩)),
    .early (fun v _ => v = .pointer (some ⟨E, 0, none⟩)),
    .early (fun v _ => v = .pointer (some ⟨E, 2, none⟩)),
    .early (fun v _ => v = .slice A2 e.counts.length n2),
    .early (fun v _ => v = .pointer (some ⟨pd, 0, none⟩)),
    .early (fun v _ => v = St d1),
    .early (fun v _ => v = I n),
    .early (fun v W2 => ∃ v4, v = .tuple #[v4, I (addC e.counts d1 n).2] ∧ Own W2 W.heap.size 93 3 v4 (addC e.counts d1 n).1.length ((addC e.counts d1 n).1.flatMap countC)),
    .early (fun v W2 => ∃ v4, v = .tuple #[v4, I (addC e.counts d1 n).2] ∧ Own W2 W.heap.size 93 3 v4 (addC e.counts d1 n).1.length ((addC e.counts d1 n).1.flatMap countC)),
    .early (fun v W2 => Own W2 W.heap.size 93 3 v (addC e.counts d1 n).1.length ((addC e.counts d1 n).1.flatMap countC)),
    .late (fun v _ => v = I (addC e.counts d1 n).2),
    .early (fun v _ => v = .pointer (some ⟨E, 0, none⟩)),
    .early (fun v _ => v = .pointer (some ⟨E, 2, none⟩)),
    .store] 14 (fun w => Ext W w) J1 (MvE E) rfl (by kernel_rfl) (by kernel_rfl) ?hR ?hJ ?hstep ?hend
  case hR =>
    simp only [List.mem_cons, List.not_mem_nil, or_false, forall_eq_or_imp, forall_eq, HF.fact]
    exact ⟨fun v _ _ h _ => h, fun v _ _ h _ => h, fun v _ _ h _ => h, fun v _ _ h _ => h, fun v _ _ h _ => h, fun v _ _ h _ => h, fun v _ _ h _ => h, fun v _ _ h _ => h, fun v _ _ h he => by obtain ⟨u, e1, ho⟩ := h; exact ⟨u, e1, ho.mvE he hEl⟩, fun v _ _ h he => by obtain ⟨u, e1, ho⟩ := h; exact ⟨u, e1, ho.mvE he hEl⟩, fun v _ _ h he => h.mvE he hEl, fun v _ _ h _ => h, fun v _ _ h _ => h, fun v _ _ h _ => h, fun v _ _ h _ => h⟩
  case hJ => exact (Ext.refl W).drew
  case hstep =>
    simp only [List.length_cons, List.length_nil, Nat.reduceAdd, List.take_succ_cons, List.take_zero, stepsAll2, and_true]
    refine ⟨?_, ?_, ?_, ?_, ?_, ?_, ?_, ?_, ?_, ?_, ?_, ?_, ?_, ?_, ?_⟩
    · intro x W1 hj f
      have h : x 1 = .pointer (some ⟨pe, 0, none⟩) := f.1
      have hc := hj.cell hpe
      go_wp
      exact stepQ2_ok rfl ⟨hj, MvE.refl _ _⟩
    · intro x W1 hj f
      have h : x 1 = .pointer (some ⟨pe, 0, none⟩) := f.1
      have hc := hj.cell hpe
      go_wp
      exact stepQ2_ok rfl ⟨hj, MvE.refl _ _⟩
    · intro x W1 hj f
      have h : x 8 = .pointer (some ⟨E, 0, none⟩) := f.1
      go_wp
      exact stepQ2_ok rfl ⟨hj, MvE.refl _ _⟩
    · intro x W1 hj f
      have h : x 9 = .pointer (some ⟨E, 0, none⟩) := f.1
      go_wp
      exact stepQ2_ok rfl ⟨hj, MvE.refl _ _⟩
    · intro x W1 hj f
      have h : x 10 = .pointer (some ⟨E, 2, none⟩) := f.1
      have hc := (hE.ext hj).cell (j := 2) rfl
      go_wp
      exact stepQ2_ok rfl ⟨hj, MvE.refl _ _⟩
    · intro x W1 hj f
      have h : x 2 = .pointer (some ⟨pd, 0, none⟩) := f.1
      go_wp
      exact stepQ2_ok rfl ⟨hj, MvE.refl _ _⟩
    · intro x W1 hj f
      have h : x 12 = .pointer (some ⟨pd, 0, none⟩) := f.1
      have hc := hj.cell hd
      go_wp
      exact stepQ2_ok rfl ⟨hj, MvE.refl _ _⟩
    · intro x W1 hj f
      have h : x 0 = I n := f.1
      go_wp
      exact stepQ2_ok rfl ⟨hj, MvE.refl _ _⟩
    · intro x W1 hj f
      have h1 : x 11 = .slice A2 e.counts.length n2 := f.1
      have h2 : x 13 = St d1 := f.2.1
      have h3 : x 14 = I n := f.2.2.1
      have hs := hj.size
      have HC := Lib.hid (addC_any d1 n hn1 hn2 (HA.out.counts.ext (by decide) hj) hl)
      go_wp
      refine HC.out.mono ?_
      rintro r W2 ⟨v4, rfl, ho, hx2⟩
      dsimp only
      go_wp
      exact stepQ2_ok (v := .tuple #[v4, I (addC e.counts d1 n).2]) ⟨v4, rfl, ho.lower hs⟩ ⟨hj.trans hx2, hx2.mvE⟩
    · intro x W1 hj f
      obtain ⟨v4, h, ho⟩ : ∃ v4, x 15 = .tuple #[v4, I (addC e.counts d1 n).2] ∧ Own W1 W.heap.size 93 3 v4 (addC e.counts d1 n).1.length ((addC e.counts d1 n).1.flatMap countC) := f.1
      go_wp
      exact stepQ2_ok ⟨v4, rfl, ho⟩ ⟨hj, MvE.refl _ _⟩
    · intro x W1 hj f
      obtain ⟨v4, h, ho⟩ : ∃ v4, x 6 = .tuple #[v4, I (addC e.counts d1 n).2] ∧ Own W1 W.heap.size 93 3 v4 (addC e.counts d1 n).1.length ((addC e.counts d1 n).1.flatMap countC) := f.1
      go_wp
      exact stepQ2_ok ho ⟨hj, MvE.refl _ _⟩
    · intro x W1 b hj f
      obtain ⟨v4, h, ho⟩ : ∃ v4, x 6 = .tuple #[v4, I (addC e.counts d1 n).2] ∧ Own W1 W.heap.size 93 3 v4 (addC e.counts d1 n).1.length ((addC e.counts d1 n).1.flatMap countC) := f.1
      go_wp
      exact stepQ2_ok rfl ⟨hj, MvE.refl _ _⟩
    · intro x W1 hj f
      have h : x 7 = .pointer (some ⟨E, 0, none⟩) := f.1
      go_wp
      exact stepQ2_ok rfl ⟨hj, MvE.refl _ _⟩
    · intro x W1 hj f
      have h : x 18 = .pointer (some ⟨E, 0, none⟩) := f.1
      go_wp
      exact stepQ2_ok rfl ⟨hj, MvE.refl _ _⟩
    · intro x W1 hj f
      have h : x 19 = .pointer (some ⟨E, 2, none⟩) := f.1
      have ho : Own W1 W.heap.size 93 3 (x 16) (addC e.counts d1 n).1.length ((addC e.counts d1 n).1.flatMap countC) := f.2.1
      obtain ⟨A, c, hA, -, -⟩ := ho.form
      have hEW := hE.ext hj
      have hc := hEW.cell (j := 2) rfl
      have hf := hEW.frozen 2
      rw [hA] at ho
      have hp : J1 (W1.setCell ⟨E, 2, none⟩ (.slice A (addC e.counts d1 n).1.length c)) := ⟨_, ho.mvE (MvE.set _ _ _ _) hEl, hEW.set (j := 2) (by simp) _, (hr.ext hj).other hpr.symm _, (hj.kept E pr).set1 _⟩
      have hm := MvE.set E 2 W1 (.slice A (addC e.counts d1 n).1.length c)
      generalize hW2 : W1.setCell ⟨E, 2, none⟩ (.slice A (addC e.counts d1 n).1.length c) = W2 at *
      clear hj ho hEW
      go_wp
      exact stepQ2_ok (v := undef) trivial ⟨hp, hm⟩
  case hend =>
    intro x W1 hj f
    obtain ⟨u, ho, hE1, hr1, hk⟩ := hj
    have h17 : x 17 = I (addC e.counts d1 n).2 := f.2.2.2.2.2.2.2.2.2.2.2.1
    simp only [List.length_cons, List.length_nil, Nat.reduceAdd, List.take_succ_cons, List.take_zero, List.filterMap_cons, List.filterMap_nil, List.drop_succ_cons, List.drop_zero, putAll, Act.put, List.setIfInBounds_toArray, List.set_cons_succ, List.set_cons_zero, h17]
    have hrf := hr1.frozen 0
    have hrc := hr1.cell (j := 0) rfl
    clear f
    have HK := Lib.hid (hk.set2 (j := 0) (I (addC e.counts d1 n).2))
    have HE := Lib.hid (hE1.other (p := ⟨pr, 0, none⟩) hpr (I (addC e.counts d1 n).2))
    have HO := Lib.hid (ho.keep (w' := W1.setCell ⟨pr, 0, none⟩ (I (addC e.counts d1 n).2)) fun b hb _ => Below.heap_setCell _ _ _ _ (fun e2 => by have := (ho.base_le hb).1; have := hr.lt; have e3 : b = pr := e2; omega))
    have hcs := (hr1.set (j := 0) (by simp) (I (addC e.counts d1 n).2)).cell (j := 0) rfl
    obtain ⟨w9, hw9⟩ : ∃ w9, W1.setCell ⟨pr, 0, none⟩ (I (addC e.counts d1 n).2) = w9 := ⟨_, rfl⟩
    rw [hw9] at HK HE HO hcs
    obtain ⟨err, herr⟩ : ∃ err : Nat, (addC e.counts d1 n).2 = err := ⟨_, rfl⟩
    rw [herr] at hw9 hcs ⊢
    clear hr1 ho hE1 hk
    go_wp
    go_wp2_with fail
    go_ret
    have hA9 := HA.out.kept HK.out HS.out
    exact ⟨by rw [herr]; rfl, u, _, HE.out, ⟨hA9.seen.mono (by decide) fun b _ h => .inl h, (OwnL.flat_iff (S := fun b => S b ∨ W.heap.size ≤ b).2 HO.out).sl (by decide) (fun _ _ h => h) (fun b h _ => .inr h), hA9.items.mono (by decide) fun b _ h => .inl h⟩, HK.out⟩
set_option maxRecDepth 100000 in
set_option maxHeartbeats 1000000 in
theorem upd2_any {S : Nat → Prop} {W : World} {pe pr E : Nat} {e : Entry} {v1 v2 v3 z : Value} (line : Str) (gone : Bool)
    (hpe : W.cell? ⟨pe, 0, none⟩ = some (.pointer (some ⟨E, 0, none⟩))) (hr : RowIs W pr 38 [z] []) (hE : RowIs W E 37 (entL e v1 v2 v3) []) (hA : EntAt W S e v1 v2 v3) (hS : ∀ b, S b → b ≠ E ∧ b ≠ pr) (hpr : pr ≠ E) :
    Calls Tryz.prog 157 #[St line, .bool gone, .pointer (some ⟨pe, 0, none⟩), .pointer (some ⟨pr, 0, none⟩)] W fun r w' => r = .returned (I (writeC e.cell line gone).2) ∧ Did W w' E pr S { e with cell := (writeC e.cell line gone).1 } v1 := by
  obtain ⟨A1, n1, rfl, -, -⟩ := hA.seen.form
  obtain ⟨A2, n2, rfl, -, -⟩ := hA.counts.form
  obtain ⟨A3, n3, rfl, -, -⟩ := hA.items.form
  have HA := Lib.hid hA
  have HS := Lib.hid hS
  clear hA hS
  have hEl := hE.lt
  let J1 : World → Prop := fun w => RowIs w E 37 (entL { e with cell := (writeC e.cell line gone).1 } (.slice A1 e.seen.length n1) (.slice A2 e.counts.length n2) (.slice A3 e.items.length n3)) [] ∧ RowIs w pr 38 [z] [] ∧ Kept2 W w E pr
  go_enter Tryz.func157, Tryz.ntmps157
  go_wp2_with fail
  refine wp_region_facts2 [.early (fun v _ => v = .pointer (some ⟨E, 0, none⟩)),
    .early (fun v _ => v = .pointer (some ⟨E, 0, none⟩)),
    .early (fun v _ => v = .pointer (some ⟨E, 0, none⟩)),
    .early (fun v _ => v = .pointer (some ⟨E, 4, none⟩)),
    .early (fun v _ => v = cellV e.cell),
    .early (fun v _ => v = St line),
    .early (fun v _ => v = .bool gone),
    .early (fun v _ => v = .tuple #[cellV (writeC e.cell line gone).1, I (writeC e.cell line gone).2]),
    .early (fun v _ => v = .tuple #[cellV (writeC e.cell line gone).1, I (writeC e.cell line gone).2]),
    .early (fun v _ => v = cellV (writeC e.cell line gone).1),
    .late (fun v _ => v = I (writeC e.cell line gone).2),
    .early (fun v _ => v = .pointer (some ⟨E, 0, none⟩)),
    .early (fun v _ => v = .pointer (some ⟨E, 4, none⟩)),
    .store] 13 (fun w => Ext W w) J1 (MvE E) rfl (by kernel_rfl) (by kernel_rfl) ?hR ?hJ ?hstep ?hend
  case hR =>
    simp only [List.mem_cons, List.not_mem_nil, or_false, forall_eq_or_imp, forall_eq, HF.fact]
    exact ⟨fun v _ _ h _ => h, fun v _ _ h _ => h, fun v _ _ h _ => h, fun v _ _ h _ => h, fun v _ _ h _ => h, fun v _ _ h _ => h, fun v _ _ h _ => h, fun v _ _ h _ => h, fun v _ _ h _ => h, fun v _ _ h _ => h, fun v _ _ h _ => h, fun v _ _ h _ => h, fun v _ _ h _ => h, fun v _ _ h _ => h⟩
  case hJ => exact (Ext.refl W).drew
  case hstep =>
    simp only [List.length_cons, List.length_nil, Nat.reduceAdd, List.take_succ_cons, List.take_zero, stepsAll2, and_true]
    refine ⟨?_, ?_, ?_, ?_, ?_, ?_, ?_, ?_, ?_, ?_, ?_, ?_, ?_, ?_⟩
    · intro x W1 hj f
      have h : x 2 = .pointer (some ⟨pe, 0, none⟩) := f.1
      have hc := hj.cell hpe
      go_wp
      exact stepQ2_ok rfl ⟨hj, MvE.refl _ _⟩
    · intro x W1 hj f
      have h : x 2 = .pointer (some ⟨pe, 0, none⟩) := f.1
      have hc := hj.cell hpe
      go_wp
      exact stepQ2_ok rfl ⟨hj, MvE.refl _ _⟩
    · intro x W1 hj f
      have h : x 9 = .pointer (some ⟨E, 0, none⟩) := f.1
      go_wp
      exact stepQ2_ok rfl ⟨hj, MvE.refl _ _⟩
    · intro x W1 hj f
      have h : x 10 = .pointer (some ⟨E, 0, none⟩) := f.1
      go_wp
      exact stepQ2_ok rfl ⟨hj, MvE.refl _ _⟩
    · intro x W1 hj f
      have h : x 11 = .pointer (some ⟨E, 4, none⟩) := f.1
      have hc4 := (hE.ext hj).cell (j := 4) rfl
      have hc5 := (hE.ext hj).cell (j := 5) rfl
      have hc6 := (hE.ext hj).cell (j := 6) rfl
      go_wp
      exact stepQ2_ok rfl ⟨hj, MvE.refl _ _⟩
    · intro x W1 hj f
      have h : x 0 = St line := f.1
      go_wp
      exact stepQ2_ok rfl ⟨hj, MvE.refl _ _⟩
    · intro x W1 hj f
      have h : x 1 = .bool gone := f.1
      go_wp
      exact stepQ2_ok rfl ⟨hj, MvE.refl _ _⟩
    · intro x W1 hj f
      have h1 : x 12 = cellV e.cell := f.1
      have h2 : x 13 = St line := f.2.1
      have h3 : x 14 = .bool gone := f.2.2.1
      have HC := Lib.hid (writeC_any e.cell line gone W1)
      go_wp
      refine HC.out.mono ?_
      rintro r W2 ⟨rfl, hx2⟩
      dsimp only
      go_wp
      exact stepQ2_ok rfl ⟨hj.trans hx2, hx2.mvE⟩
    · intro x W1 hj f
      have h : x 15 = .tuple #[cellV (writeC e.cell line gone).1, I (writeC e.cell line gone).2] := f.1
      go_wp
      exact stepQ2_ok rfl ⟨hj, MvE.refl _ _⟩
    · intro x W1 hj f
      have h : x 7 = .tuple #[cellV (writeC e.cell line gone).1, I (writeC e.cell line gone).2] := f.1
      go_wp
      exact stepQ2_ok rfl ⟨hj, MvE.refl _ _⟩
    · intro x W1 b hj f
      have h : x 7 = .tuple #[cellV (writeC e.cell line gone).1, I (writeC e.cell line gone).2] := f.1
      go_wp
      exact stepQ2_ok rfl ⟨hj, MvE.refl _ _⟩
    · intro x W1 hj f
      have h : x 8 = .pointer (some ⟨E, 0, none⟩) := f.1
      go_wp
      exact stepQ2_ok rfl ⟨hj, MvE.refl _ _⟩
    · intro x W1 hj f
      have h : x 18 = .pointer (some ⟨E, 0, none⟩) := f.1
      go_wp
      exact stepQ2_ok rfl ⟨hj, MvE.refl _ _⟩
    · intro x W1 hj f
      have h : x 19 = .pointer (some ⟨E, 4, none⟩) := f.1
      have h2 : x 16 = cellV (writeC e.cell line gone).1 := f.2.1
      have hEW := hE.ext hj
      have hc4 := hEW.cell (j := 4) rfl
      have hc5 := hEW.cell (j := 5) rfl
      have hc6 := hEW.cell (j := 6) rfl
      have hf4 := hEW.frozen 4
      have hf5 := hEW.frozen 5
      have hf6 := hEW.frozen 6
      have hE4 := hEW.set (j := 4) (by simp) (U (writeC e.cell line gone).1.1)
      have hE5 := hE4.set (j := 5) (by simp) (St (writeC e.cell line gone).1.2.1)
      have hE6 := hE5.set (j := 6) (by simp) (.bool (writeC e.cell line gone).1.2.2)
      have hp : J1 (((W1.setCell ⟨E, 4, none⟩ (U (writeC e.cell line gone).1.1)).setCell ⟨E, 5, none⟩ (St (writeC e.cell line gone).1.2.1)).setCell ⟨E, 6, none⟩ (.bool (writeC e.cell line gone).1.2.2)) := ⟨hE6, (((hr.ext hj).other hpr.symm _).other hpr.symm _).other hpr.symm _, (((hj.kept E pr).set1 _).set1 _).set1 _⟩
      have hm : MvE E W1 (((W1.setCell ⟨E, 4, none⟩ (U (writeC e.cell line gone).1.1)).setCell ⟨E, 5, none⟩ (St (writeC e.cell line gone).1.2.1)).setCell ⟨E, 6, none⟩ (.bool (writeC e.cell line gone).1.2.2)) := ⟨by simp only [World.size_setCell]; exact Nat.le_refl _, fun b _ hb => ((Below.heap_setCell _ _ _ _ hb).trans (Below.heap_setCell _ _ _ _ hb)).trans (Below.heap_setCell _ _ _ _ hb)⟩
      clear hE4 hE5 hE6 hEW hj
      go_wp
      exact stepQ2_ok (v := undef) trivial ⟨hp, hm⟩
  case hend =>
    intro x W1 hj f
    obtain ⟨hE1, hr1, hk⟩ := hj
    have h17 : x 17 = I (writeC e.cell line gone).2 := f.2.2.2.2.2.2.2.2.2.2.1
    simp only [List.length_cons, List.length_nil, Nat.reduceAdd, List.take_succ_cons, List.take_zero, List.filterMap_cons, List.filterMap_nil, List.drop_succ_cons, List.drop_zero, putAll, Act.put, List.setIfInBounds_toArray, List.set_cons_succ, List.set_cons_zero, h17]
    have hrf := hr1.frozen 0
    have hrc := hr1.cell (j := 0) rfl
    clear f
    have HK := Lib.hid (hk.set2 (j := 0) (I (writeC e.cell line gone).2))
    have HE := Lib.hid (hE1.other (p := ⟨pr, 0, none⟩) hpr (I (writeC e.cell line gone).2))
    have hcs := (hr1.set (j := 0) (by simp) (I (writeC e.cell line gone).2)).cell (j := 0) rfl
    obtain ⟨w9, hw9⟩ : ∃ w9, W1.setCell ⟨pr, 0, none⟩ (I (writeC e.cell line gone).2) = w9 := ⟨_, rfl⟩
    rw [hw9] at HK HE hcs
    obtain ⟨err, herr⟩ : ∃ err : Nat, (writeC e.cell line gone).2 = err := ⟨_, rfl⟩
    rw [herr] at hw9 hcs ⊢
    clear hr1 hE1 hk
    go_wp
    go_wp2_with fail
    go_ret
    have hA9 := HA.out.kept HK.out HS.out
    exact ⟨by rw [herr]; rfl, _, _, HE.out, ⟨hA9.seen.mono (by decide) fun b _ h => .inl h, hA9.counts.mono (by decide) fun b _ h => .inl h, hA9.items.mono (by decide) fun b _ h => .inl h⟩, HK.out⟩
set_option maxRecDepth 100000 in
set_option maxHeartbeats 1000000 in
theorem upd5_any {S : Nat → Prop} {W : World} {pe pr E : Nat} {e : Entry} {v1 v2 v3 z : Value} {po pd : Nat} {tx : Str} {d1 : Dot} (ho3 : W.cell? ⟨po, 3, none⟩ = some (St tx)) (hd : W.cell? ⟨pd, 0, none⟩ = some (St d1.1)) (hd1 : W.cell? ⟨pd, 1, none⟩ = some (U d1.2)) (hl : (placesL e.items).length < 1099511627776)
    (hpe : W.cell? ⟨pe, 0, none⟩ = some (.pointer (some ⟨E, 0, none⟩))) (hr : RowIs W pr 38 [z] []) (hE : RowIs W E 37 (entL e v1 v2 v3) []) (hA : EntAt W S e v1 v2 v3) (hS : ∀ b, S b → b ≠ E ∧ b ≠ pr) (hpr : pr ≠ E) :
    Calls Tryz.prog 161 #[.pointer (some ⟨pe, 0, none⟩), .pointer (some ⟨po, 0, none⟩), .pointer (some ⟨pd, 0, none⟩), .pointer (some ⟨pr, 0, none⟩)] W fun r w' => r = .returned (I (putB e.items tx d1).2) ∧ Did W w' E pr S { e with items := (putB e.items tx d1).1 } v1 := by
  obtain ⟨A1, n1, rfl, -, -⟩ := hA.seen.form
  obtain ⟨A2, n2, rfl, -, -⟩ := hA.counts.form
  obtain ⟨A3, n3, rfl, -, -⟩ := hA.items.form
  have HA := Lib.hid hA
  have HS := Lib.hid hS
  clear hA hS
  have hEl := hE.lt
  let J1 : World → Prop := fun w => ∃ u, OwnL itemT 96 w W.heap.size (fun b => W.heap.size ≤ b) u (putB e.items tx d1).1 ∧ RowIs w E 37 (entL e (.slice A1 e.seen.length n1) (.slice A2 e.counts.length n2) u) [] ∧ RowIs w pr 38 [z] [] ∧ Kept2 W w E pr
  go_enter Tryz.func161, Tryz.ntmps161
  go_wp2_with fail
  refine wp_region_facts2 [.early (fun v _ => v = .pointer (some ⟨E, 0, none⟩)),
    .early (fun v _ => v = .pointer (some ⟨E, 0, none⟩)),
    .early (fun v _ => v = .pointer (some ⟨E, 0, none⟩)),
    .early (fun v _ => v = .pointer (some ⟨E, 3, none⟩)),
    .early (fun v _ => v = .slice A3 e.items.length n3),
    .early (fun v _ => v = .pointer (some ⟨po, 3, none⟩)),
    .early (fun v _ => v = St tx),
    .early (fun v _ => v = dotV d1),
    .early (fun v W2 => ∃ v4, v = .tuple #[v4, I (putB e.items tx d1).2] ∧ OwnL itemT 96 W2 W.heap.size (fun b => W.heap.size ≤ b) v4 (putB e.items tx d1).1),
    .early (fun v W2 => ∃ v4, v = .tuple #[v4, I (putB e.items tx d1).2] ∧ OwnL itemT 96 W2 W.heap.size (fun b => W.heap.size ≤ b) v4 (putB e.items tx d1).1),
    .early (fun v W2 => OwnL itemT 96 W2 W.heap.size (fun b => W.heap.size ≤ b) v (putB e.items tx d1).1),
    .late (fun v _ => v = I (putB e.items tx d1).2),
    .early (fun v _ => v = .pointer (some ⟨E, 0, none⟩)),
    .early (fun v _ => v = .pointer (some ⟨E, 3, none⟩)),
    .store] 14 (fun w => Ext W w) J1 (MvE E) rfl (by kernel_rfl) (by kernel_rfl) ?hR ?hJ ?hstep ?hend
  case hR =>
    simp only [List.mem_cons, List.not_mem_nil, or_false, forall_eq_or_imp, forall_eq, HF.fact]
    exact ⟨fun v _ _ h _ => h, fun v _ _ h _ => h, fun v _ _ h _ => h, fun v _ _ h _ => h, fun v _ _ h _ => h, fun v _ _ h _ => h, fun v _ _ h _ => h, fun v _ _ h _ => h, fun v _ _ h he => by obtain ⟨u, e1, ho⟩ := h; exact ⟨u, e1, ho.mvE he hEl⟩, fun v _ _ h he => by obtain ⟨u, e1, ho⟩ := h; exact ⟨u, e1, ho.mvE he hEl⟩, fun v _ _ h he => h.mvE he hEl, fun v _ _ h _ => h, fun v _ _ h _ => h, fun v _ _ h _ => h, fun v _ _ h _ => h⟩
  case hJ => exact (Ext.refl W).drew
  case hstep =>
    simp only [List.length_cons, List.length_nil, Nat.reduceAdd, List.take_succ_cons, List.take_zero, stepsAll2, and_true]
    refine ⟨?_, ?_, ?_, ?_, ?_, ?_, ?_, ?_, ?_, ?_, ?_, ?_, ?_, ?_, ?_⟩
    · intro x W1 hj f
      have h : x 0 = .pointer (some ⟨pe, 0, none⟩) := f.1
      have hc := hj.cell hpe
      go_wp
      exact stepQ2_ok rfl ⟨hj, MvE.refl _ _⟩
    · intro x W1 hj f
      have h : x 0 = .pointer (some ⟨pe, 0, none⟩) := f.1
      have hc := hj.cell hpe
      go_wp
      exact stepQ2_ok rfl ⟨hj, MvE.refl _ _⟩
    · intro x W1 hj f
      have h : x 7 = .pointer (some ⟨E, 0, none⟩) := f.1
      go_wp
      exact stepQ2_ok rfl ⟨hj, MvE.refl _ _⟩
    · intro x W1 hj f
      have h : x 8 = .pointer (some ⟨E, 0, none⟩) := f.1
      go_wp
      exact stepQ2_ok rfl ⟨hj, MvE.refl _ _⟩
    · intro x W1 hj f
      have h : x 9 = .pointer (some ⟨E, 3, none⟩) := f.1
      have hc := (hE.ext hj).cell (j := 3) rfl
      go_wp
      exact stepQ2_ok rfl ⟨hj, MvE.refl _ _⟩
    · intro x W1 hj f
      have h : x 1 = .pointer (some ⟨po, 0, none⟩) := f.1
      go_wp
      exact stepQ2_ok rfl ⟨hj, MvE.refl _ _⟩
    · intro x W1 hj f
      have h : x 11 = .pointer (some ⟨po, 3, none⟩) := f.1
      have hc := hj.cell ho3
      go_wp
      exact stepQ2_ok rfl ⟨hj, MvE.refl _ _⟩
    · intro x W1 hj f
      have h : x 2 = .pointer (some ⟨pd, 0, none⟩) := f.1
      have hc := hj.cell hd
      have hc1 := hj.cell hd1
      go_wp
      exact stepQ2_ok rfl ⟨hj, MvE.refl _ _⟩
    · intro x W1 hj f
      have h1 : x 10 = .slice A3 e.items.length n3 := f.1
      have h2 : x 12 = St tx := f.2.1
      have h3 : x 13 = dotV d1 := f.2.2.1
      have hs := hj.size
      have HC := Lib.hid (putB_any tx d1 (HA.out.items.ext (by decide) hj) hl)
      go_wp
      refine HC.out.mono ?_
      rintro r W2 ⟨v4, rfl, ho, hx2⟩
      dsimp only
      go_wp
      exact stepQ2_ok (v := .tuple #[v4, I (putB e.items tx d1).2]) ⟨v4, rfl, (ho.lower hs).mono fun b _ h => Nat.le_trans hs h⟩ ⟨hj.trans hx2, hx2.mvE⟩
    · intro x W1 hj f
      obtain ⟨v4, h, ho⟩ : ∃ v4, x 14 = .tuple #[v4, I (putB e.items tx d1).2] ∧ OwnL itemT 96 W1 W.heap.size (fun b => W.heap.size ≤ b) v4 (putB e.items tx d1).1 := f.1
      go_wp
      exact stepQ2_ok ⟨v4, rfl, ho⟩ ⟨hj, MvE.refl _ _⟩
    · intro x W1 hj f
      obtain ⟨v4, h, ho⟩ : ∃ v4, x 5 = .tuple #[v4, I (putB e.items tx d1).2] ∧ OwnL itemT 96 W1 W.heap.size (fun b => W.heap.size ≤ b) v4 (putB e.items tx d1).1 := f.1
      go_wp
      exact stepQ2_ok ho ⟨hj, MvE.refl _ _⟩
    · intro x W1 b hj f
      obtain ⟨v4, h, ho⟩ : ∃ v4, x 5 = .tuple #[v4, I (putB e.items tx d1).2] ∧ OwnL itemT 96 W1 W.heap.size (fun b => W.heap.size ≤ b) v4 (putB e.items tx d1).1 := f.1
      go_wp
      exact stepQ2_ok rfl ⟨hj, MvE.refl _ _⟩
    · intro x W1 hj f
      have h : x 6 = .pointer (some ⟨E, 0, none⟩) := f.1
      go_wp
      exact stepQ2_ok rfl ⟨hj, MvE.refl _ _⟩
    · intro x W1 hj f
      have h : x 17 = .pointer (some ⟨E, 0, none⟩) := f.1
      go_wp
      exact stepQ2_ok rfl ⟨hj, MvE.refl _ _⟩
    · intro x W1 hj f
      have h : x 18 = .pointer (some ⟨E, 3, none⟩) := f.1
      have ho : OwnL itemT 96 W1 W.heap.size (fun b => W.heap.size ≤ b) (x 15) (putB e.items tx d1).1 := f.2.1
      obtain ⟨A, c, hA, -, -⟩ := ho.form
      have hEW := hE.ext hj
      have hc := hEW.cell (j := 3) rfl
      have hf := hEW.frozen 3
      rw [hA] at ho
      have hp : J1 (W1.setCell ⟨E, 3, none⟩ (.slice A (putB e.items tx d1).1.length c)) := ⟨_, ho.mvE (MvE.set _ _ _ _) hEl, hEW.set (j := 3) (by simp) _, (hr.ext hj).other hpr.symm _, (hj.kept E pr).set1 _⟩
      have hm := MvE.set E 3 W1 (.slice A (putB e.items tx d1).1.length c)
      generalize hW2 : W1.setCell ⟨E, 3, none⟩ (.slice A (putB e.items tx d1).1.length c) = W2 at *
      clear hj ho hEW
      go_wp
      exact stepQ2_ok (v := undef) trivial ⟨hp, hm⟩
  case hend =>
    intro x W1 hj f
    obtain ⟨u, ho, hE1, hr1, hk⟩ := hj
    have h17 : x 16 = I (putB e.items tx d1).2 := f.2.2.2.2.2.2.2.2.2.2.2.1
    simp only [List.length_cons, List.length_nil, Nat.reduceAdd, List.take_succ_cons, List.take_zero, List.filterMap_cons, List.filterMap_nil, List.drop_succ_cons, List.drop_zero, putAll, Act.put, List.setIfInBounds_toArray, List.set_cons_succ, List.set_cons_zero, h17]
    have hrf := hr1.frozen 0
    have hrc := hr1.cell (j := 0) rfl
    clear f
    have HK := Lib.hid (hk.set2 (j := 0) (I (putB e.items tx d1).2))
    have HE := Lib.hid (hE1.other (p := ⟨pr, 0, none⟩) hpr (I (putB e.items tx d1).2))
    have HO := Lib.hid ((ho.mono (S' := fun b => W.heap.size ≤ b ∧ b ≠ pr) (fun b _ h => ⟨h, by have := hr.lt; omega⟩)).keep (w' := W1.setCell ⟨pr, 0, none⟩ (I (putB e.items tx d1).2)) (fun b hb _ => Below.heap_setCell _ _ _ _ (fun e2 => hb.2 e2)) fun b hb _ => Below.heap_setCell _ _ _ _ (fun e2 => by have := (ho.base_le hb).1; have := hr.lt; have e3 : b = pr := e2; omega))
    clear ho
    have hcs := (hr1.set (j := 0) (by simp) (I (putB e.items tx d1).2)).cell (j := 0) rfl
    obtain ⟨w9, hw9⟩ : ∃ w9, W1.setCell ⟨pr, 0, none⟩ (I (putB e.items tx d1).2) = w9 := ⟨_, rfl⟩
    rw [hw9] at HK HE HO hcs
    obtain ⟨err, herr⟩ : ∃ err : Nat, (putB e.items tx d1).2 = err := ⟨_, rfl⟩
    rw [herr] at hw9 hcs ⊢
    clear hr1 hE1 hk
    go_wp
    go_wp2_with fail
    go_ret
    have hA9 := HA.out.kept HK.out HS.out
    exact ⟨by rw [herr]; rfl, _, u, HE.out, ⟨hA9.seen.mono (by decide) fun b _ h => .inl h, hA9.counts.mono (by decide) fun b _ h => .inl h, HO.out.sl (by decide) (fun _ _ h => .inr h.1) (fun b h _ => .inr h)⟩, HK.out⟩
end Go.Proofs.YtdikcgmdmcfpfaaGreat
namespace Go.Proofs.YtdikcgmdmcfpfaaGreat
open Go.RowKit Go.Shelf

theorem Did.mono {W W1 w' : World} {E pr : Nat} {S : Nat → Prop} {e' : Entry} {v1 : Value} (h : Did W1 w' E pr S e' v1) (he : Ext W W1) : Did W w' E pr S e' v1 := by
  obtain ⟨u2, u3, h1, h2, h3⟩ := h
  exact ⟨u2, u3, h1, h2.mono (fun b _ hb => hb.elim .inl fun h => .inr (Nat.le_trans he.size h)), ⟨h3.os.trans he.os, h3.tape.trans he.tape, h3.output.trans he.output, Nat.le_trans he.size h3.size, fun j hj a b => (h3.other j (Nat.lt_of_lt_of_le hj he.size) a b).trans (he.block j hj)⟩⟩

set_option maxRecDepth 100000 in
set_option maxHeartbeats 1000000 in
/-- $3: OpAdd: add(op.N) -/
theorem upd3_any {S : Nat → Prop} {W : World} {pa po pe pd pr E : Nat} {e : Entry} {v1 v2 v3 z : Value} {d1 : Str} (n : Int) (hn1 : -9223372036854775808 ≤ n) (hn2 : n ≤ 9223372036854775807)
    (hpa : W.cell? ⟨pa, 0, none⟩ = some (.func (.func 155) #[] #[.pointer (some ⟨pe, 0, none⟩), .pointer (some ⟨pd, 0, none⟩), .pointer (some ⟨pr, 0, none⟩)])) (hpo : W.cell? ⟨po, 2, none⟩ = some (I n))
    (hd : W.cell? ⟨pd, 0, none⟩ = some (St d1)) (hl : e.counts.length < 1099511627776)
    (hpe : W.cell? ⟨pe, 0, none⟩ = some (.pointer (some ⟨E, 0, none⟩))) (hr : RowIs W pr 38 [z] []) (hE : RowIs W E 37 (entL e v1 v2 v3) []) (hA : EntAt W S e v1 v2 v3) (hS : ∀ b, S b → b ≠ E ∧ b ≠ pr) (hpr : pr ≠ E) :
    Calls Tryz.prog 159 #[.pointer (some ⟨pa, 0, none⟩), .pointer (some ⟨po, 0, none⟩)] W fun r w' => r = .returned (I (addC e.counts d1 n).2) ∧ Did W w' E pr S { e with counts := (addC e.counts d1 n).1 } v1 := by
  have eg : ∀ args w, (callFunc 155 args).run Tryz.prog w = .ok (.enter 155 args) w := enters_of Tryz.func155 (by kernel_rfl) rfl
  have HC := Lib.hid (upd1_any n hn1 hn2 hd hl hpe hr hE hA hS hpr)
  clear hd hl hpe hr hE hA hS hpr hn1 hn2
  go_enter Tryz.func159, Tryz.ntmps159
  go_wp2_with fail
  refine HC.out.mono ?_
  rintro r W1 ⟨rfl, hD⟩
  go_wp2_with fail
  go_ret
  exact ⟨rfl, hD⟩

theorem eqI {a b : Int} (h : a = b) : (a == b) = true := by simpa using h
theorem neI {a b : Int} (h : a ≠ b) : (a == b) = false := by simpa using h

/-- a counter's delete -/
def delC (l : List Count) (s : Str) : List Count × Nat := if valueL l = -9223372036854775808 then (l, 9) else addC l s (-valueL l)

set_option maxRecDepth 100000 in
set_option maxHeartbeats 1000000 in
/-- $4: a counter's OpDelete -/
theorem upd4_any {S : Nat → Prop} {W : World} {pa pe pd pr E : Nat} {e : Entry} {v1 v2 v3 z : Value} {d1 : Str}
    (hpa : W.cell? ⟨pa, 0, none⟩ = some (.func (.func 155) #[] #[.pointer (some ⟨pe, 0, none⟩), .pointer (some ⟨pd, 0, none⟩), .pointer (some ⟨pr, 0, none⟩)]))
    (hd : W.cell? ⟨pd, 0, none⟩ = some (St d1)) (hl : e.counts.length < 1099511627776)
    (hpe : W.cell? ⟨pe, 0, none⟩ = some (.pointer (some ⟨E, 0, none⟩))) (hr : RowIs W pr 38 [z] []) (hE : RowIs W E 37 (entL e v1 v2 v3) []) (hA : EntAt W S e v1 v2 v3) (hS : ∀ b, S b → b ≠ E ∧ b ≠ pr) (hpr : pr ≠ E) :
    Calls Tryz.prog 160 #[.pointer (some ⟨pe, 0, none⟩), .pointer (some ⟨pa, 0, none⟩)] W fun r w' => r = .returned (I (delC e.counts d1).2) ∧ Did W w' E pr S { e with counts := (delC e.counts d1).1 } v1 := by
  have eg : ∀ args w, (callFunc 155 args).run Tryz.prog w = .ok (.enter 155 args) w := enters_of Tryz.func155 (by kernel_rfl) rfl
  have hV := wrap64_in (sumL (plusOf e.counts) (minusOf e.counts))
  have HC := Lib.hid (counterValue_any hA.counts)
  have k2 := hE.cell (j := 2) rfl
  obtain ⟨A2, n2, rfl, -, -⟩ := hA.counts.form
  have HD := Lib.hid (show delC e.counts d1 = if valueL e.counts = -9223372036854775808 then (e.counts, 9) else addC e.counts d1 (-valueL e.counts) from rfl)
  have HADD := Lib.hid (fun (W1 : World) (n : Int) (a : -9223372036854775808 ≤ n) (b : n ≤ 9223372036854775807) (hx : Ext W W1) => upd1_any n a b (hx.cell hd) hl (hx.cell hpe) (hr.ext hx) (hE.ext hx) (hA.ext hx) hS hpr)
  have HE := Lib.hid hE
  have HA := Lib.hid hA
  change -9223372036854775808 ≤ valueL e.counts ∧ valueL e.counts ≤ 9223372036854775807 at hV
  clear hd hl hr hE hA hS hpr
  go_enter Tryz.func160, Tryz.ntmps160
  go_wp2_with fail
  refine HC.out.mono ?_
  rintro r W1 ⟨rfl, hx1⟩
  obtain ⟨v, hv⟩ : ∃ v, valueL e.counts = v := ⟨_, rfl⟩
  rw [hv] at hV HD
  rw [hv]
  have hpa1 := hx1.cell hpa
  by_cases h : v = -9223372036854775808
  · have HD2 := Lib.hid (show delC e.counts d1 = (e.counts, 9) by rw [HD.out, if_pos h])
    have hk := eqI h
    clear h
    go_wp2_with fail
    go_ret
    exact ⟨by rw [HD2.out]; rfl, by rw [HD2.out]; exact ⟨_, _, HE.out.ext hx1, (HA.out.ext hx1).mono fun b _ h => .inl h, hx1.kept _ _⟩⟩
  · have HD2 := Lib.hid (show delC e.counts d1 = addC e.counts d1 (-v) by rw [HD.out, if_neg h])
    have hk := neI h
    have hw : IntKind.i64.wrap (-v) = -v := by rw [IntKind.wrap_i64]; omega
    have HC2 := Lib.hid (HADD.out W1 (-v) (by omega) (by omega) hx1)
    have HX1 := Lib.hid hx1
    clear h HADD hx1
    go_wp2_with fail
    refine HC2.out.mono ?_
    rintro r W2 ⟨rfl, hD⟩
    go_wp2_with fail
    go_ret
    exact ⟨by rw [HD2.out]; rfl, by rw [HD2.out]; exact hD.mono HX1.out⟩

set_option maxRecDepth 100000 in
set_option maxHeartbeats 1000000 in
/-- $7: a set's OpDelete -/
theorem upd7_any {S : Nat → Prop} {W : World} {pe pr E : Nat} {e : Entry} {v1 v2 v3 : Value}
    (hpe : W.cell? ⟨pe, 0, none⟩ = some (.pointer (some ⟨E, 0, none⟩))) (hE : RowIs W E 37 (entL e v1 v2 v3) []) (hA : EntAt W S e v1 v2 v3) (hS : ∀ b, S b → b ≠ E ∧ b ≠ pr) :
    Calls Tryz.prog 165 #[.pointer (some ⟨pe, 0, none⟩)] W fun r w' => r = .returned (I 0) ∧ Did W w' E pr S { e with items := [] } v1 := by
  obtain ⟨A3, n3, rfl, -, -⟩ := hA.items.form
  have hc := hE.cell (j := 3) rfl
  have hf := hE.frozen 3
  have HK := Lib.hid ((Kept2.refl W E pr).set1 (j := 3) (.slice none 0 0))
  have HE := Lib.hid (hE.set (j := 3) (by simp) (.slice none 0 0))
  have HA := Lib.hid (hA.kept HK.out hS)
  clear hE hA hS
  go_enter Tryz.func165, Tryz.ntmps165
  go_wp2_with fail
  go_ret
  exact ⟨rfl, _, _, HE.out, ⟨HA.out.seen.mono (by decide) fun b _ h => .inl h, HA.out.counts.mono (by decide) fun b _ h => .inl h, Sl.nil _ _ (by decide)⟩, HK.out⟩

set_option maxRecDepth 100000 in
set_option maxHeartbeats 1000000 in
/-- $8: OpWrite -/
theorem upd8_any {S : Nat → Prop} {W : World} {pa po pe pr E : Nat} {e : Entry} {v1 v2 v3 z : Value} {tx : Str}
    (hpa : W.cell? ⟨pa, 0, none⟩ = some (.func (.func 157) #[] #[.pointer (some ⟨pe, 0, none⟩), .pointer (some ⟨pr, 0, none⟩)])) (hpo : W.cell? ⟨po, 3, none⟩ = some (St tx))
    (hpe : W.cell? ⟨pe, 0, none⟩ = some (.pointer (some ⟨E, 0, none⟩))) (hr : RowIs W pr 38 [z] []) (hE : RowIs W E 37 (entL e v1 v2 v3) []) (hA : EntAt W S e v1 v2 v3) (hS : ∀ b, S b → b ≠ E ∧ b ≠ pr) (hpr : pr ≠ E) :
    Calls Tryz.prog 166 #[.pointer (some ⟨pa, 0, none⟩), .pointer (some ⟨po, 0, none⟩)] W fun r w' => r = .returned (I (writeC e.cell tx false).2) ∧ Did W w' E pr S { e with cell := (writeC e.cell tx false).1 } v1 := by
  have eg : ∀ args w, (callFunc 157 args).run Tryz.prog w = .ok (.enter 157 args) w := enters_of Tryz.func157 (by kernel_rfl) rfl
  have HC := Lib.hid (upd2_any tx false hpe hr hE hA hS hpr)
  clear hpe hr hE hA hS hpr
  go_enter Tryz.func166, Tryz.ntmps166
  go_wp2_with fail
  refine HC.out.mono ?_
  rintro r W1 ⟨rfl, hD⟩
  go_wp2_with fail
  go_ret
  exact ⟨rfl, hD⟩

set_option maxRecDepth 100000 in
set_option maxHeartbeats 1000000 in
/-- $9: a cell's OpDelete -/
theorem upd9_any {S : Nat → Prop} {W : World} {pa pe pr E : Nat} {e : Entry} {v1 v2 v3 z : Value}
    (hpa : W.cell? ⟨pa, 0, none⟩ = some (.func (.func 157) #[] #[.pointer (some ⟨pe, 0, none⟩), .pointer (some ⟨pr, 0, none⟩)]))
    (hpe : W.cell? ⟨pe, 0, none⟩ = some (.pointer (some ⟨E, 0, none⟩))) (hr : RowIs W pr 38 [z] []) (hE : RowIs W E 37 (entL e v1 v2 v3) []) (hA : EntAt W S e v1 v2 v3) (hS : ∀ b, S b → b ≠ E ∧ b ≠ pr) (hpr : pr ≠ E) :
    Calls Tryz.prog 167 #[.pointer (some ⟨pa, 0, none⟩)] W fun r w' => r = .returned (I (writeC e.cell [] true).2) ∧ Did W w' E pr S { e with cell := (writeC e.cell [] true).1 } v1 := by
  have eg : ∀ args w, (callFunc 157 args).run Tryz.prog w = .ok (.enter 157 args) w := enters_of Tryz.func157 (by kernel_rfl) rfl
  have HC := Lib.hid (upd2_any [] true hpe hr hE hA hS hpr)
  clear hpe hr hE hA hS hpr
  go_enter Tryz.func167, Tryz.ntmps167
  go_wp2_with fail
  refine HC.out.mono ?_
  rintro r W1 ⟨rfl, hD⟩
  go_wp2_with fail
  go_ret
  exact ⟨rfl, hD⟩

set_option maxRecDepth 100000 in
set_option maxHeartbeats 1000000 in
/-- $6: OpTake -/
theorem upd6_any {S : Nat → Prop} {W : World} {po pe pr E : Nat} {e : Entry} {v1 v2 v3 : Value} {tx : Str} (ho3 : W.cell? ⟨po, 3, none⟩ = some (St tx)) (hl : (placesL e.items).length ≤ 1099511627776)
    (hpe : W.cell? ⟨pe, 0, none⟩ = some (.pointer (some ⟨E, 0, none⟩))) (hE : RowIs W E 37 (entL e v1 v2 v3) []) (hA : EntAt W S e v1 v2 v3) (hS : ∀ b, S b → b ≠ E ∧ b ≠ pr) :
    Calls Tryz.prog 163 #[.pointer (some ⟨pe, 0, none⟩), .pointer (some ⟨po, 0, none⟩)] W fun r w' => r = .returned (I 0) ∧ Did W w' E pr S { e with items := takeB e.items tx } v1 := by
  obtain ⟨A1, n1, rfl, -, -⟩ := hA.seen.form
  obtain ⟨A2, n2, rfl, -, -⟩ := hA.counts.form
  obtain ⟨A3, n3, rfl, -, -⟩ := hA.items.form
  have HA := Lib.hid hA
  have HS := Lib.hid hS
  have hEl := hE.lt
  clear hA hS
  go_enter Tryz.func163, Tryz.ntmps163
  go_wp2_with fail
  refine wp_region_facts [fun v _ => v = .pointer (some ⟨E, 0, none⟩), fun v _ => v = .pointer (some ⟨E, 0, none⟩), fun v _ => v = .pointer (some ⟨E, 0, none⟩), fun v _ => v = .pointer (some ⟨E, 3, none⟩), fun v _ => v = .slice A3 e.items.length n3, fun v _ => v = .pointer (some ⟨po, 3, none⟩), fun v _ => v = St tx,
    fun v W2 => OwnL itemT 96 W2 W.heap.size (fun b => W.heap.size ≤ b) v (takeB e.items tx), fun v _ => v = .pointer (some ⟨E, 0, none⟩), fun v _ => v = .pointer (some ⟨E, 3, none⟩)] rfl (by kernel_rfl) ?hR ?hstep ?hend
  case hR =>
    simp only [List.mem_cons, List.not_mem_nil, or_false, forall_eq_or_imp, forall_eq]
    exact ⟨fun v _ _ h _ => h, fun v _ _ h _ => h, fun v _ _ h _ => h, fun v _ _ h _ => h, fun v _ _ h _ => h, fun v _ _ h _ => h, fun v _ _ h _ => h, fun v _ _ h he => h.ext he, fun v _ _ h _ => h, fun v _ _ h _ => h⟩
  case hstep =>
    simp only [List.length_cons, List.length_nil, Nat.reduceAdd, List.take_succ_cons, List.take_zero, stepsAll, and_true]
    refine ⟨?_, ?_, ?_, ?_, ?_, ?_, ?_, ?_, ?_, ?_⟩
    · intro x W1 he f
      have h : x 0 = .pointer (some ⟨pe, 0, none⟩) := f.1
      have hc := he.cell hpe
      go_wp
      exact stepQ_ok rfl (Ext.refl _)
    · intro x W1 he f
      have h : x 0 = .pointer (some ⟨pe, 0, none⟩) := f.1
      have hc := he.cell hpe
      go_wp
      exact stepQ_ok rfl (Ext.refl _)
    · intro x W1 he f
      have h : x 4 = .pointer (some ⟨E, 0, none⟩) := f.1
      go_wp
      exact stepQ_ok rfl (Ext.refl _)
    · intro x W1 he f
      have h : x 5 = .pointer (some ⟨E, 0, none⟩) := f.1
      go_wp
      exact stepQ_ok rfl (Ext.refl _)
    · intro x W1 he f
      have h : x 6 = .pointer (some ⟨E, 3, none⟩) := f.1
      have hc := (hE.ext he).cell (j := 3) rfl
      go_wp
      exact stepQ_ok rfl (Ext.refl _)
    · intro x W1 he f
      have h : x 1 = .pointer (some ⟨po, 0, none⟩) := f.1
      go_wp
      exact stepQ_ok rfl (Ext.refl _)
    · intro x W1 he f
      have h : x 8 = .pointer (some ⟨po, 3, none⟩) := f.1
      have hc := he.cell ho3
      go_wp
      exact stepQ_ok rfl (Ext.refl _)
    · intro x W1 he f
      have h1 : x 7 = .slice A3 e.items.length n3 := f.1
      have h2 : x 9 = St tx := f.2.1
      have hs := he.size
      have HC := Lib.hid (take_any tx (HA.out.items.ext (by decide) he) hl)
      go_wp
      refine HC.out.mono ?_
      rintro r W2 ⟨v4, rfl, ho, hx2⟩
      dsimp only
      go_wp
      exact stepQ_ok (v := v4) ((ho.lower hs).mono fun b _ h => Nat.le_trans hs h) hx2
    · intro x W1 he f
      have h : x 3 = .pointer (some ⟨E, 0, none⟩) := f.1
      go_wp
      exact stepQ_ok rfl (Ext.refl _)
    · intro x W1 he f
      have h : x 11 = .pointer (some ⟨E, 0, none⟩) := f.1
      go_wp
      exact stepQ_ok rfl (Ext.refl _)
  case hend =>
    intro x W1 he f
    have h12 : x 12 = .pointer (some ⟨E, 3, none⟩) := f.2.2.2.2.2.2.2.2.2.1
    have ho : OwnL itemT 96 W1 W.heap.size (fun b => W.heap.size ≤ b) (x 10) (takeB e.items tx) := f.2.2.2.2.2.2.2.1
    obtain ⟨A, c, hA, -, -⟩ := ho.form
    simp only [List.length_cons, List.length_nil, Nat.reduceAdd, List.take_succ_cons, List.take_zero, List.filterMap_cons, List.filterMap_nil, List.drop_succ_cons, List.drop_zero, putAll, Act.put, List.setIfInBounds_toArray, List.set_cons_succ, List.set_cons_zero, h12, hA]
    rw [hA] at ho
    have hEW := hE.ext he
    have hc := hEW.cell (j := 3) rfl
    have hf := hEW.frozen 3
    have HE := Lib.hid (hEW.set (j := 3) (by simp) (.slice A (takeB e.items tx).length c))
    have HK := Lib.hid ((he.kept E pr).set1 (j := 3) (.slice A (takeB e.items tx).length c))
    have HO := Lib.hid (ho.mvE (MvE.set E 3 W1 (.slice A (takeB e.items tx).length c)) hEl)
    clear f ho hEW
    go_wp
    go_wp2_with fail
    go_ret
    have hA9 := HA.out.kept HK.out HS.out
    exact ⟨rfl, _, _, HE.out, ⟨hA9.seen.mono (by decide) fun b _ h => .inl h, hA9.counts.mono (by decide) fun b _ h => .inl h, HO.out.sl (by decide) (fun b _ h => .inr h) (fun b h _ => .inr h)⟩, HK.out⟩
end Go.Proofs.YtdikcgmdmcfpfaaGreat
namespace Go.Proofs.YtdikcgmdmcfpfaaGreat
open Go.RowKit Go.Shelf

theorem store_new {P : Program} (w : World) (T : TypeId) (u v : Value) (h : v.oneCell' = true) (a : Nat) (ha : a = w.heap.size) : (store ⟨a, 0, none⟩ v).run P (w.alloc (.cells #[u] T)) = .ok () (w.alloc (.cells #[v] T)) := by
  subst ha
  have hc : (w.alloc (.cells #[u] T)).cell? ⟨w.heap.size, 0, none⟩ = some u := (box_new w u T).1
  have hf := (box_new w u T).2
  rw [run_store P _ _ v _ h, hc]
  simp only [hf, World.setCell_alloc_new]
  rfl

def clo (f : Nat) (l : List Nat) : Value := .func (.func f) #[] (l.map fun b => Value.pointer (some ⟨b, 0, none⟩)).toArray
abbrev M8 (o : Option Nat) : Value := .map o
abbrev V8 (v : Value) : Value := v

/-- what updates leaves: its boxes from B on, and its maps -/
structure UpdAt (w : World) (B E : Nat) (n : Int) (tx : Str) (d : Dot) (m : Nat) : Prop where
  pe : w.cell? ⟨B, 0, none⟩ = some (.pointer (some ⟨E, 0, none⟩))
  po2 : w.cell? ⟨B + 1, 2, none⟩ = some (I n)
  po3 : w.cell? ⟨B + 1, 3, none⟩ = some (St tx)
  d0 : w.cell? ⟨B + 2, 0, none⟩ = some (St d.1)
  d1 : w.cell? ⟨B + 2, 1, none⟩ = some (U d.2)
  err : RowIs w (B + 3) 38 [I 0] []
  c1 : w.cell? ⟨B + 4, 0, none⟩ = some (clo 155 [B, B + 2, B + 3])
  c2 : w.cell? ⟨B + 5, 0, none⟩ = some (clo 157 [B, B + 3])
  maps : ∃ m1 m2 m3, MapIs K8 M8 w m [(1, some m1), (2, some m2), (3, some m3)] ∧
    MapIs K8 V8 w m1 [(1, clo 159 [B + 4, B + 1]), (5, clo 160 [B, B + 4])] ∧
    MapIs K8 V8 w m2 [(2, clo 161 [B, B + 1, B + 2, B + 3]), (3, clo 163 [B, B + 1]), (5, clo 165 [B])] ∧
    MapIs K8 V8 w m3 [(4, clo 166 [B + 5, B + 1]), (5, clo 167 [B + 5])]

set_option maxRecDepth 100000 in
set_option maxHeartbeats 1000000 in
theorem updates_any {W : World} {E : Nat} (k : Str) (dO : Nat) (n : Int) (tx : Str) (d : Dot) :
    Calls Tryz.prog 94 #[.pointer (some ⟨E, 0, none⟩), .agg #[K8 dO, St k, I n, St tx], dotV d] W fun r w' => ∃ m, r = .returned (.map (some m)) ∧ UpdAt w' W.heap.size E n tx d m ∧ W.heap.size + 6 ≤ w'.heap.size ∧ Ext W w' := by
  have hmm := @run_makeMap Tryz.prog
  obtain ⟨B, hB⟩ : ∃ B, B = W.heap.size := ⟨_, rfl⟩
  have hs1 := store_new (P := Tryz.prog) ((((W.alloc (.cells #[.pointer (some ⟨E, 0, none⟩)] 143)).alloc (.cells #[K8 dO, St k, I n, St tx] 42)).alloc (.cells #[St d.1, U d.2] 97)).alloc (.cells #[I 0] 38)) 203 .nilFunc (.func (.func 155) #[] #[.pointer (some ⟨W.heap.size, 0, none⟩), .pointer (some ⟨W.heap.size + 1 + 1, 0, none⟩), .pointer (some ⟨W.heap.size + 1 + 1 + 1, 0, none⟩)]) rfl (W.heap.size + 1 + 1 + 1 + 1) (by simp)
  have hs2 := store_new (P := Tryz.prog) (((((W.alloc (.cells #[.pointer (some ⟨E, 0, none⟩)] 143)).alloc (.cells #[K8 dO, St k, I n, St tx] 42)).alloc (.cells #[St d.1, U d.2] 97)).alloc (.cells #[I 0] 38)).alloc (.cells #[(.func (.func 155) #[] #[.pointer (some ⟨W.heap.size, 0, none⟩), .pointer (some ⟨W.heap.size + 1 + 1, 0, none⟩), .pointer (some ⟨W.heap.size + 1 + 1 + 1, 0, none⟩)])] 203)) 206 .nilFunc (.func (.func 157) #[] #[.pointer (some ⟨W.heap.size, 0, none⟩), .pointer (some ⟨W.heap.size + 1 + 1 + 1, 0, none⟩)]) rfl (W.heap.size + 1 + 1 + 1 + 1 + 1) (by simp)
  obtain ⟨W5, hW5⟩ : ∃ W5, W5 = (((((W.alloc (.cells #[.pointer (some ⟨E, 0, none⟩)] 143)).alloc (.cells #[K8 dO, St k, I n, St tx] 42)).alloc (.cells #[St d.1, U d.2] 97)).alloc (.cells #[I 0] 38)).alloc (.cells #[(.func (.func 155) #[] #[.pointer (some ⟨W.heap.size, 0, none⟩), .pointer (some ⟨W.heap.size + 1 + 1, 0, none⟩), .pointer (some ⟨W.heap.size + 1 + 1 + 1, 0, none⟩)])] 203)).alloc (.cells #[.func (.func 157) #[] #[.pointer (some ⟨W.heap.size, 0, none⟩), .pointer (some ⟨W.heap.size + 1 + 1 + 1, 0, none⟩)]] 206) := ⟨_, rfl⟩
  have hz5 : W5.heap.size = W.heap.size + 1 + 1 + 1 + 1 + 1 + 1 := by rw [hW5]; simp
  have hx5 : Ext W W5 := by rw [hW5]; exact ((((((Ext.refl W).alloc _).alloc _).alloc _).alloc _).alloc _).alloc _
  have HU : Hid (∀ w, Ext W5 w → ∀ m, (∃ m1 m2 m3, MapIs K8 M8 w m [(1, some m1), (2, some m2), (3, some m3)] ∧
      MapIs K8 V8 w m1 [(1, clo 159 [B + 4, B + 1]), (5, clo 160 [B, B + 4])] ∧
      MapIs K8 V8 w m2 [(2, clo 161 [B, B + 1, B + 2, B + 3]), (3, clo 163 [B, B + 1]), (5, clo 165 [B])] ∧
      MapIs K8 V8 w m3 [(4, clo 166 [B + 5, B + 1]), (5, clo 167 [B + 5])]) → UpdAt w W.heap.size E n tx d m) := Lib.hid fun w hx m hmaps => by
    subst hB
    refine ⟨hx.cell ?_, hx.cell ?_, hx.cell ?_, hx.cell ?_, hx.cell ?_, RowIs.ext ?_ hx, hx.cell ?_, hx.cell ?_, hmaps⟩
    · rw [hW5]; simp [go_sem]
    · rw [hW5]; simp [go_sem]
    · rw [hW5]; simp [go_sem]
    · rw [hW5]; simp [go_sem]
    · rw [hW5]; simp [go_sem]
    · rw [hW5]
      have h := rowNew (((W.alloc (.cells #[.pointer (some ⟨E, 0, none⟩)] 143)).alloc (.cells #[K8 dO, St k, I n, St tx] 42)).alloc (.cells #[St d.1, U d.2] 97)) 38 [I 0]
      simp only [World.size_alloc] at h
      exact (h.alloc _).alloc _
    · rw [hW5]; simp [go_sem, clo]
    · rw [hW5]; simp [go_sem, clo]
  obtain ⟨z, hz⟩ : ∃ z, z = W5.heap.size := ⟨_, rfl⟩
  obtain ⟨Y1, hY1⟩ : ∃ Y1, Y1 = (W5.alloc (.map #[] 0)).alloc (.map #[] 0) := ⟨_, rfl⟩
  have hM : MapIs K8 M8 Y1 z [] := by rw [hY1, hz]; exact (MapIs.new W5).ext ((Ext.refl _).alloc _)
  have hM1 : MapIs K8 V8 Y1 (z + 1) [] := by have := MapIs.new (K := K8) (V := V8) (W5.alloc (.map #[] 0)); rw [World.size_alloc] at this; rw [hY1, hz]; exact this
  have hx1 : Ext W5 Y1 := by rw [hY1]; exact ((Ext.refl _).alloc _).alloc _
  have hzY : Y1.heap.size = z + 1 + 1 := by rw [hY1, hz]; simp
  obtain ⟨Xa, ua, ma, ta⟩ := run_update_MapIs (P := Tryz.prog) (t := 158) Tryz.underlying158 keyOk8 hM1 1 (clo 159 [B + 4, B + 1])
  obtain ⟨Xb, ub, mb, tb⟩ := run_update_MapIs (P := Tryz.prog) (t := 158) Tryz.underlying158 keyOk8 ma 5 (clo 160 [B, B + 4])
  obtain ⟨Xc, uc, mc, tc⟩ := run_update_MapIs (P := Tryz.prog) (t := 159) Tryz.underlying159 keyOk8 ((hM.turned ta (by omega)).turned tb (by omega)) 1 (some (z + 1))
  have hx2 := ((hx1.turned ta (by omega)).turned tb (by omega)).turned tc (by omega)
  have mb2 := mb.turned tc (by omega)
  have hzc : Xc.heap.size = z + 1 + 1 := by rw [tc.size, tb.size, ta.size, hzY]
  have hM2 := MapIs.new (K := K8) (V := V8) Xc
  have hy2 := (Ext.refl Xc).alloc (.map #[] 0)
  obtain ⟨Xd, ud, md, td⟩ := run_update_MapIs (P := Tryz.prog) (t := 158) Tryz.underlying158 keyOk8 hM2 2 (clo 161 [B, B + 1, B + 2, B + 3])
  obtain ⟨Xe, ue, me, te⟩ := run_update_MapIs (P := Tryz.prog) (t := 158) Tryz.underlying158 keyOk8 md 3 (clo 163 [B, B + 1])
  obtain ⟨Xf, uf, mf, tf⟩ := run_update_MapIs (P := Tryz.prog) (t := 158) Tryz.underlying158 keyOk8 me 5 (clo 165 [B])
  obtain ⟨Xg, ug, mg, tg⟩ := run_update_MapIs (P := Tryz.prog) (t := 159) Tryz.underlying159 keyOk8 ((((mc.ext hy2).turned td (by omega)).turned te (by omega)).turned tf (by omega)) 2 (some Xc.heap.size)
  have hx3 := ((((hx2.trans hy2).turned td (by omega)).turned te (by omega)).turned tf (by omega)).turned tg (by omega)
  have mb3 := ((((mb2.ext hy2).turned td (by omega)).turned te (by omega)).turned tf (by omega)).turned tg (by omega)
  have mf2 := mf.turned tg (by omega)
  have hzg : Xg.heap.size = z + 1 + 1 + 1 := by rw [tg.size, tf.size, te.size, td.size, World.size_alloc, hzc]
  have hM3 := MapIs.new (K := K8) (V := V8) Xg
  have hy3 := (Ext.refl Xg).alloc (.map #[] 0)
  obtain ⟨Xh, uh, mh, th⟩ := run_update_MapIs (P := Tryz.prog) (t := 158) Tryz.underlying158 keyOk8 hM3 4 (clo 166 [B + 5, B + 1])
  obtain ⟨Xi, ui, mi, ti⟩ := run_update_MapIs (P := Tryz.prog) (t := 158) Tryz.underlying158 keyOk8 mh 5 (clo 167 [B + 5])
  obtain ⟨Xj, uj, mj, tj⟩ := run_update_MapIs (P := Tryz.prog) (t := 159) Tryz.underlying159 keyOk8 (((mg.ext hy3).turned th (by omega)).turned ti (by omega)) 3 (some Xg.heap.size)
  have hx4 := (((hx3.trans hy3).turned th (by omega)).turned ti (by omega)).turned tj (by omega)
  have mb4 := (((mb3.ext hy3).turned th (by omega)).turned ti (by omega)).turned tj (by omega)
  have mf3 := (((mf2.ext hy3).turned th (by omega)).turned ti (by omega)).turned tj (by omega)
  have mi2 := mi.turned tj (by omega)
  have HR := Lib.hid (HU.out Xj hx4 z ⟨z + 1, Xc.heap.size, Xg.heap.size, mj, mb4, mf3, mi2⟩)
  have HX := Lib.hid (hx5.trans hx4)
  have HZ := Lib.hid (show W.heap.size + 6 ≤ Xj.heap.size by have := hx4.size; omega)
  subst hB
  have ua' : (Instr.mapUpdate 158 (.map (some (z + 1))) (.int .u8 1) (.func (.func 159) #[] #[.pointer (some ⟨W.heap.size + 1 + 1 + 1 + 1, 0, none⟩), .pointer (some ⟨W.heap.size + 1, 0, none⟩)])).run Tryz.prog Y1 = .ok () Xa := ua
  have ub' : (Instr.mapUpdate 158 (.map (some (z + 1))) (.int .u8 5) (.func (.func 160) #[] #[.pointer (some ⟨W.heap.size, 0, none⟩), .pointer (some ⟨W.heap.size + 1 + 1 + 1 + 1, 0, none⟩)])).run Tryz.prog Xa = .ok () Xb := ub
  have uc' : (Instr.mapUpdate 159 (.map (some z)) (.int .u8 1) (.map (some (z + 1)))).run Tryz.prog Xb = .ok () Xc := uc
  have ud' : (Instr.mapUpdate 158 (.map (some Xc.heap.size)) (.int .u8 2) (.func (.func 161) #[] #[.pointer (some ⟨W.heap.size, 0, none⟩), .pointer (some ⟨W.heap.size + 1, 0, none⟩), .pointer (some ⟨W.heap.size + 1 + 1, 0, none⟩), .pointer (some ⟨W.heap.size + 1 + 1 + 1, 0, none⟩)])).run Tryz.prog (Xc.alloc (.map #[] 0)) = .ok () Xd := ud
  have ue' : (Instr.mapUpdate 158 (.map (some Xc.heap.size)) (.int .u8 3) (.func (.func 163) #[] #[.pointer (some ⟨W.heap.size, 0, none⟩), .pointer (some ⟨W.heap.size + 1, 0, none⟩)])).run Tryz.prog Xd = .ok () Xe := ue
  have uf' : (Instr.mapUpdate 158 (.map (some Xc.heap.size)) (.int .u8 5) (.func (.func 165) #[] #[.pointer (some ⟨W.heap.size, 0, none⟩)])).run Tryz.prog Xe = .ok () Xf := uf
  have ug' : (Instr.mapUpdate 159 (.map (some z)) (.int .u8 2) (.map (some Xc.heap.size))).run Tryz.prog Xf = .ok () Xg := ug
  have uh' : (Instr.mapUpdate 158 (.map (some Xg.heap.size)) (.int .u8 4) (.func (.func 166) #[] #[.pointer (some ⟨W.heap.size + 1 + 1 + 1 + 1 + 1, 0, none⟩), .pointer (some ⟨W.heap.size + 1, 0, none⟩)])).run Tryz.prog (Xg.alloc (.map #[] 0)) = .ok () Xh := uh
  have ui' : (Instr.mapUpdate 158 (.map (some Xg.heap.size)) (.int .u8 5) (.func (.func 167) #[] #[.pointer (some ⟨W.heap.size + 1 + 1 + 1 + 1 + 1, 0, none⟩)])).run Tryz.prog Xh = .ok () Xi := ui
  have uj' : (Instr.mapUpdate 159 (.map (some z)) (.int .u8 3) (.map (some Xg.heap.size))).run Tryz.prog Xi = .ok () Xj := uj
  clear ua ub uc ud ue uf ug uh ui uj ma mb mc md me mf mg mh mi mj mb2 mb3 mb4 mf2 mf3 mi2 ta tb tc td te tf tg th ti tj hx1 hx2 hx3 hx4 hy2 hy3 hM hM1 hM2 hM3 hzc hzg hzY hx5 HU
  rw [hz, hz5] at *
  rw [hY1, hW5] at ua'
  clear hY1 hW5
  go_enter Tryz.func94, Tryz.ntmps94
  go_wp2_with fail
  go_ret
  exact ⟨_, rfl, HR.out, HZ.out, HX.out⟩
end Go.Proofs.YtdikcgmdmcfpfaaGreat
