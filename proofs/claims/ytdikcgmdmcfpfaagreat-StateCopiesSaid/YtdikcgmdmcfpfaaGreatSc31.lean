/- Contracts of the functions that the statement goes through, and plain laws of them. -/
import Derived.Test.YtdikcgmdmcfpfaaGreatSc26
import Derived.Test.YtdikcgmdmcfpfaaGreatSc30
set_option linter.unusedVariables false
set_option linter.unusedSimpArgs false
set_option linter.unusedSectionVars false
namespace Go.Proofs.YtdikcgmdmcfpfaaGreat
open Go.RowKit Go.Shelf
set_option maxRecDepth 100000 in
set_option maxHeartbeats 2000000 in
theorem copySF_any {S : Nat → Prop} {s : State} {v1 v2 v3 : Value} {w : World} (h : StAt w S s v1 v2 v3) (sm : SmallS s) :
   Calls Tryz.prog 28 #[stV v1 v2 v3] w fun r w' => ∃ u1 u2 u3, r = .returned (stV u1 u2 u3) ∧ StNewF w' w.heap.size s u1 u2 u3 ∧ Ext w w' := by
 obtain ⟨sa, se, sp⟩ := s
 obtain ⟨A1, n1, rfl, -, -⟩ := h.all.form
 obtain ⟨A2, n2, rfl, -, -⟩ := h.entries.form
 obtain ⟨A3, n3, rfl, -, -⟩ := h.pruned.form
 have h' := h.entries
 have HAT := Lib.hid (fun (pre post : List Entry) (m : Entry) (wr : World) (hx : Ext w wr) (hl : se = pre ++ m :: post) => entry_at h' hx hl)
 have H := Lib.hid h
 have SM := Lib.hid sm
 have hx0 := ((Ext.refl w).alloc (.cells #[.slice A1 sa.length n1, .slice A2 se.length n2, .slice A3 sp.length n3] 30)).alloc (.cells #[.slice none 0 0, .slice none 0 0, .slice none 0 0] 30)
 have rB0 := (rowNew w 30 [.slice A1 sa.length n1, .slice A2 se.length n2, .slice A3 sp.length n3]).alloc (.cells #[.slice none 0 0, .slice none 0 0, .slice none 0 0] 30)
 have rR0 := rowNew (w.alloc (.cells #[.slice A1 sa.length n1, .slice A2 se.length n2, .slice A3 sp.length n3] 30)) 30 [.slice none 0 0, .slice none 0 0, .slice none 0 0]
 rw [World.size_alloc] at rR0
 have hz0 : w.heap.size + 2 ≤ ((w.alloc (.cells #[.slice A1 sa.length n1, .slice A2 se.length n2, .slice A3 sp.length n3] 30)).alloc (.cells #[.slice none 0 0, .slice none 0 0, .slice none 0 0] 30)).heap.size := by simp
 clear h h' sm
 go_enter Tryz.func28, Tryz.ntmps28
 go_wp2_with fail
 generalize (w.alloc (.cells #[.slice A1 sa.length n1, .slice A2 se.length n2, .slice A3 sp.length n3] 30)).alloc (.cells #[.slice none 0 0, .slice none 0 0, .slice none 0 0] 30) = W0 at *
 refine wp_region_facts [fun v _ => v = .pointer (some ⟨w.heap.size, 0, none⟩), fun v _ => v = .slice A1 sa.length n1, fun v W => Own W W0.heap.size 25 2 v sa.length (sa.flatMap markC),
   fun v _ => v = .pointer (some ⟨w.heap.size, 2, none⟩), fun v _ => v = .slice A3 sp.length n3, fun v W => Own W W0.heap.size 9 1 v sp.length (sp.flatMap strC),
   fun v W => ∃ u1 u3, v = .agg #[u1, .slice none 0 0, u3] ∧ Own W W0.heap.size 25 2 u1 sa.length (sa.flatMap markC) ∧ Own W W0.heap.size 9 1 u3 sp.length (sp.flatMap strC),
   fun v W => ∃ g, v = .pointer (some ⟨g, 0, none⟩) ∧ W0.heap.size ≤ g ∧ RowIs W g 30 [.slice none 0 0, .slice none 0 0, .slice none 0 0] []] rfl (by kernel_rfl) ?hR ?hstep ?hend
 case hR =>
   simp only [List.mem_cons, List.not_mem_nil, or_false, forall_eq_or_imp, forall_eq]
   exact ⟨fun v _ _ h _ => h, fun v _ _ h _ => h, fun v _ _ h he => h.ext he, fun v _ _ h _ => h, fun v _ _ h _ => h, fun v _ _ h he => h.ext he, fun v _ _ h he => by obtain ⟨u1, u3, e, a, b⟩ := h; exact ⟨u1, u3, e, a.ext he, b.ext he⟩,
     fun v _ _ h he => by obtain ⟨g, e, a, b⟩ := h; exact ⟨g, e, a, b.ext he⟩⟩
 case hstep =>
   simp only [List.length_cons, List.length_nil, Nat.reduceAdd, List.take_succ_cons, List.take_zero, stepsAll, and_true]
   refine ⟨?_, ?_, ?_, ?_, ?_, ?_, ?_, ?_⟩
   · intro x W he f
     have h : x 1 = .pointer (some ⟨w.heap.size, 0, none⟩) := f.1
     go_wp
     exact stepQ_ok rfl (Ext.refl _)
   · intro x W he f
     have h : x 6 = .pointer (some ⟨w.heap.size, 0, none⟩) := f.1
     have hc := (rB0.ext he).cell (j := 0) rfl
     go_wp
     exact stepQ_ok rfl (Ext.refl _)
   · intro x W he f
     have h : x 7 = .slice A1 sa.length n1 := f.1
     have hs := he.size
     have HC := Lib.hid (clone_mark (H.out.all.ext (by decide) (hx0.trans he)) (Nat.le_trans SM.out.all (by decide)))
     go_wp
     refine HC.out.mono ?_
     rintro r W2 ⟨v, rfl, hv, hx2⟩
     dsimp only
     go_wp
     refine stepQ_ok (v := v) ?_ hx2
     exact (own_markT.1 hv).lower hs
   · intro x W he f
     have h : x 1 = .pointer (some ⟨w.heap.size, 0, none⟩) := f.1
     go_wp
     exact stepQ_ok rfl (Ext.refl _)
   · intro x W he f
     have h : x 9 = .pointer (some ⟨w.heap.size, 2, none⟩) := f.1
     have hc := (rB0.ext he).cell (j := 2) rfl
     go_wp
     exact stepQ_ok rfl (Ext.refl _)
   · intro x W he f
     have h : x 10 = .slice A3 sp.length n3 := f.1
     have hs := he.size
     have HC := Lib.hid (clone_str (H.out.pruned.ext (by decide) (hx0.trans he)) (Nat.le_trans SM.out.pruned (by decide)))
     go_wp
     refine HC.out.mono ?_
     rintro r W2 ⟨v, rfl, hv, hx2⟩
     dsimp only
     go_wp
     refine stepQ_ok (v := v) ?_ hx2
     exact (OwnL.flat_iff.1 hv).lower hs
   · intro x W he f
     have h1 : Own W W0.heap.size 25 2 (x 8) sa.length (sa.flatMap markC) := f.1
     have h2 : Own W W0.heap.size 9 1 (x 11) sp.length (sp.flatMap strC) := f.2.1
     obtain ⟨B1, m1, e1, -, -⟩ := h1.form
     obtain ⟨B3, m3, e3, -, -⟩ := h2.form
     rw [e1] at h1
     rw [e3] at h2
     go_wp
     exact stepQ_ok (v := .agg #[.slice B1 sa.length m1, .slice none 0 0, .slice B3 sp.length m3]) ⟨_, _, rfl, h1, h2⟩ (Ext.refl _)
   · intro x W he f
     have hs := he.size
     have hrow := rowNew W 30 [.slice none 0 0, .slice none 0 0, .slice none 0 0]
     go_wp
     exact stepQ_ok ⟨W.heap.size, rfl, hs, hrow⟩ ((Ext.refl W).alloc _)
 case hend =>
   intro x W he f
   obtain ⟨g, h3, hgb, hg⟩ : ∃ g, x 3 = .pointer (some ⟨g, 0, none⟩) ∧ W0.heap.size ≤ g ∧ RowIs W g 30 [.slice none 0 0, .slice none 0 0, .slice none 0 0] [] := f.2.2.2.2.2.2.2.1
   obtain ⟨u1, u3, h12, ho1, ho3⟩ : ∃ u1 u3, x 12 = .agg #[u1, .slice none 0 0, u3] ∧ Own W W0.heap.size 25 2 u1 sa.length (sa.flatMap markC) ∧ Own W W0.heap.size 9 1 u3 sp.length (sp.flatMap strC) := f.2.2.2.2.2.2.1
   clear f
   obtain ⟨B1, m1, rfl, -, -⟩ := ho1.form
   obtain ⟨B3, m3, rfl, -, -⟩ := ho3.form
   simp only [List.length_cons, List.length_nil, Nat.reduceAdd, List.take_succ_cons, List.take_zero, List.filterMap_cons, List.filterMap_nil, List.drop_succ_cons, List.drop_zero, putAll, Act.put, List.setIfInBounds_toArray, List.set_cons_succ, List.set_cons_zero, h3, h12]
   have hg0 := hg.cell (j := 0) rfl
   have hg1 := hg.cell (j := 1) rfl
   have hg2 := hg.cell (j := 2) rfl
   have hf0 := hg.frozen 0
   have hf1 := hg.frozen 1
   have hf2 := hg.frozen 2
   have hS := ((hg.set (j := 0) (by simp) (.slice B1 sa.length m1)).set (j := 1) (by simp) (.slice none 0 0)).set (j := 2) (by simp) (.slice B3 sp.length m3)
   simp only [List.set_cons_succ, List.set_cons_zero] at hS
   have hk : ∀ b, b ≠ g → (((W.setCell ⟨g, 0, none⟩ (.slice B1 sa.length m1)).setCell ⟨g, 1, none⟩ (.slice none 0 0)).setCell ⟨g, 2, none⟩ (.slice B3 sp.length m3)).heap[b]? = W.heap[b]? := fun b hb =>
     ((Below.heap_setCell _ _ _ _ hb).trans (Below.heap_setCell _ _ _ _ hb)).trans (Below.heap_setCell _ _ _ _ hb)
   have HO1 := Lib.hid ((ho1.keep (w' := ((W.setCell ⟨g, 0, none⟩ (.slice B1 sa.length m1)).setCell ⟨g, 1, none⟩ (.slice none 0 0)).setCell ⟨g, 2, none⟩ (.slice B3 sp.length m3)) fun b hb _ => hk b (fun e => by subst e; exact ho1.apart hg (by decide) hb)).lower hz0)
   have HO3 := Lib.hid ((ho3.keep (w' := ((W.setCell ⟨g, 0, none⟩ (.slice B1 sa.length m1)).setCell ⟨g, 1, none⟩ (.slice none 0 0)).setCell ⟨g, 2, none⟩ (.slice B3 sp.length m3)) fun b hb _ => hk b (fun e => by subst e; exact ho3.apart hg (by decide) hb)).lower hz0)
   have HS := Lib.hid hS
   have hx1 := (((hx0.trans he).set (p := ⟨g, 0, none⟩) (by simp; omega) (.slice B1 sa.length m1)).set (p := ⟨g, 1, none⟩) (by simp; omega) (.slice none 0 0)).set (p := ⟨g, 2, none⟩) (by simp; omega) (.slice B3 sp.length m3)
   have HB := Lib.hid ((rB0.ext he).keep (w' := ((W.setCell ⟨g, 0, none⟩ (.slice B1 sa.length m1)).setCell ⟨g, 1, none⟩ (.slice none 0 0)).setCell ⟨g, 2, none⟩ (.slice B3 sp.length m3)) (hk _ (by omega)))
   have HR := Lib.hid ((rR0.ext he).keep (w' := ((W.setCell ⟨g, 0, none⟩ (.slice B1 sa.length m1)).setCell ⟨g, 1, none⟩ (.slice none 0 0)).setCell ⟨g, 2, none⟩ (.slice B3 sp.length m3)) (hk _ (by omega)))
   have b1 := HB.out.cell (j := 1) rfl
   have b1o := (rB0.ext he).cell (j := 1) rfl
   have HX1 := Lib.hid hx1
   clear ho1 ho3 hS hx1 hg he
   go_wp
   go_wp2_with fail
   generalize ((W.setCell ⟨g, 0, none⟩ (.slice B1 sa.length m1)).setCell ⟨g, 1, none⟩ (.slice none 0 0)).setCell ⟨g, 2, none⟩ (.slice B3 sp.length m3) = W1 at *
   have hgw := HS.out.lt
   go_loopw [16] (fun i wr => ∃ pre post vE, se = pre ++ post ∧ i = I pre.length ∧ Hid (RowIs wr g 30 [.slice B1 sa.length m1, vE, .slice B3 sp.length m3] [] ∧ Own wr (w.heap.size + 2) 25 2 (.slice B1 sa.length m1) sa.length (sa.flatMap markC) ∧ Own wr (w.heap.size + 2) 9 1 (.slice B3 sp.length m3) sp.length (sp.flatMap strC) ∧
     RowF wr (w.heap.size + 2) g vE pre ∧ RowIs wr (w.heap.size + 1) 30 [.slice none 0 0, .slice none 0 0, .slice none 0 0] []) ∧ Ext w wr) (fun i _ => se.length - (intOf i).toNat)
   case atStart => exact ⟨[], se, .slice none 0 0, rfl, rfl, Lib.hid ⟨HS.out, HO1.out, HO3.out, RowF.nil _ _ _ _, HR.out⟩, HX1.out⟩
   case round =>
     obtain ⟨pre, post, vE, hl, rfl, hI, hx⟩ := hrel
     cases post with
     | cons m post =>
       obtain ⟨b, o, a1, a2, a3, rfl, e0, e1, e2, e3, e4, e5, e6, hEA⟩ := HAT.out pre post m wr hx hl
       obtain ⟨C1, c1, rfl, -, -⟩ := hEA.seen.form
       obtain ⟨C2, c2, rfl, -, -⟩ := hEA.counts.form
       obtain ⟨C3, c3, rfl, -, -⟩ := hEA.items.form
       have hlt : pre.length < se.length := by rw [hl]; simp
       have HL := Lib.hid hl
       have hsm := SM.out.each m (by show m ∈ se; rw [hl]; simp)
       have hse : se.length ≤ 549755813888 := SM.out.entries
       have HEA := Lib.hid (hEA.ext hx)
       clear hl hEA
       go_wp2_with fail
       obtain ⟨hg, ho1, ho3, hE, hR⟩ := hI.out
       have hxb := (Ext.refl wr).alloc (.cells #[St m.key, .slice C1 m.seen.length c1, .slice C2 m.counts.length c2, .slice C3 m.items.length c3, U m.cell.1, St m.cell.2.1, .bool m.cell.2.2] 37)
       have rb := rowNew wr 37 [St m.key, .slice C1 m.seen.length c1, .slice C2 m.counts.length c2, .slice C3 m.items.length c3, U m.cell.1, St m.cell.2.1, .bool m.cell.2.2]
       have hgb := hg.ext hxb
       have ho1b := ho1.ext hxb
       have ho3b := ho3.ext hxb
       have hEb := hE.ext hxb
       have hRb := hR.ext hxb
       have hEAb := HEA.out.ext hxb
       have hxwb := hx.trans hxb
       obtain ⟨AE, cE, rfl, -, -⟩ := hE.form
       generalize hWb : wr.alloc (.cells #[St m.key, .slice C1 m.seen.length c1, .slice C2 m.counts.length c2, .slice C3 m.items.length c3, U m.cell.1, St m.cell.2.1, .bool m.cell.2.2] 37) = Wb at *
       clear hg ho1 ho3 hE hR hI HEA hxb hWb e0 e1 e2 e3 e4 e5 e6
       have hgl := hgb.lt
       have hEl : ∀ b, ownBlk (.slice AE pre.length cE) b → b < Wb.heap.size := fun b hb => (hEb.base_le hb).2
       obtain ⟨xE, hoE⟩ := hEb.own
       have hEg : ¬ ownBlk (.slice AE pre.length cE) g := hoE.apart hgb (by decide)
       refine wp_region_facts3 [.early (fun v _ => v = .pointer (some ⟨g, 1, none⟩)), .early (fun v _ => v = .slice AE pre.length cE), .early (fun v _ => v = entV m (.slice C1 m.seen.length c1) (.slice C2 m.counts.length c2) (.slice C3 m.items.length c3)),
         .early (fun v W => ∃ u1 u2 u3, v = entV m u1 u2 u3 ∧ EntNew W Wb.heap.size m u1 u2 u3),
         .early (fun v W => ∃ h u1 u2 u3, v = .slice (some ⟨h, 0, none⟩) 1 1 ∧ Wb.heap.size ≤ h ∧ RowIs W h 37 (entL m u1 u2 u3) [] ∧ EntNew W Wb.heap.size m u1 u2 u3),
         .move (fun v W => RowF W (w.heap.size + 2) g v (pre ++ [m])), .late (fun v _ => v = .pointer (some ⟨g, 1, none⟩))] 5 (fun W => Ext Wb W) (fun W => Moved (.slice AE pre.length cE) Wb W) Ext (MvR (.slice AE pre.length cE)) rfl (by kernel_rfl) (by kernel_rfl) ?hR ?hRq ?hJ ?hstep ?hend
       case hR =>
         simp only [List.mem_cons, List.not_mem_nil, or_false, forall_eq_or_imp, forall_eq, HF.fact]
         exact ⟨fun v _ _ h _ => h, fun v _ _ h _ => h, fun v _ _ h _ => h, fun v _ _ h he => by obtain ⟨u1, u2, u3, e, a⟩ := h; exact ⟨u1, u2, u3, e, a.ext he⟩, fun v _ _ h he => by obtain ⟨k, u1, u2, u3, e, a, b, c⟩ := h; exact ⟨k, u1, u2, u3, e, a, b.ext he, c.ext he⟩, fun v _ _ h he => h.ext he, fun v _ _ h _ => h⟩
       case hRq =>
         simp only [List.mem_cons, List.not_mem_nil, or_false, forall_eq_or_imp, forall_eq, HF.fact, HF.isStore]
         exact ⟨fun _ v _ _ h _ => h, fun _ v _ _ h _ => h, fun _ v _ _ h _ => h, fun _ v _ _ h he => by obtain ⟨u1, u2, u3, e, a⟩ := h; exact ⟨u1, u2, u3, e, a.mvR he hEl⟩,
           fun _ v _ _ h he => by obtain ⟨k, u1, u2, u3, e, a, b, c⟩ := h; exact ⟨k, u1, u2, u3, e, a, b.mvR he (fun ho => by have := hEl k ho; omega), c.mvR he hEl⟩, fun h => (by cases h), fun _ v _ _ h _ => h⟩
       case hJ => exact (Ext.refl Wb).drew
       case hstep =>
         simp only [List.length_cons, List.length_nil, Nat.reduceAdd, List.take_succ_cons, List.take_zero, stepsAll3, and_true]
         refine ⟨?_, ?_, ?_, ?_, ?_, ?_, ?_⟩
         · intro x W hj f
           have h : x 3 = .pointer (some ⟨g, 0, none⟩) := f.1
           go_wp
           exact stepQ2_ok rfl ⟨hj, Ext.refl _⟩
         · intro x W hj f
           have h : x 20 = .pointer (some ⟨g, 1, none⟩) := f.1
           have hc := (hgb.ext hj).cell (j := 1) rfl
           go_wp
           exact stepQ2_ok rfl ⟨hj, Ext.refl _⟩
         · intro x W hj f
           have h : x 5 = .pointer (some ⟨wr.heap.size, 0, none⟩) := f.1
           have q0 := (rb.ext hj).cell (j := 0) rfl
           have q1 := (rb.ext hj).cell (j := 1) rfl
           have q2 := (rb.ext hj).cell (j := 2) rfl
           have q3 := (rb.ext hj).cell (j := 3) rfl
           have q4 := (rb.ext hj).cell (j := 4) rfl
           have q5 := (rb.ext hj).cell (j := 5) rfl
           have q6 := (rb.ext hj).cell (j := 6) rfl
           go_wp
           exact stepQ2_ok rfl ⟨hj, Ext.refl _⟩
         · intro x W hj f
           have h : x 22 = entV m (.slice C1 m.seen.length c1) (.slice C2 m.counts.length c2) (.slice C3 m.items.length c3) := f.1
           have hs := hj.size
           have HC := Lib.hid (copyE_any (hEAb.ext hj) (Nat.le_trans hsm.seen (by decide)) (Nat.le_trans hsm.counts (by decide)) (Nat.le_trans hsm.items (by decide)) (fun it hit => Nat.le_trans (hsm.dots it hit) (by decide)))
           go_wp
           refine HC.out.mono ?_
           rintro r W2 ⟨u1, u2, u3, rfl, hn, hx2⟩
           dsimp only
           go_wp
           exact stepQ2_ok (v := entV m u1 u2 u3) ⟨u1, u2, u3, rfl, hn.lower hs⟩ ⟨hj.trans hx2, hx2⟩
         · intro x W hj f
           obtain ⟨u1, u2, u3, h, hn⟩ : ∃ u1 u2 u3, x 23 = entV m u1 u2 u3 ∧ EntNew W Wb.heap.size m u1 u2 u3 := f.1
           have hs := hj.size
           obtain ⟨D1, d1, rfl, -, -⟩ := hn.seen.form
           obtain ⟨D2, d2, rfl, -, -⟩ := hn.counts.form
           obtain ⟨D3, d3, rfl, -, -⟩ := hn.items.form
           have hrow := rowNew W 37 (entL m (.slice D1 m.seen.length d1) (.slice D2 m.counts.length d2) (.slice D3 m.items.length d3))
           have hxa := (Ext.refl W).alloc (.cells (entL m (.slice D1 m.seen.length d1) (.slice D2 m.counts.length d2) (.slice D3 m.items.length d3)).toArray 37)
           go_wp
           exact stepQ2_ok (v := .slice (some ⟨W.heap.size, 0, none⟩) 1 1) ⟨W.heap.size, _, _, _, rfl, hs, hrow, hn.ext hxa⟩ ⟨hj.trans hxa, hxa⟩
         · intro x W hj f
           have h21 : x 21 = .slice AE pre.length cE := f.1
           obtain ⟨k, u1, u2, u3, h24, hk, hrow, hn⟩ : ∃ h u1 u2 u3, x 24 = .slice (some ⟨h, 0, none⟩) 1 1 ∧ Wb.heap.size ≤ h ∧ RowIs W h 37 (entL m u1 u2 u3) [] ∧ EntNew W Wb.heap.size m u1 u2 u3 := f.2.1
           have hs := hj.size
           have hone := entL_one (hn.rd (S := fun _ => True) (fun _ _ _ => trivial))
           obtain ⟨vss, g1, g2, g3⟩ := hEb.ext hj
           refine wpList_append_Own rfl (.tmp 21) (.tmp 24) 27 rfl (w.heap.size + 2) 37 7 120 zeroEnt Tryz.underlying27 info_entry rfl (by omega) (.slice AE pre.length cE) pre.length vss.flatten (by simp [go_sem, h21]) g3 (some ⟨k, 0, none⟩) 1 1 (entL m u1 u2 u3) (by simp [go_sem, h24])
             ⟨by simp, hone, fun _ => ⟨k, 0, rfl, fun j u hj => by rw [Nat.zero_add]; exact hrow.cell hj⟩⟩ (by omega) (by omega) (by omega) ?_
           intro v' w' hown hgr
           exact stepQ2_ok (RowF.snoc g1 g2 hn hEl hgl (by omega) hown hgr) ⟨Grew.moved hj hgr, hgr.size, hgr.same⟩
         · intro x W b hj f
           have h : x 3 = .pointer (some ⟨g, 0, none⟩) := f.1
           go_wp
           exact stepQ2_ok rfl ⟨hj, Ext.refl _⟩
       case hend =>
         intro x W hj f
         have h25 : RowF W (w.heap.size + 2) g (x 25) (pre ++ [m]) := f.2.2.2.2.2.1
         have h26 : x 26 = .pointer (some ⟨g, 1, none⟩) := f.2.2.2.2.2.2.1
         clear f
         obtain ⟨AF, cF, hF, -, -⟩ := h25.form
         rw [show (pre ++ [m]).length = pre.length + 1 by simp] at hF
         simp only [List.length_cons, List.length_nil, Nat.reduceAdd, List.take_succ_cons, List.take_zero, List.filterMap_cons, List.filterMap_nil, List.drop_succ_cons, List.drop_zero, putAll, Act.put, List.setIfInBounds_toArray, List.set_cons_succ, List.set_cons_zero, h26, hF]
         rw [hF] at h25
         have hgW := hgb.mvR hj.mv hEg
         have hRW := hRb.mvR hj.mv (hoE.apart hRb (by decide))
         have ho1W := ho1b.mvR hj.mv (ho1b.apart2 hoE (by decide))
         have ho3W := ho3b.mvR hj.mv (ho3b.apart2 hoE (by decide))
         have hxW := hxwb.moved hj (fun b hb => by have := (hEb.base_le hb).1; omega)
         have hc := hgW.cell (j := 1) rfl
         have hf := hgW.frozen 1
         have hgS := hgW.set (j := 1) (by simp) (.slice AF (pre.length + 1) cF)
         simp only [List.set_cons_succ, List.set_cons_zero] at hgS
         have HI := Lib.hid (show RowIs (W.setCell ⟨g, 1, none⟩ (.slice AF (pre.length + 1) cF)) g 30 [.slice B1 sa.length m1, .slice AF (pre.length + 1) cF, .slice B3 sp.length m3] [] ∧ Own (W.setCell ⟨g, 1, none⟩ (.slice AF (pre.length + 1) cF)) (w.heap.size + 2) 25 2 (.slice B1 sa.length m1) sa.length (sa.flatMap markC) ∧ Own (W.setCell ⟨g, 1, none⟩ (.slice AF (pre.length + 1) cF)) (w.heap.size + 2) 9 1 (.slice B3 sp.length m3) sp.length (sp.flatMap strC) ∧
           RowF (W.setCell ⟨g, 1, none⟩ (.slice AF (pre.length + 1) cF)) (w.heap.size + 2) g (.slice AF (pre.length + 1) cF) (pre ++ [m]) ∧ RowIs (W.setCell ⟨g, 1, none⟩ (.slice AF (pre.length + 1) cF)) (w.heap.size + 1) 30 [.slice none 0 0, .slice none 0 0, .slice none 0 0] [] from
           ⟨hgS, ho1W.keep fun b hb _ => Below.heap_setCell _ _ _ _ (fun e => ho1W.apart hgW (by decide) (by have e2 : b = g := e; rw [← e2]; exact hb)), ho3W.keep fun b hb _ => Below.heap_setCell _ _ _ _ (fun e => ho3W.apart hgW (by decide) (by have e2 : b = g := e; rw [← e2]; exact hb)),
             h25.set hgW (by decide), hRW.other (by simp; omega) _⟩)
         have HXW := Lib.hid (hxW.set (p := ⟨g, 1, none⟩) (by simp; omega) (.slice AF (pre.length + 1) cF))
         clear h25 hgS hgW hRW ho1W ho3W hxW hgb hRb ho1b ho3b hEb hoE hEAb rb
         go_wp
         exact ⟨⟨pre ++ [m], post, _, by rw [HL.out]; simp, by simp, HI, HXW.out⟩, by simp [intOf]; omega⟩
     | nil =>
       rw [List.append_nil] at hl
       subst hl
       obtain ⟨hg, ho1, ho3, hE, hR⟩ := hI.out
       obtain ⟨AE, cE, rfl, -, -⟩ := hE.form
       have k0 := hg.cell (j := 0) rfl
       have k1 := hg.cell (j := 1) rfl
       have k2 := hg.cell (j := 2) rfl
       have r0 := hR.cell (j := 0) rfl
       have r1 := hR.cell (j := 1) rfl
       have r2 := hR.cell (j := 2) rfl
       have f0 := hR.frozen 0
       have f1 := hR.frozen 1
       have f2 := hR.frozen 2
       have HI := hI
       have HX := Lib.hid hx
       clear hI hg ho1 ho3 hE hR hx
       go_wp2_with fail
       (try simp only [Exit.inBlock, Exit.then])
       refine bodyPost_ret (v := stV (.slice B1 sa.length m1) (.slice AE se.length cE) (.slice B3 sp.length m3)) (by simp [results, Tryz.f28, go_sem, r0, r1, r2]) rfl ?_
       obtain ⟨hg, ho1, ho3, hE, hR⟩ := HI.out
       have hk : ∀ b, b ≠ w.heap.size + 1 → (((wr.setCell ⟨w.heap.size + 1, 0, none⟩ (.slice B1 sa.length m1)).setCell ⟨w.heap.size + 1, 1, none⟩ (.slice AE se.length cE)).setCell ⟨w.heap.size + 1, 2, none⟩ (.slice B3 sp.length m3)).heap[b]? = wr.heap[b]? := fun b hb =>
         ((Below.heap_setCell _ _ _ _ hb).trans (Below.heap_setCell _ _ _ _ hb)).trans (Below.heap_setCell _ _ _ _ hb)
       refine ⟨.slice B1 sa.length m1, .slice AE se.length cE, .slice B3 sp.length m3, rfl, ⟨?_, ?_, ?_⟩, ?_⟩
       · exact (ho1.keep fun b hb _ => hk b (by have := (ho1.base_le hb).1; omega)).lower (by omega)
       · exact (OwnL.lower (OwnL.mono (OwnL.keep (w' := ((wr.setCell ⟨w.heap.size + 1, 0, none⟩ (.slice B1 sa.length m1)).setCell ⟨w.heap.size + 1, 1, none⟩ (.slice AE se.length cE)).setCell ⟨w.heap.size + 1, 2, none⟩ (.slice B3 sp.length m3)) hE (fun b hb _ => hk b (by have := hb.1; omega)) (fun b hb _ => hk b (by have := (hE.base_le hb).1; omega))) (S' := fun b => w.heap.size ≤ b ∧ ¬ ownBlk (.slice AE se.length cE) b) fun b _ hb => ⟨by have := hb.1; omega, hb.2.2⟩) (by omega))
       · exact (ho3.keep fun b hb _ => hk b (by have := (ho3.base_le hb).1; omega)).lower (by omega)
       · exact ((HX.out.set (p := ⟨w.heap.size + 1, 0, none⟩) (by simp) _).set (p := ⟨w.heap.size + 1, 1, none⟩) (by simp) _).set (p := ⟨w.heap.size + 1, 2, none⟩) (by simp) _
theorem copyS_any {S : Nat → Prop} {s : State} {v1 v2 v3 : Value} {w : World} (h : StAt w S s v1 v2 v3) (sm : SmallS s) :
   Calls Tryz.prog 28 #[stV v1 v2 v3] w fun r w' => ∃ u1 u2 u3, r = .returned (stV u1 u2 u3) ∧ StNew w' w.heap.size s u1 u2 u3 ∧ Ext w w' := by
 refine (copySF_any h sm).mono ?_
 rintro r w' ⟨u1, u2, u3, e, hn, hx⟩
 exact ⟨u1, u2, u3, e, hn.new, hx⟩
end Go.Proofs.YtdikcgmdmcfpfaaGreat
namespace Go.Proofs.YtdikcgmdmcfpfaaGreat
open Go.RowKit Go.Shelf
def Writ (W : World) (g off : Nat) : Prop := ∃ cur T, W.heap[g]? = some (.cells cur T (0, 0)) ∧ off < cur.size
theorem Writ.cell {W : World} {g off : Nat} (h : Writ W g off) : ∃ u, W.cell? ⟨g, off, none⟩ = some u := by
 obtain ⟨cur, T, h1, h2⟩ := h
 exact ⟨cur[off], by simp [World.cell?, h1, h2]⟩
theorem Writ.frozen {W : World} {g off : Nat} (h : Writ W g off) : W.frozen? ⟨g, off, none⟩ = false := by
 obtain ⟨cur, T, h1, h2⟩ := h
 simp [World.frozen?, h1]
theorem Writ.set {W : World} {g off : Nat} (h : Writ W g off) (b o : Nat) (v : Value) : Writ (W.setCell ⟨b, o, none⟩ v) g off := by
 obtain ⟨cur, T, h1, h2⟩ := h
 by_cases hp : g = b
 · subst hp
   refine ⟨cur.setIfInBounds o v, T, ?_, by simpa using h2⟩
   simp only [World.setCell, Array.getElem?_modify, if_true, h1, Option.map_some, Option.isSome_none, Bool.false_eq_true, if_false]
 · exact ⟨cur, T, by rw [Below.heap_setCell _ _ _ _ hp]; exact h1, h2⟩
theorem Writ.keep {W W' : World} {g off : Nat} (h : Writ W g off) (hs : W'.heap[g]? = W.heap[g]?) : Writ W' g off := by
 obtain ⟨cur, T, h1, h2⟩ := h
 exact ⟨cur, T, hs.trans h1, h2⟩
theorem cell_other {W : World} {g off b o : Nat} {v u : Value} (h : W.cell? ⟨g, off, none⟩ = some u) (hne : b ≠ g ∨ o ≠ off) : (W.setCell ⟨b, o, none⟩ v).cell? ⟨g, off, none⟩ = some u := by
 by_cases hb : g = b
 · subst hb
   have ho : o ≠ off := hne.resolve_left (fun h => h rfl)
   unfold World.cell? at h ⊢
   simp only [World.setCell, Array.getElem?_modify, if_true]
   cases hg : W.heap[g]? with
   | none => rw [hg] at h; cases h
   | some obj =>
     rw [hg] at h
     cases obj with
     | cells c t fr =>
       simp only [Option.isSome_none, Bool.false_eq_true, if_false, Option.map_some] at h ⊢
       rw [Array.getElem?_setIfInBounds_ne ho]
       exact h
     | _ => simp at h
 · exact (World.cell?_of_block (a := ⟨g, off, none⟩) (Below.heap_setCell _ _ _ _ hb)).trans h
structure KeepO (K : Nat × Nat) (W W' : World) : Prop where
 os : W'.os = W.os
 tape : W'.tape = W.tape
 output : W'.output = W.output
 size : W'.heap.size = W.heap.size
 same : ∀ b, ¬ (K.1 ≤ b ∧ b < K.2) → W'.heap[b]? = W.heap[b]?
theorem KeepO.refl (K : Nat × Nat) (W : World) : KeepO K W W := ⟨rfl, rfl, rfl, rfl, fun _ _ => rfl⟩
theorem KeepO.set {K : Nat × Nat} {W W' : World} (h : KeepO K W W') {g off : Nat} (hg : K.1 ≤ g ∧ g < K.2) (v : Value) : KeepO K W (W'.setCell ⟨g, off, none⟩ v) :=
 ⟨h.os, h.tape, h.output, (World.size_setCell ..).trans h.size, fun b hb => (Below.heap_setCell _ _ _ _ (fun e => hb (by have e2 : b = g := e; rw [e2]; exact hg))).trans (h.same b hb)⟩
theorem KeepO.ext {K : Nat × Nat} {w W W' : World} (h : KeepO K W W') (he : Ext w W) (hK : w.heap.size ≤ K.1) : Ext w W' :=
 ⟨h.os.trans he.os, h.tape.trans he.tape, h.output.trans he.output, by rw [h.size]; exact he.size, fun b hb => (h.same b (by omega)).trans (he.block b hb)⟩
def EntSh (W : World) (K : Nat × Nat) (gE i m : Nat) (v : Value) : Prop := Writ W gE (i * 7) ∧ W.cell? ⟨gE, i * 7 + 1, none⟩ = some v ∧ ∃ A c, v = .slice A m c ∧ m ≤ c ∧ c ≤ 9223372036854775807 ∧
 ∀ k, k < m → ∃ g o, A = some ⟨g, o, none⟩ ∧ g ≠ gE ∧ (K.1 ≤ g ∧ g < K.2) ∧ Writ W g (o + k * 2 + 1)
theorem EntSh.setKey {W : World} {K : Nat × Nat} {gE i m : Nat} {v : Value} (h : EntSh W K gE i m v) (j : Nat) (u : Value) : EntSh (W.setCell ⟨gE, j * 7, none⟩ u) K gE i m v := by
 obtain ⟨h1, h2, A, c, h3, h4, h5, h6⟩ := h
 refine ⟨h1.set _ _ _, cell_other h2 (.inr (by omega)), A, c, h3, h4, h5, fun k hk => ?_⟩
 obtain ⟨g, o, e, hg, hK, hw⟩ := h6 k hk
 exact ⟨g, o, e, hg, hK, hw.set _ _ _⟩
theorem EntSh.setSeen {W : World} {K : Nat × Nat} {gE i m : Nat} {v : Value} (h : EntSh W K gE i m v) {b off : Nat} (hb : b ≠ gE) (u : Value) : EntSh (W.setCell ⟨b, off, none⟩ u) K gE i m v := by
 obtain ⟨h1, h2, A, c, h3, h4, h5, h6⟩ := h
 refine ⟨h1.set _ _ _, cell_other h2 (.inl hb), A, c, h3, h4, h5, fun k hk => ?_⟩
 obtain ⟨g, o, e, hg, hK, hw⟩ := h6 k hk
 exact ⟨g, o, e, hg, hK, hw.set _ _ _⟩
structure CopyAt (W : World) (K : Nat × Nat) (s : State) (c1 c2 c3 : Value) : Prop where
 all : Own W K.1 25 2 c1 s.all.length (s.all.flatMap markC)
 allhi : ∀ b, ownBlk c1 b → b < K.2
 entries : OwnL entryF 37 W K.1 (fun b => (K.1 ≤ b ∧ b < K.2) ∧ ¬ ownBlk c2 b) c2 s.entries
 enthi : ∀ b, ownBlk c2 b → b < K.2
theorem CopyAt.ext {W W' : World} {K : Nat × Nat} {s : State} {c1 c2 c3 : Value} (h : CopyAt W K s c1 c2 c3) (he : Ext W W') : CopyAt W' K s c1 c2 c3 := ⟨h.all.ext he, h.allhi, h.entries.ext he, h.enthi⟩
theorem StNewF.copyAt {W : World} {lo : Nat} {s : State} {c1 c2 c3 : Value} (h : StNewF W lo s c1 c2 c3) : CopyAt W (lo, W.heap.size) s c1 c2 c3 :=
 ⟨h.all, fun b hb => (h.all.base_le hb).2, h.entries.mono fun b hb hs => ⟨⟨hs.1, hb⟩, hs.2⟩, fun b hb => (h.entries.base_le hb).2⟩
theorem CopyAt.keep {W W' : World} {K : Nat × Nat} {s : State} {c1 c2 c3 : Value} (h : CopyAt W K s c1 c2 c3) (hs : ∀ b, K.1 ≤ b → b < K.2 → W'.heap[b]? = W.heap[b]?) : CopyAt W' K s c1 c2 c3 :=
 ⟨h.all.keep fun b hb _ => hs b (h.all.base_le hb).1 (h.allhi b hb), h.allhi, h.entries.keep (fun b hb _ => hs b hb.1.1 hb.1.2) (fun b hb _ => hs b (h.entries.base_le hb).1 (h.enthi b hb)), h.enthi⟩
theorem CopyAt.ent {W : World} {K : Nat × Nat} {s : State} {c1 c2 c3 : Value} (h : CopyAt W K s c1 c2 c3) (hn : 0 < s.entries.length) :
   ∃ gE cap, c2 = .slice (some ⟨gE, 0, none⟩) s.entries.length cap ∧ (K.1 ≤ gE ∧ gE < K.2) ∧ s.entries.length ≤ cap ∧ cap ≤ 9223372036854775807 ∧ ∀ i (hi : i < s.entries.length), ∃ v, EntSh W K gE i s.entries[i].seen.length v := by
 obtain ⟨vss, h1, h2, h3⟩ := h.entries
 obtain ⟨gE, cap, cur, rfl, hb, hlt, hg, hnc, hcm, hsz, htk⟩ := h3.pos hn
 have hown : ownBlk (.slice (some ⟨gE, 0, none⟩) s.entries.length cap) gE := ⟨gE, _, _, rfl, by omega, rfl⟩
 refine ⟨gE, cap, rfl, ⟨hb, h.enthi gE hown⟩, hnc, hcm, fun i hi => ?_⟩
 have hvi : i < vss.length := by omega
 have hr := h2 i _ _ (List.getElem?_eq_getElem hi) (List.getElem?_eq_getElem hvi)
 obtain ⟨⟨v1, v2, v3, hvs, hs1, -, -⟩, hmw⟩ := hr
 have hmw1 := hmw v1 (by rw [hvs]; rfl)
 have hlen : ∀ x ∈ vss, x.length = 7 := fun x hx => by
   obtain ⟨j, hj, rfl⟩ := List.getElem_of_mem hx
   exact entryF.len (h2 j _ _ (List.getElem?_eq_getElem (by omega)) (List.getElem?_eq_getElem hj))
 have hflat := flatten_at vss i 1 vss[i] v1 hlen (List.getElem?_eq_getElem hvi) (by rw [hvs]; rfl)
 have hsz7 : cur.size = cap * 7 := hsz
 refine ⟨v1, ⟨cur, _, hg, by omega⟩, ?_, ?_⟩
 · exact Own.cell h3 rfl hflat
 · obtain ⟨A, c, e, hc1, hc2, hat⟩ := hs1
   refine ⟨A, c, e, hc1, hc2, fun k hk => ?_⟩
   have hl : s.entries[i].seen = s.entries[i].seen.take k ++ s.entries[i].seen[k] :: s.entries[i].seen.drop (k + 1) := by simp
   obtain ⟨b, o, vs, rfl, hS, hrd, hcell⟩ := hat _ _ _ hl
   obtain ⟨hS2, cur2, T2, hg2⟩ := hmw1 b o _ _ e (by omega)
   have hc := hcell 1 (U s.entries[i].seen[k].2) (by rw [hrd]; rfl)
   rw [List.length_take, Nat.min_eq_left (by omega)] at hc
   refine ⟨b, o, rfl, fun e2 => hS2.2 (by rw [e2]; exact hown), hS2.1, cur2, T2, hg2, ?_⟩
   have hc' : W.cell? ⟨b, o + k * 2 + 1, none⟩ = some (U s.entries[i].seen[k].2) := hc
   unfold World.cell? at hc'
   rw [hg2] at hc'
   simp at hc'
   exact (Array.getElem?_eq_some_iff.1 hc').1
theorem CopyAt.mark {W : World} {K : Nat × Nat} {s : State} {c1 c2 c3 : Value} (h : CopyAt W K s c1 c2 c3) (hn : 0 < s.all.length) :
   ∃ gA cap, c1 = .slice (some ⟨gA, 0, none⟩) s.all.length cap ∧ (K.1 ≤ gA ∧ gA < K.2) ∧ s.all.length ≤ cap ∧ cap ≤ 9223372036854775807 ∧ ∀ k, k < s.all.length → Writ W gA (k * 2 + 1) := by
 obtain ⟨gA, cap, cur, rfl, hb, hlt, hg, hnc, hcm, hsz, htk⟩ := h.all.pos hn
 exact ⟨gA, cap, rfl, ⟨hb, h.allhi gA ⟨gA, _, _, rfl, by omega, rfl⟩⟩, hnc, hcm, fun k hk => ⟨cur, _, hg, by omega⟩⟩
def EntsOk (W : World) (K : Nat × Nat) (C : Option Addr) (l : List Entry) : Prop :=
 ∀ i e, l[i]? = some e → ∃ gE v, C = some ⟨gE, 0, none⟩ ∧ (K.1 ≤ gE ∧ gE < K.2) ∧ EntSh W K gE i e.seen.length v
theorem EntsOk.setKey {W : World} {K : Nat × Nat} {gE : Nat} {l : List Entry} (h : EntsOk W K (some ⟨gE, 0, none⟩) l) (j : Nat) (u : Value) : EntsOk (W.setCell ⟨gE, j * 7, none⟩ u) K (some ⟨gE, 0, none⟩) l := fun i e hi => by
 obtain ⟨g, v, hg, hK, hs⟩ := h i e hi
 cases hg
 exact ⟨gE, v, rfl, hK, hs.setKey j u⟩
theorem EntsOk.setSeen {W : World} {K : Nat × Nat} {gE : Nat} {l : List Entry} (h : EntsOk W K (some ⟨gE, 0, none⟩) l) {b off : Nat} (hb : b ≠ gE) (u : Value) : EntsOk (W.setCell ⟨b, off, none⟩ u) K (some ⟨gE, 0, none⟩) l := fun i e hi => by
 obtain ⟨g, v, hg, hK, hs⟩ := h i e hi
 cases hg
 exact ⟨gE, v, rfl, hK, hs.setSeen hb u⟩
def MarksOk (W : World) (K : Nat × Nat) (C : Option Addr) (n : Nat) : Prop := ∀ k, k < n → ∃ gA, C = some ⟨gA, 0, none⟩ ∧ (K.1 ≤ gA ∧ gA < K.2) ∧ Writ W gA (k * 2 + 1)
theorem MarksOk.set {W : World} {K : Nat × Nat} {C : Option Addr} {n : Nat} (h : MarksOk W K C n) (b off : Nat) (u : Value) : MarksOk (W.setCell ⟨b, off, none⟩ u) K C n := fun k hk => by
 obtain ⟨g, e, hK, hw⟩ := h k hk
 exact ⟨g, e, hK, hw.set _ _ _⟩
theorem CopyAt.ents {W : World} {K : Nat × Nat} {s : State} {c1 c3 : Value} {C : Option Addr} {n c : Nat} (h : CopyAt W K s c1 (.slice C n c) c3) : EntsOk W K C s.entries := fun i e hi => by
 have hil := (List.getElem?_eq_some_iff.1 hi).1
 obtain ⟨gE, cap, h0, hK, -, -, hat⟩ := h.ent (by omega)
 cases h0
 obtain ⟨v, hv⟩ := hat i hil
 rw [List.getElem?_eq_getElem hil] at hi
 cases hi
 exact ⟨gE, v, rfl, hK, hv⟩
theorem CopyAt.marks {W : World} {K : Nat × Nat} {s : State} {c2 c3 : Value} {C : Option Addr} {n c : Nat} (h : CopyAt W K s (.slice C n c) c2 c3) : MarksOk W K C s.all.length := fun k hk => by
 obtain ⟨gA, cap, h0, hK, -, -, hat⟩ := h.mark (by omega)
 cases h0
 exact ⟨gA, rfl, hK, hat k hk⟩
end Go.Proofs.YtdikcgmdmcfpfaaGreat
