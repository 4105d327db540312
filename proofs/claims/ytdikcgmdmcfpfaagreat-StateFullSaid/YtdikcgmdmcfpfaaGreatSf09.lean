/- Contracts of the functions that the statement goes through, with their plain words: Package state: May. Printed by gen_statemay.py. slices.Insert of one entry into a row of the call's own. -/
import Derived.Test.YtdikcgmdmcfpfaaGreatSf08
import Derived.Lib.Overlaps
import Derived.Lib.AppendZerosOnto
import Derived.Laws.Externs
import Derived.Shelf.RegionOpenPlain
namespace Go.Proofs.YtdikcgmdmcfpfaaGreat
open Go.RowKit Go.Shelf

def mayEs (all : List Mark) : Option Str → List Entry → Bool
  | _, [] => true
  | prev, e :: r => mayE e && ((match prev with | none => true | some k => ltS k e.key) && (coversM all e.seen && mayEs all (some e.key) r))
def mayPs (all : List Mark) : Option Str → List Str → Bool
  | _, [] => true
  | prev, p :: r => !p.isEmpty && ((match prev with | none => true | some k => ltS k p) && (decide (ofM all p = 0) && mayPs all (some p) r))
def mayS (s : State) : Bool := mayM s.all && (mayEs s.all none s.entries && mayPs s.all none s.pruned)

set_option maxRecDepth 100000 in
set_option maxHeartbeats 4000000 in
theorem mayS_any {S : Nat → Prop} {s : State} {v1 v2 v3 : Value} {w : World} (h : StAt w S s v1 v2 v3) (sm : SmallS s) :
    Calls Tryz.prog 20 #[stV v1 v2 v3] w fun r w' => r = .returned (.bool (mayS s)) ∧ Ext w w' := by
  obtain ⟨sa, se, sp⟩ := s
  obtain ⟨A1, n1, rfl, -, -⟩ := h.all.form
  obtain ⟨A2, n2, rfl, -, -⟩ := h.entries.form
  obtain ⟨A3, n3, rfl, -, -⟩ := h.pruned.form
  have h' := h.entries
  have h'' := h.pruned
  have HAT := Lib.hid (fun (pre post : List Entry) (m : Entry) (wr : World) (hx : Ext w wr) (hl : se = pre ++ m :: post) => entry_at h' hx hl)
  have HPT := Lib.hid (fun (pre post : List Str) (m : Str) (wr : World) (hx : Ext w wr) (hl : sp = pre ++ m :: post) => str_at h'' hx hl)
  have H := Lib.hid h
  have SM := Lib.hid sm
  have hx0 := (Ext.refl w).alloc (.cells #[.slice A1 sa.length n1, .slice A2 se.length n2, .slice A3 sp.length n3] 30)
  have rB0 := rowNew w 30 [.slice A1 sa.length n1, .slice A2 se.length n2, .slice A3 sp.length n3]
  have H1 := Lib.hid (may_any (h.all.ext (by decide) hx0))
  have HM := Lib.hid (show mayS ⟨sa, se, sp⟩ = (mayM sa && (mayEs sa none se && mayPs sa none sp)) from rfl)
  have hsa : sa.length ≤ 549755813888 := sm.all
  have hse : se.length ≤ 549755813888 := sm.entries
  have hsp : sp.length ≤ 549755813888 := sm.pruned
  clear h h' h'' sm
  go_enter Tryz.func20, Tryz.ntmps20
  go_wp2_with fail
  generalize w.alloc (.cells #[.slice A1 sa.length n1, .slice A2 se.length n2, .slice A3 sp.length n3] 30) = W0 at *
  refine H1.out.mono ?_
  rintro r W1 ⟨rfl, hx1⟩
  have rB := rB0.ext hx1
  have hxw := hx0.trans hx1
  have b1 := rB.cell (j := 1) rfl
  have hbl := rB.lt
  clear rB0 hx0 hx1 H1
  cases hm : mayM sa with
  | false =>
    have HR := Lib.hid (show mayS ⟨sa, se, sp⟩ = false by rw [HM.out, hm]; rfl)
    have HX := Lib.hid hxw
    clear hxw rB HM
    go_wp2_with fail
    go_ret
    exact ⟨by rw [HR.out]; rfl, HX.out⟩
  | true =>
    have HM2 := Lib.hid (show mayS ⟨sa, se, sp⟩ = (mayEs sa none se && mayPs sa none sp) by rw [HM.out, hm]; rfl)
    have HB1 := Lib.hid rB
    have HX1 := Lib.hid hxw
    clear hm HM rB hxw
    go_wp2_with fail
    go_loopw [14] (fun i wr => ∃ pre post, se = pre ++ post ∧ i = I pre.length ∧ Hid (mayEs sa none se = mayEs sa (pre.getLast?.map (·.key)) post) ∧ Hid (RowIs wr w.heap.size 30 [.slice A1 sa.length n1, .slice A2 se.length n2, .slice A3 sp.length n3] []) ∧ Ext w wr) (fun i _ => se.length - (intOf i).toNat)
    case atStart => exact ⟨[], se, rfl, rfl, Lib.hid rfl, HB1, HX1.out⟩
    case round =>
      obtain ⟨pre, post, hl, rfl, hme, hrow, hx⟩ := hrel
      cases post with
      | cons m post =>
        obtain ⟨b, o, a1, a2, a3, rfl, e0, e1, e2, e3, e4, e5, e6, hEA⟩ := HAT.out pre post m wr hx hl
        obtain ⟨C1, c1, rfl, -, -⟩ := hEA.seen.form
        obtain ⟨C2, c2, rfl, -, -⟩ := hEA.counts.form
        obtain ⟨C3, c3, rfl, -, -⟩ := hEA.items.form
        have hlt : pre.length < se.length := by rw [hl]; simp
        have HL := Lib.hid hl
        have hsm : SmallE m := SM.out.each m (by show m ∈ se; rw [hl]; simp)
        have hxb := (Ext.refl wr).alloc (.cells #[St m.key, .slice C1 m.seen.length c1, .slice C2 m.counts.length c2, .slice C3 m.items.length c3, U m.cell.1, St m.cell.2.1, .bool m.cell.2.2] 37)
        have rb := rowNew wr 37 [St m.key, .slice C1 m.seen.length c1, .slice C2 m.counts.length c2, .slice C3 m.items.length c3, U m.cell.1, St m.cell.2.1, .bool m.cell.2.2]
        have hprev : (pre.length = 0 ∧ pre.getLast?.map (·.key) = none) ∨ (0 < pre.length ∧ ∃ q : Entry, pre.getLast?.map (·.key) = some q.key ∧ wr.cell? ⟨b, o + (pre.length - 1) * 7, none⟩ = some (St q.key)) := by
          rcases Nat.eq_zero_or_pos pre.length with h0 | h0
          · exact .inl ⟨h0, by rw [List.eq_nil_of_length_eq_zero h0]; rfl⟩
          · obtain ⟨p', q, f1, f2, f3⟩ := getLast_at h0
            obtain ⟨b', o', _, _, _, e, q0, -⟩ := HAT.out p' (m :: post) q wr hx (by rw [hl, f1]; simp)
            cases e
            rw [f3] at q0
            exact .inr ⟨h0, q, by rw [f2]; rfl, q0⟩
        have hEA2 := (hEA.ext hx).ext hxb
        have HB := Lib.hid (hrow.out.ext hxb)
        have hxwb := hx.trans hxb
        have HME := Lib.hid (show mayEs sa none se = (mayE m && ((match pre.getLast?.map (·.key) with | none => true | some k => ltS k m.key) && (coversM sa m.seen && mayEs sa (some m.key) post))) from hme.out)
        clear hl hEA hme hrow hx
        go_wp2_with fail
        generalize hWb : wr.alloc (.cells #[St m.key, .slice C1 m.seen.length c1, .slice C2 m.counts.length c2, .slice C3 m.items.length c3, U m.cell.1, St m.cell.2.1, .bool m.cell.2.2] 37) = Wb at *
        have hprev2 : (pre.length = 0 ∧ pre.getLast?.map (·.key) = none) ∨ (0 < pre.length ∧ ∃ q : Entry, pre.getLast?.map (·.key) = some q.key ∧ Wb.cell? ⟨b, o + (pre.length - 1) * 7, none⟩ = some (St q.key)) := by
          rcases hprev with h | ⟨h0, q, h1, h2⟩
          · exact .inl h
          · exact .inr ⟨h0, q, h1, hxb.cell h2⟩
        have HSA := Lib.hid (H.out.all.ext (by decide) hxwb)
        clear hWb hprev hxb e0 e1 e2 e3 e4 e5 e6
        have HXB := Lib.hid hxwb
        clear hxwb
        cases hb : mayE m with
        | false =>
          have HRF := Lib.hid (show mayS ⟨sa, se, sp⟩ = false by rw [HM2.out, HME.out, hb]; rfl)
          refine wp_region_facts [fun v _ => v = entV m (.slice C1 m.seen.length c1) (.slice C2 m.counts.length c2) (.slice C3 m.items.length c3),
      fun v _ => v = .bool false,
      fun v _ => v = .bool true,
      fun v _ => v = .bool true,
      fun v _ => v = .tuple #[],
      fun v _ => v = .tuple #[],
      fun v _ => v = .tuple #[],
      fun v _ => v = .tuple #[],
      fun v _ => v = .tuple #[],
      fun v _ => v = .tuple #[],
      fun v _ => v = .tuple #[],
      fun v _ => v = .tuple #[],
      fun v _ => v = .tuple #[],
      fun v _ => v = .tuple #[],
      fun v _ => v = .tuple #[],
      fun v _ => v = .tuple #[],
      fun v _ => v = .tuple #[],
      fun v _ => v = .tuple #[],
      fun v _ => v = .bool true,
      fun v _ => v = .bool true,
      fun v _ => v = .tuple #[],
      fun v _ => v = .tuple #[],
      fun v _ => v = .tuple #[],
      fun v _ => v = .tuple #[],
      fun v _ => v = .tuple #[],
      fun v _ => v = .tuple #[]] rfl (by kernel_rfl) ?hR ?hstep ?hend
          case hR =>
            simp only [List.mem_cons, List.not_mem_nil, or_false, forall_eq_or_imp, forall_eq]
            exact ⟨fun v _ _ h _ => h, fun v _ _ h _ => h, fun v _ _ h _ => h, fun v _ _ h _ => h, fun v _ _ h _ => h, fun v _ _ h _ => h, fun v _ _ h _ => h, fun v _ _ h _ => h, fun v _ _ h _ => h, fun v _ _ h _ => h, fun v _ _ h _ => h, fun v _ _ h _ => h, fun v _ _ h _ => h, fun v _ _ h _ => h, fun v _ _ h _ => h, fun v _ _ h _ => h, fun v _ _ h _ => h, fun v _ _ h _ => h, fun v _ _ h _ => h, fun v _ _ h _ => h, fun v _ _ h _ => h, fun v _ _ h _ => h, fun v _ _ h _ => h, fun v _ _ h _ => h, fun v _ _ h _ => h, fun v _ _ h _ => h⟩
          case hstep =>
            simp only [List.length_cons, List.length_nil, Nat.reduceAdd, List.take_succ_cons, List.take_zero, stepsAll, and_true]
            refine ⟨?_, ?_, ?_, ?_, ?_, ?_, ?_, ?_, ?_, ?_, ?_, ?_, ?_, ?_, ?_, ?_, ?_, ?_, ?_, ?_, ?_, ?_, ?_, ?_, ?_, ?_⟩
            · intro x W he f
              have h0 : x 4 = .pointer (some ⟨wr.heap.size, 0, none⟩) := f.1
              have q0 := (rb.ext he).cell (j := 0) rfl
              have q1 := (rb.ext he).cell (j := 1) rfl
              have q2 := (rb.ext he).cell (j := 2) rfl
              have q3 := (rb.ext he).cell (j := 3) rfl
              have q4 := (rb.ext he).cell (j := 4) rfl
              have q5 := (rb.ext he).cell (j := 5) rfl
              have q6 := (rb.ext he).cell (j := 6) rfl
              go_wp
              exact stepQ_ok rfl (Ext.refl _)
            · intro x W he f
              have h0 : x 19 = entV m (.slice C1 m.seen.length c1) (.slice C2 m.counts.length c2) (.slice C3 m.items.length c3) := f.1
              have HC := Lib.hid (mayE_any (hEA2.ext he) (Nat.le_trans hsm.items (by decide)))
              rw [hb] at HC
              go_wp
              refine HC.out.mono ?_
              rintro r W2 ⟨rfl, hx2⟩
              dsimp only
              go_wp
              exact stepQ_ok rfl hx2
            · intro x W he f
              have h0 : x 20 = .bool false := f.1
              go_wp
              exact stepQ_ok rfl (Ext.refl _)
            · intro x W he f
              have h0 : x 21 = .bool true := f.1
              go_wp
              exact stepQ_ok rfl (Ext.refl _)
            · intro x W he f
              have h0 : x 3 = I pre.length := f.1
              have h1 : x 22 = .bool true := f.2.1
              go_wp
              exact stepQ_ok rfl (Ext.refl _)
            · intro x W he f
              have h0 : x 23 = .tuple #[] := f.1
              have h1 : x 22 = .bool true := f.2.1
              go_wp
              exact stepQ_ok rfl (Ext.refl _)
            · intro x W he f
              have h0 : x 24 = .tuple #[] := f.1
              have h1 : x 22 = .bool true := f.2.1
              go_wp
              exact stepQ_ok rfl (Ext.refl _)
            · intro x W he f
              have h0 : x 1 = .pointer (some ⟨w.heap.size, 0, none⟩) := f.1
              have h1 : x 25 = .tuple #[] := f.2.1
              go_wp
              exact stepQ_ok rfl (Ext.refl _)
            · intro x W he f
              have h0 : x 26 = .tuple #[] := f.1
              have h1 : x 25 = .tuple #[] := f.2.1
              have c1 := (HB.out.ext he).cell (j := 1) rfl
              go_wp
              exact stepQ_ok rfl (Ext.refl _)
            · intro x W he f
              have h0 : x 3 = I pre.length := f.1
              have h1 : x 25 = .tuple #[] := f.2.1
              go_wp
              exact stepQ_ok rfl (Ext.refl _)
            · intro x W he f
              have h0 : x 28 = .tuple #[] := f.1
              have h1 : x 25 = .tuple #[] := f.2.1
              go_wp
              exact stepQ_ok rfl (Ext.refl _)
            · intro x W he f
              have h0 : x 27 = .tuple #[] := f.1
              have h1 : x 29 = .tuple #[] := f.2.1
              have h2 : x 25 = .tuple #[] := f.2.2.1
              go_wp
              exact stepQ_ok rfl (Ext.refl _)
            · intro x W he f
              have h0 : x 30 = .tuple #[] := f.1
              have h1 : x 25 = .tuple #[] := f.2.1
              go_wp
              exact stepQ_ok rfl (Ext.refl _)
            · intro x W he f
              have h0 : x 31 = .tuple #[] := f.1
              have h1 : x 25 = .tuple #[] := f.2.1
              go_wp
              exact stepQ_ok rfl (Ext.refl _)
            · intro x W he f
              have h0 : x 4 = .pointer (some ⟨wr.heap.size, 0, none⟩) := f.1
              have h1 : x 25 = .tuple #[] := f.2.1
              go_wp
              exact stepQ_ok rfl (Ext.refl _)
            · intro x W he f
              have h0 : x 33 = .tuple #[] := f.1
              have h1 : x 25 = .tuple #[] := f.2.1
              have q0 := (rb.ext he).cell (j := 0) rfl
              go_wp
              exact stepQ_ok rfl (Ext.refl _)
            · intro x W he f
              have h0 : x 32 = .tuple #[] := f.1
              have h1 : x 34 = .tuple #[] := f.2.1
              have h2 : x 25 = .tuple #[] := f.2.2.1
              go_wp
              exact stepQ_ok rfl (Ext.refl _)
            · intro x W he f
              have h0 : x 25 = .tuple #[] := f.1
              have h1 : x 35 = .tuple #[] := f.2.1
              have h2 : x 22 = .bool true := f.2.2.1
              go_wp
              exact stepQ_ok rfl (Ext.refl _)
            · intro x W he f
              have h0 : x 22 = .bool true := f.1
              have h1 : x 36 = .tuple #[] := f.2.1
              go_wp
              exact stepQ_ok rfl (Ext.refl _)
            · intro x W he f
              have h0 : x 37 = .bool true := f.1
              go_wp
              exact stepQ_ok rfl (Ext.refl _)
            · intro x W he f
              have h0 : x 1 = .pointer (some ⟨w.heap.size, 0, none⟩) := f.1
              have h1 : x 38 = .bool true := f.2.1
              go_wp
              exact stepQ_ok rfl (Ext.refl _)
            · intro x W he f
              have h0 : x 39 = .tuple #[] := f.1
              have h1 : x 38 = .bool true := f.2.1
              have c1 := (HB.out.ext he).cell (j := 0) rfl
              go_wp
              exact stepQ_ok rfl (Ext.refl _)
            · intro x W he f
              have h0 : x 4 = .pointer (some ⟨wr.heap.size, 0, none⟩) := f.1
              have h1 : x 38 = .bool true := f.2.1
              go_wp
              exact stepQ_ok rfl (Ext.refl _)
            · intro x W he f
              have h0 : x 41 = .tuple #[] := f.1
              have h1 : x 38 = .bool true := f.2.1
              have q1 := (rb.ext he).cell (j := 1) rfl
              go_wp
              exact stepQ_ok rfl (Ext.refl _)
            · intro x W he f
              have h0 : x 40 = .tuple #[] := f.1
              have h1 : x 42 = .tuple #[] := f.2.1
              have h2 : x 38 = .bool true := f.2.2.1
              go_wp
              exact stepQ_ok rfl (Ext.refl _)
            · intro x W he f
              have h0 : x 43 = .tuple #[] := f.1
              have h1 : x 38 = .bool true := f.2.1
              go_wp
              exact stepQ_ok rfl (Ext.refl _)
          case hend =>
            intro x W he f
            have h38 : x 38 = .bool true := f.2.2.2.2.2.2.2.2.2.2.2.2.2.2.2.2.2.2.2.1
            clear f
            have HX := Lib.hid (HXB.out.trans he)
            have HBW := Lib.hid (HB.out.ext he)
            simp only [List.length_cons, List.length_nil, Nat.reduceAdd, List.take_succ_cons, List.take_zero, List.filterMap_cons, List.filterMap_nil, List.drop_succ_cons, List.drop_zero, putAll, Act.put, List.setIfInBounds_toArray, List.set_cons_succ, List.set_cons_zero, h38]
            clear he
            go_wp
            go_wp2_with fail
            go_ret
            exact ⟨by rw [HRF.out]; rfl, HX.out⟩
        | true =>
          rw [hb] at HME
          rcases hprev2 with ⟨h0, hp⟩ | ⟨h0, q, hp, hq0⟩
          · rw [hp] at HME
            have hz : (pre.length : Int) = 0 := by omega
            have hz2 : I (pre.length : Int) = I 0 := by rw [hz]
            refine wp_region_facts [fun v _ => v = entV m (.slice C1 m.seen.length c1) (.slice C2 m.counts.length c2) (.slice C3 m.items.length c3),
      fun v _ => v = .bool true,
      fun v _ => v = .bool false,
      fun v _ => v = .bool false,
      fun v _ => v = I 0,
      fun v _ => v = .bool false,
      fun v _ => v = .bool false,
      fun v _ => v = .tuple #[],
      fun v _ => v = .tuple #[],
      fun v _ => v = .tuple #[],
      fun v _ => v = .tuple #[],
      fun v _ => v = .tuple #[],
      fun v _ => v = .tuple #[],
      fun v _ => v = .tuple #[],
      fun v _ => v = .tuple #[],
      fun v _ => v = .tuple #[],
      fun v _ => v = .tuple #[],
      fun v _ => v = .bool false,
      fun v _ => v = .bool false,
      fun v _ => v = .bool false,
      fun v _ => v = .pointer (some ⟨w.heap.size, 0, none⟩),
      fun v _ => v = .slice A1 sa.length n1,
      fun v _ => v = .pointer (some ⟨wr.heap.size, 1, none⟩),
      fun v _ => v = .slice C1 m.seen.length c1,
      fun v _ => v = .bool (coversM sa m.seen),
      fun v _ => v = .bool (!coversM sa m.seen)] rfl (by kernel_rfl) ?hR ?hstep ?hend
            case hR =>
              simp only [List.mem_cons, List.not_mem_nil, or_false, forall_eq_or_imp, forall_eq]
              exact ⟨fun v _ _ h _ => h, fun v _ _ h _ => h, fun v _ _ h _ => h, fun v _ _ h _ => h, fun v _ _ h _ => h, fun v _ _ h _ => h, fun v _ _ h _ => h, fun v _ _ h _ => h, fun v _ _ h _ => h, fun v _ _ h _ => h, fun v _ _ h _ => h, fun v _ _ h _ => h, fun v _ _ h _ => h, fun v _ _ h _ => h, fun v _ _ h _ => h, fun v _ _ h _ => h, fun v _ _ h _ => h, fun v _ _ h _ => h, fun v _ _ h _ => h, fun v _ _ h _ => h, fun v _ _ h _ => h, fun v _ _ h _ => h, fun v _ _ h _ => h, fun v _ _ h _ => h, fun v _ _ h _ => h, fun v _ _ h _ => h⟩
            case hstep =>
              simp only [List.length_cons, List.length_nil, Nat.reduceAdd, List.take_succ_cons, List.take_zero, stepsAll, and_true]
              refine ⟨?_, ?_, ?_, ?_, ?_, ?_, ?_, ?_, ?_, ?_, ?_, ?_, ?_, ?_, ?_, ?_, ?_, ?_, ?_, ?_, ?_, ?_, ?_, ?_, ?_, ?_⟩
              · intro x W he f
                have h0 : x 4 = .pointer (some ⟨wr.heap.size, 0, none⟩) := f.1
                have q0 := (rb.ext he).cell (j := 0) rfl
                have q1 := (rb.ext he).cell (j := 1) rfl
                have q2 := (rb.ext he).cell (j := 2) rfl
                have q3 := (rb.ext he).cell (j := 3) rfl
                have q4 := (rb.ext he).cell (j := 4) rfl
                have q5 := (rb.ext he).cell (j := 5) rfl
                have q6 := (rb.ext he).cell (j := 6) rfl
                go_wp
                exact stepQ_ok rfl (Ext.refl _)
              · intro x W he f
                have h0 : x 19 = entV m (.slice C1 m.seen.length c1) (.slice C2 m.counts.length c2) (.slice C3 m.items.length c3) := f.1
                have HC := Lib.hid (mayE_any (hEA2.ext he) (Nat.le_trans hsm.items (by decide)))
                rw [hb] at HC
                go_wp
                refine HC.out.mono ?_
                rintro r W2 ⟨rfl, hx2⟩
                dsimp only
                go_wp
                exact stepQ_ok rfl hx2
              · intro x W he f
                have h0 : x 20 = .bool true := f.1
                go_wp
                exact stepQ_ok rfl (Ext.refl _)
              · intro x W he f
                have h0 : x 21 = .bool false := f.1
                go_wp
                exact stepQ_ok rfl (Ext.refl _)
              · intro x W he f
                have h0 : x 3 = I pre.length := f.1
                have h1 : x 22 = .bool false := f.2.1
                go_wp
                exact stepQ_ok rfl (Ext.refl _)
              · intro x W he f
                have h0 : x 23 = I 0 := f.1
                have h1 : x 22 = .bool false := f.2.1
                go_wp
                exact stepQ_ok rfl (Ext.refl _)
              · intro x W he f
                have h0 : x 24 = .bool false := f.1
                have h1 : x 22 = .bool false := f.2.1
                go_wp
                exact stepQ_ok rfl (Ext.refl _)
              · intro x W he f
                have h0 : x 1 = .pointer (some ⟨w.heap.size, 0, none⟩) := f.1
                have h1 : x 25 = .bool false := f.2.1
                go_wp
                exact stepQ_ok rfl (Ext.refl _)
              · intro x W he f
                have h0 : x 26 = .tuple #[] := f.1
                have h1 : x 25 = .bool false := f.2.1
                have c1 := (HB.out.ext he).cell (j := 1) rfl
                go_wp
                exact stepQ_ok rfl (Ext.refl _)
              · intro x W he f
                have h0 : x 3 = I pre.length := f.1
                have h1 : x 25 = .bool false := f.2.1
                go_wp
                exact stepQ_ok rfl (Ext.refl _)
              · intro x W he f
                have h0 : x 28 = .tuple #[] := f.1
                have h1 : x 25 = .bool false := f.2.1
                go_wp
                exact stepQ_ok rfl (Ext.refl _)
              · intro x W he f
                have h0 : x 27 = .tuple #[] := f.1
                have h1 : x 29 = .tuple #[] := f.2.1
                have h2 : x 25 = .bool false := f.2.2.1
                go_wp
                exact stepQ_ok rfl (Ext.refl _)
              · intro x W he f
                have h0 : x 30 = .tuple #[] := f.1
                have h1 : x 25 = .bool false := f.2.1
                go_wp
                exact stepQ_ok rfl (Ext.refl _)
              · intro x W he f
                have h0 : x 31 = .tuple #[] := f.1
                have h1 : x 25 = .bool false := f.2.1
                go_wp
                exact stepQ_ok rfl (Ext.refl _)
              · intro x W he f
                have h0 : x 4 = .pointer (some ⟨wr.heap.size, 0, none⟩) := f.1
                have h1 : x 25 = .bool false := f.2.1
                go_wp
                exact stepQ_ok rfl (Ext.refl _)
              · intro x W he f
                have h0 : x 33 = .tuple #[] := f.1
                have h1 : x 25 = .bool false := f.2.1
                have q0 := (rb.ext he).cell (j := 0) rfl
                go_wp
                exact stepQ_ok rfl (Ext.refl _)
              · intro x W he f
                have h0 : x 32 = .tuple #[] := f.1
                have h1 : x 34 = .tuple #[] := f.2.1
                have h2 : x 25 = .bool false := f.2.2.1
                go_wp
                exact stepQ_ok rfl (Ext.refl _)
              · intro x W he f
                have h0 : x 25 = .bool false := f.1
                have h1 : x 35 = .tuple #[] := f.2.1
                have h2 : x 22 = .bool false := f.2.2.1
                go_wp
                exact stepQ_ok rfl (Ext.refl _)
              · intro x W he f
                have h0 : x 22 = .bool false := f.1
                have h1 : x 36 = .bool false := f.2.1
                go_wp
                exact stepQ_ok rfl (Ext.refl _)
              · intro x W he f
                have h0 : x 37 = .bool false := f.1
                go_wp
                exact stepQ_ok rfl (Ext.refl _)
              · intro x W he f
                have h0 : x 1 = .pointer (some ⟨w.heap.size, 0, none⟩) := f.1
                have h1 : x 38 = .bool false := f.2.1
                go_wp
                exact stepQ_ok rfl (Ext.refl _)
              · intro x W he f
                have h0 : x 39 = .pointer (some ⟨w.heap.size, 0, none⟩) := f.1
                have h1 : x 38 = .bool false := f.2.1
                have c1 := (HB.out.ext he).cell (j := 0) rfl
                go_wp
                exact stepQ_ok rfl (Ext.refl _)
              · intro x W he f
                have h0 : x 4 = .pointer (some ⟨wr.heap.size, 0, none⟩) := f.1
                have h1 : x 38 = .bool false := f.2.1
                go_wp
                exact stepQ_ok rfl (Ext.refl _)
              · intro x W he f
                have h0 : x 41 = .pointer (some ⟨wr.heap.size, 1, none⟩) := f.1
                have h1 : x 38 = .bool false := f.2.1
                have q1 := (rb.ext he).cell (j := 1) rfl
                go_wp
                exact stepQ_ok rfl (Ext.refl _)
              · intro x W he f
                have h0 : x 40 = .slice A1 sa.length n1 := f.1
                have h1 : x 42 = .slice C1 m.seen.length c1 := f.2.1
                have h2 : x 38 = .bool false := f.2.2.1
                have HC := Lib.hid (covers_any (HSA.out.ext (by decide) he) (hEA2.seen.ext (by decide) he) (Nat.le_trans hsa (by decide)) (Nat.le_trans hsm.seen (by decide)))
                go_wp
                refine HC.out.mono ?_
                rintro r W2 ⟨rfl, hx2⟩
                dsimp only
                go_wp
                exact stepQ_ok rfl hx2
              · intro x W he f
                have h0 : x 43 = .bool (coversM sa m.seen) := f.1
                have h1 : x 38 = .bool false := f.2.1
                go_wp
                exact stepQ_ok rfl (Ext.refl _)
            case hend =>
              intro x W he f
              have h38 : x 38 = .bool false := f.2.2.2.2.2.2.2.2.2.2.2.2.2.2.2.2.2.2.2.1
              have h44 : x 44 = .bool (!coversM sa m.seen) := f.2.2.2.2.2.2.2.2.2.2.2.2.2.2.2.2.2.2.2.2.2.2.2.2.2.1
              clear f
              have HX := Lib.hid (HXB.out.trans he)
              have HBW := Lib.hid (HB.out.ext he)
              simp only [List.length_cons, List.length_nil, Nat.reduceAdd, List.take_succ_cons, List.take_zero, List.filterMap_cons, List.filterMap_nil, List.drop_succ_cons, List.drop_zero, putAll, Act.put, List.setIfInBounds_toArray, List.set_cons_succ, List.set_cons_zero, h38, h44]
              cases hc : coversM sa m.seen with
              | false =>
                have HRF := Lib.hid (show mayS ⟨sa, se, sp⟩ = false by rw [HM2.out, HME.out, hc]; rfl)
                clear he
                go_wp
                go_wp2_with fail
                go_ret
                exact ⟨by rw [HRF.out]; rfl, HX.out⟩
              | true =>
                have HN := Lib.hid (show mayEs sa none se = mayEs sa ((pre ++ [m]).getLast?.map (·.key)) post by rw [HME.out, hc]; simp)
                clear he
                go_wp
                go_wp2_with fail
                go_roundw
                case rel => exact ⟨pre ++ [m], post, by rw [HL.out]; simp, by simp <;> omega, HN, HBW, HX.out⟩
                case measure => simp [intOf]; omega
          · rw [hp] at HME
            have k4 := pred_index h0 (by omega)
            have k5 : ((pre.length - 1 : Nat) : Int) < (se.length : Int) := by omega
            have k6 : (0 : Int) ≤ ((pre.length - 1 : Nat) : Int) := by omega
            have k7 : (((pre.length - 1 : Nat) : Int)).toNat = pre.length - 1 := by omega
            have k8 : (0 : Int) < (pre.length : Int) := by omega
            cases hlt2 : ltS q.key m.key with
            | false =>
              have HRF := Lib.hid (show mayS ⟨sa, se, sp⟩ = false by rw [HM2.out, HME.out]; simp only [hlt2]; rfl)
              refine wp_region_facts [fun v _ => v = entV m (.slice C1 m.seen.length c1) (.slice C2 m.counts.length c2) (.slice C3 m.items.length c3),
      fun v _ => v = .bool true,
      fun v _ => v = .bool false,
      fun v _ => v = .bool false,
      fun v _ => v = I pre.length,
      fun v _ => v = .bool true,
      fun v _ => v = .bool true,
      fun v _ => v = .pointer (some ⟨w.heap.size, 1, none⟩),
      fun v _ => v = .slice (some ⟨b, o, none⟩) se.length n2,
      fun v _ => v = I pre.length,
      fun v _ => v = I ((pre.length - 1 : Nat) : Int),
      fun v _ => v = .pointer (some ⟨b, o + (pre.length - 1) * 7, none⟩),
      fun v _ => v = .pointer (some ⟨b, o + (pre.length - 1) * 7, none⟩),
      fun v _ => v = St q.key,
      fun v _ => v = .pointer (some ⟨wr.heap.size, 0, none⟩),
      fun v _ => v = St m.key,
      fun v _ => v = .bool true,
      fun v _ => v = .bool true,
      fun v _ => v = .bool true,
      fun v _ => v = .bool true,
      fun v _ => v = .tuple #[],
      fun v _ => v = .tuple #[],
      fun v _ => v = .tuple #[],
      fun v _ => v = .tuple #[],
      fun v _ => v = .tuple #[],
      fun v _ => v = .tuple #[]] rfl (by kernel_rfl) ?hR ?hstep ?hend
              case hR =>
                simp only [List.mem_cons, List.not_mem_nil, or_false, forall_eq_or_imp, forall_eq]
                exact ⟨fun v _ _ h _ => h, fun v _ _ h _ => h, fun v _ _ h _ => h, fun v _ _ h _ => h, fun v _ _ h _ => h, fun v _ _ h _ => h, fun v _ _ h _ => h, fun v _ _ h _ => h, fun v _ _ h _ => h, fun v _ _ h _ => h, fun v _ _ h _ => h, fun v _ _ h _ => h, fun v _ _ h _ => h, fun v _ _ h _ => h, fun v _ _ h _ => h, fun v _ _ h _ => h, fun v _ _ h _ => h, fun v _ _ h _ => h, fun v _ _ h _ => h, fun v _ _ h _ => h, fun v _ _ h _ => h, fun v _ _ h _ => h, fun v _ _ h _ => h, fun v _ _ h _ => h, fun v _ _ h _ => h, fun v _ _ h _ => h⟩
              case hstep =>
                simp only [List.length_cons, List.length_nil, Nat.reduceAdd, List.take_succ_cons, List.take_zero, stepsAll, and_true]
                refine ⟨?_, ?_, ?_, ?_, ?_, ?_, ?_, ?_, ?_, ?_, ?_, ?_, ?_, ?_, ?_, ?_, ?_, ?_, ?_, ?_, ?_, ?_, ?_, ?_, ?_, ?_⟩
                · intro x W he f
                  have h0 : x 4 = .pointer (some ⟨wr.heap.size, 0, none⟩) := f.1
                  have q0 := (rb.ext he).cell (j := 0) rfl
                  have q1 := (rb.ext he).cell (j := 1) rfl
                  have q2 := (rb.ext he).cell (j := 2) rfl
                  have q3 := (rb.ext he).cell (j := 3) rfl
                  have q4 := (rb.ext he).cell (j := 4) rfl
                  have q5 := (rb.ext he).cell (j := 5) rfl
                  have q6 := (rb.ext he).cell (j := 6) rfl
                  go_wp
                  exact stepQ_ok rfl (Ext.refl _)
                · intro x W he f
                  have h0 : x 19 = entV m (.slice C1 m.seen.length c1) (.slice C2 m.counts.length c2) (.slice C3 m.items.length c3) := f.1
                  have HC := Lib.hid (mayE_any (hEA2.ext he) (Nat.le_trans hsm.items (by decide)))
                  rw [hb] at HC
                  go_wp
                  refine HC.out.mono ?_
                  rintro r W2 ⟨rfl, hx2⟩
                  dsimp only
                  go_wp
                  exact stepQ_ok rfl hx2
                · intro x W he f
                  have h0 : x 20 = .bool true := f.1
                  go_wp
                  exact stepQ_ok rfl (Ext.refl _)
                · intro x W he f
                  have h0 : x 21 = .bool false := f.1
                  go_wp
                  exact stepQ_ok rfl (Ext.refl _)
                · intro x W he f
                  have h0 : x 3 = I pre.length := f.1
                  have h1 : x 22 = .bool false := f.2.1
                  go_wp
                  exact stepQ_ok rfl (Ext.refl _)
                · intro x W he f
                  have h0 : x 23 = I pre.length := f.1
                  have h1 : x 22 = .bool false := f.2.1
                  go_wp
                  exact stepQ_ok rfl (Ext.refl _)
                · intro x W he f
                  have h0 : x 24 = .bool true := f.1
                  have h1 : x 22 = .bool false := f.2.1
                  go_wp
                  exact stepQ_ok rfl (Ext.refl _)
                · intro x W he f
                  have h0 : x 1 = .pointer (some ⟨w.heap.size, 0, none⟩) := f.1
                  have h1 : x 25 = .bool true := f.2.1
                  go_wp
                  exact stepQ_ok rfl (Ext.refl _)
                · intro x W he f
                  have h0 : x 26 = .pointer (some ⟨w.heap.size, 1, none⟩) := f.1
                  have h1 : x 25 = .bool true := f.2.1
                  have c1 := (HB.out.ext he).cell (j := 1) rfl
                  go_wp
                  exact stepQ_ok rfl (Ext.refl _)
                · intro x W he f
                  have h0 : x 3 = I pre.length := f.1
                  have h1 : x 25 = .bool true := f.2.1
                  go_wp
                  exact stepQ_ok rfl (Ext.refl _)
                · intro x W he f
                  have h0 : x 28 = I pre.length := f.1
                  have h1 : x 25 = .bool true := f.2.1
                  go_wp
                  exact stepQ_ok rfl (Ext.refl _)
                · intro x W he f
                  have h0 : x 27 = .slice (some ⟨b, o, none⟩) se.length n2 := f.1
                  have h1 : x 29 = I ((pre.length - 1 : Nat) : Int) := f.2.1
                  have h2 : x 25 = .bool true := f.2.2.1
                  go_wp
                  exact stepQ_ok rfl (Ext.refl _)
                · intro x W he f
                  have h0 : x 30 = .pointer (some ⟨b, o + (pre.length - 1) * 7, none⟩) := f.1
                  have h1 : x 25 = .bool true := f.2.1
                  go_wp
                  exact stepQ_ok rfl (Ext.refl _)
                · intro x W he f
                  have h0 : x 31 = .pointer (some ⟨b, o + (pre.length - 1) * 7, none⟩) := f.1
                  have h1 : x 25 = .bool true := f.2.1
                  have c1 := he.cell hq0
                  go_wp
                  exact stepQ_ok rfl (Ext.refl _)
                · intro x W he f
                  have h0 : x 4 = .pointer (some ⟨wr.heap.size, 0, none⟩) := f.1
                  have h1 : x 25 = .bool true := f.2.1
                  go_wp
                  exact stepQ_ok rfl (Ext.refl _)
                · intro x W he f
                  have h0 : x 33 = .pointer (some ⟨wr.heap.size, 0, none⟩) := f.1
                  have h1 : x 25 = .bool true := f.2.1
                  have q0 := (rb.ext he).cell (j := 0) rfl
                  go_wp
                  exact stepQ_ok rfl (Ext.refl _)
                · intro x W he f
                  have h0 : x 32 = St q.key := f.1
                  have h1 : x 34 = St m.key := f.2.1
                  have h2 : x 25 = .bool true := f.2.2.1
                  go_wp
                  exact stepQ_ok rfl (Ext.refl _)
                · intro x W he f
                  have h0 : x 25 = .bool true := f.1
                  have h1 : x 35 = .bool true := f.2.1
                  have h2 : x 22 = .bool false := f.2.2.1
                  go_wp
                  exact stepQ_ok rfl (Ext.refl _)
                · intro x W he f
                  have h0 : x 22 = .bool false := f.1
                  have h1 : x 36 = .bool true := f.2.1
                  go_wp
                  exact stepQ_ok rfl (Ext.refl _)
                · intro x W he f
                  have h0 : x 37 = .bool true := f.1
                  go_wp
                  exact stepQ_ok rfl (Ext.refl _)
                · intro x W he f
                  have h0 : x 1 = .pointer (some ⟨w.heap.size, 0, none⟩) := f.1
                  have h1 : x 38 = .bool true := f.2.1
                  go_wp
                  exact stepQ_ok rfl (Ext.refl _)
                · intro x W he f
                  have h0 : x 39 = .tuple #[] := f.1
                  have h1 : x 38 = .bool true := f.2.1
                  have c1 := (HB.out.ext he).cell (j := 0) rfl
                  go_wp
                  exact stepQ_ok rfl (Ext.refl _)
                · intro x W he f
                  have h0 : x 4 = .pointer (some ⟨wr.heap.size, 0, none⟩) := f.1
                  have h1 : x 38 = .bool true := f.2.1
                  go_wp
                  exact stepQ_ok rfl (Ext.refl _)
                · intro x W he f
                  have h0 : x 41 = .tuple #[] := f.1
                  have h1 : x 38 = .bool true := f.2.1
                  have q1 := (rb.ext he).cell (j := 1) rfl
                  go_wp
                  exact stepQ_ok rfl (Ext.refl _)
                · intro x W he f
                  have h0 : x 40 = .tuple #[] := f.1
                  have h1 : x 42 = .tuple #[] := f.2.1
                  have h2 : x 38 = .bool true := f.2.2.1
                  go_wp
                  exact stepQ_ok rfl (Ext.refl _)
                · intro x W he f
                  have h0 : x 43 = .tuple #[] := f.1
                  have h1 : x 38 = .bool true := f.2.1
                  go_wp
                  exact stepQ_ok rfl (Ext.refl _)
              case hend =>
                intro x W he f
                have h38 : x 38 = .bool true := f.2.2.2.2.2.2.2.2.2.2.2.2.2.2.2.2.2.2.2.1
                clear f
                have HX := Lib.hid (HXB.out.trans he)
                have HBW := Lib.hid (HB.out.ext he)
                simp only [List.length_cons, List.length_nil, Nat.reduceAdd, List.take_succ_cons, List.take_zero, List.filterMap_cons, List.filterMap_nil, List.drop_succ_cons, List.drop_zero, putAll, Act.put, List.setIfInBounds_toArray, List.set_cons_succ, List.set_cons_zero, h38]
                clear he
                go_wp
                go_wp2_with fail
                go_ret
                exact ⟨by rw [HRF.out]; rfl, HX.out⟩
            | true =>
              have HME2 := Lib.hid (show mayEs sa none se = (coversM sa m.seen && mayEs sa (some m.key) post) by rw [HME.out]; simp only [hlt2]; rfl)
              refine wp_region_facts [fun v _ => v = entV m (.slice C1 m.seen.length c1) (.slice C2 m.counts.length c2) (.slice C3 m.items.length c3),
      fun v _ => v = .bool true,
      fun v _ => v = .bool false,
      fun v _ => v = .bool false,
      fun v _ => v = I pre.length,
      fun v _ => v = .bool true,
      fun v _ => v = .bool true,
      fun v _ => v = .pointer (some ⟨w.heap.size, 1, none⟩),
      fun v _ => v = .slice (some ⟨b, o, none⟩) se.length n2,
      fun v _ => v = I pre.length,
      fun v _ => v = I ((pre.length - 1 : Nat) : Int),
      fun v _ => v = .pointer (some ⟨b, o + (pre.length - 1) * 7, none⟩),
      fun v _ => v = .pointer (some ⟨b, o + (pre.length - 1) * 7, none⟩),
      fun v _ => v = St q.key,
      fun v _ => v = .pointer (some ⟨wr.heap.size, 0, none⟩),
      fun v _ => v = St m.key,
      fun v _ => v = .bool false,
      fun v _ => v = .bool false,
      fun v _ => v = .bool false,
      fun v _ => v = .bool false,
      fun v _ => v = .pointer (some ⟨w.heap.size, 0, none⟩),
      fun v _ => v = .slice A1 sa.length n1,
      fun v _ => v = .pointer (some ⟨wr.heap.size, 1, none⟩),
      fun v _ => v = .slice C1 m.seen.length c1,
      fun v _ => v = .bool (coversM sa m.seen),
      fun v _ => v = .bool (!coversM sa m.seen)] rfl (by kernel_rfl) ?hR ?hstep ?hend
              case hR =>
                simp only [List.mem_cons, List.not_mem_nil, or_false, forall_eq_or_imp, forall_eq]
                exact ⟨fun v _ _ h _ => h, fun v _ _ h _ => h, fun v _ _ h _ => h, fun v _ _ h _ => h, fun v _ _ h _ => h, fun v _ _ h _ => h, fun v _ _ h _ => h, fun v _ _ h _ => h, fun v _ _ h _ => h, fun v _ _ h _ => h, fun v _ _ h _ => h, fun v _ _ h _ => h, fun v _ _ h _ => h, fun v _ _ h _ => h, fun v _ _ h _ => h, fun v _ _ h _ => h, fun v _ _ h _ => h, fun v _ _ h _ => h, fun v _ _ h _ => h, fun v _ _ h _ => h, fun v _ _ h _ => h, fun v _ _ h _ => h, fun v _ _ h _ => h, fun v _ _ h _ => h, fun v _ _ h _ => h, fun v _ _ h _ => h⟩
              case hstep =>
                simp only [List.length_cons, List.length_nil, Nat.reduceAdd, List.take_succ_cons, List.take_zero, stepsAll, and_true]
                refine ⟨?_, ?_, ?_, ?_, ?_, ?_, ?_, ?_, ?_, ?_, ?_, ?_, ?_, ?_, ?_, ?_, ?_, ?_, ?_, ?_, ?_, ?_, ?_, ?_, ?_, ?_⟩
                · intro x W he f
                  have h0 : x 4 = .pointer (some ⟨wr.heap.size, 0, none⟩) := f.1
                  have q0 := (rb.ext he).cell (j := 0) rfl
                  have q1 := (rb.ext he).cell (j := 1) rfl
                  have q2 := (rb.ext he).cell (j := 2) rfl
                  have q3 := (rb.ext he).cell (j := 3) rfl
                  have q4 := (rb.ext he).cell (j := 4) rfl
                  have q5 := (rb.ext he).cell (j := 5) rfl
                  have q6 := (rb.ext he).cell (j := 6) rfl
                  go_wp
                  exact stepQ_ok rfl (Ext.refl _)
                · intro x W he f
                  have h0 : x 19 = entV m (.slice C1 m.seen.length c1) (.slice C2 m.counts.length c2) (.slice C3 m.items.length c3) := f.1
                  have HC := Lib.hid (mayE_any (hEA2.ext he) (Nat.le_trans hsm.items (by decide)))
                  rw [hb] at HC
                  go_wp
                  refine HC.out.mono ?_
                  rintro r W2 ⟨rfl, hx2⟩
                  dsimp only
                  go_wp
                  exact stepQ_ok rfl hx2
                · intro x W he f
                  have h0 : x 20 = .bool true := f.1
                  go_wp
                  exact stepQ_ok rfl (Ext.refl _)
                · intro x W he f
                  have h0 : x 21 = .bool false := f.1
                  go_wp
                  exact stepQ_ok rfl (Ext.refl _)
                · intro x W he f
                  have h0 : x 3 = I pre.length := f.1
                  have h1 : x 22 = .bool false := f.2.1
                  go_wp
                  exact stepQ_ok rfl (Ext.refl _)
                · intro x W he f
                  have h0 : x 23 = I pre.length := f.1
                  have h1 : x 22 = .bool false := f.2.1
                  go_wp
                  exact stepQ_ok rfl (Ext.refl _)
                · intro x W he f
                  have h0 : x 24 = .bool true := f.1
                  have h1 : x 22 = .bool false := f.2.1
                  go_wp
                  exact stepQ_ok rfl (Ext.refl _)
                · intro x W he f
                  have h0 : x 1 = .pointer (some ⟨w.heap.size, 0, none⟩) := f.1
                  have h1 : x 25 = .bool true := f.2.1
                  go_wp
                  exact stepQ_ok rfl (Ext.refl _)
                · intro x W he f
                  have h0 : x 26 = .pointer (some ⟨w.heap.size, 1, none⟩) := f.1
                  have h1 : x 25 = .bool true := f.2.1
                  have c1 := (HB.out.ext he).cell (j := 1) rfl
                  go_wp
                  exact stepQ_ok rfl (Ext.refl _)
                · intro x W he f
                  have h0 : x 3 = I pre.length := f.1
                  have h1 : x 25 = .bool true := f.2.1
                  go_wp
                  exact stepQ_ok rfl (Ext.refl _)
                · intro x W he f
                  have h0 : x 28 = I pre.length := f.1
                  have h1 : x 25 = .bool true := f.2.1
                  go_wp
                  exact stepQ_ok rfl (Ext.refl _)
                · intro x W he f
                  have h0 : x 27 = .slice (some ⟨b, o, none⟩) se.length n2 := f.1
                  have h1 : x 29 = I ((pre.length - 1 : Nat) : Int) := f.2.1
                  have h2 : x 25 = .bool true := f.2.2.1
                  go_wp
                  exact stepQ_ok rfl (Ext.refl _)
                · intro x W he f
                  have h0 : x 30 = .pointer (some ⟨b, o + (pre.length - 1) * 7, none⟩) := f.1
                  have h1 : x 25 = .bool true := f.2.1
                  go_wp
                  exact stepQ_ok rfl (Ext.refl _)
                · intro x W he f
                  have h0 : x 31 = .pointer (some ⟨b, o + (pre.length - 1) * 7, none⟩) := f.1
                  have h1 : x 25 = .bool true := f.2.1
                  have c1 := he.cell hq0
                  go_wp
                  exact stepQ_ok rfl (Ext.refl _)
                · intro x W he f
                  have h0 : x 4 = .pointer (some ⟨wr.heap.size, 0, none⟩) := f.1
                  have h1 : x 25 = .bool true := f.2.1
                  go_wp
                  exact stepQ_ok rfl (Ext.refl _)
                · intro x W he f
                  have h0 : x 33 = .pointer (some ⟨wr.heap.size, 0, none⟩) := f.1
                  have h1 : x 25 = .bool true := f.2.1
                  have q0 := (rb.ext he).cell (j := 0) rfl
                  go_wp
                  exact stepQ_ok rfl (Ext.refl _)
                · intro x W he f
                  have h0 : x 32 = St q.key := f.1
                  have h1 : x 34 = St m.key := f.2.1
                  have h2 : x 25 = .bool true := f.2.2.1
                  go_wp
                  exact stepQ_ok rfl (Ext.refl _)
                · intro x W he f
                  have h0 : x 25 = .bool true := f.1
                  have h1 : x 35 = .bool false := f.2.1
                  have h2 : x 22 = .bool false := f.2.2.1
                  go_wp
                  exact stepQ_ok rfl (Ext.refl _)
                · intro x W he f
                  have h0 : x 22 = .bool false := f.1
                  have h1 : x 36 = .bool false := f.2.1
                  go_wp
                  exact stepQ_ok rfl (Ext.refl _)
                · intro x W he f
                  have h0 : x 37 = .bool false := f.1
                  go_wp
                  exact stepQ_ok rfl (Ext.refl _)
                · intro x W he f
                  have h0 : x 1 = .pointer (some ⟨w.heap.size, 0, none⟩) := f.1
                  have h1 : x 38 = .bool false := f.2.1
                  go_wp
                  exact stepQ_ok rfl (Ext.refl _)
                · intro x W he f
                  have h0 : x 39 = .pointer (some ⟨w.heap.size, 0, none⟩) := f.1
                  have h1 : x 38 = .bool false := f.2.1
                  have c1 := (HB.out.ext he).cell (j := 0) rfl
                  go_wp
                  exact stepQ_ok rfl (Ext.refl _)
                · intro x W he f
                  have h0 : x 4 = .pointer (some ⟨wr.heap.size, 0, none⟩) := f.1
                  have h1 : x 38 = .bool false := f.2.1
                  go_wp
                  exact stepQ_ok rfl (Ext.refl _)
                · intro x W he f
                  have h0 : x 41 = .pointer (some ⟨wr.heap.size, 1, none⟩) := f.1
                  have h1 : x 38 = .bool false := f.2.1
                  have q1 := (rb.ext he).cell (j := 1) rfl
                  go_wp
                  exact stepQ_ok rfl (Ext.refl _)
                · intro x W he f
                  have h0 : x 40 = .slice A1 sa.length n1 := f.1
                  have h1 : x 42 = .slice C1 m.seen.length c1 := f.2.1
                  have h2 : x 38 = .bool false := f.2.2.1
                  have HC := Lib.hid (covers_any (HSA.out.ext (by decide) he) (hEA2.seen.ext (by decide) he) (Nat.le_trans hsa (by decide)) (Nat.le_trans hsm.seen (by decide)))
                  go_wp
                  refine HC.out.mono ?_
                  rintro r W2 ⟨rfl, hx2⟩
                  dsimp only
                  go_wp
                  exact stepQ_ok rfl hx2
                · intro x W he f
                  have h0 : x 43 = .bool (coversM sa m.seen) := f.1
                  have h1 : x 38 = .bool false := f.2.1
                  go_wp
                  exact stepQ_ok rfl (Ext.refl _)
              case hend =>
                intro x W he f
                have h38 : x 38 = .bool false := f.2.2.2.2.2.2.2.2.2.2.2.2.2.2.2.2.2.2.2.1
                have h44 : x 44 = .bool (!coversM sa m.seen) := f.2.2.2.2.2.2.2.2.2.2.2.2.2.2.2.2.2.2.2.2.2.2.2.2.2.1
                clear f
                have HX := Lib.hid (HXB.out.trans he)
                have HBW := Lib.hid (HB.out.ext he)
                simp only [List.length_cons, List.length_nil, Nat.reduceAdd, List.take_succ_cons, List.take_zero, List.filterMap_cons, List.filterMap_nil, List.drop_succ_cons, List.drop_zero, putAll, Act.put, List.setIfInBounds_toArray, List.set_cons_succ, List.set_cons_zero, h38, h44]
                cases hc : coversM sa m.seen with
                | false =>
                  have HRF := Lib.hid (show mayS ⟨sa, se, sp⟩ = false by rw [HM2.out, HME2.out, hc]; rfl)
                  clear he
                  go_wp
                  go_wp2_with fail
                  go_ret
                  exact ⟨by rw [HRF.out]; rfl, HX.out⟩
                | true =>
                  have HN := Lib.hid (show mayEs sa none se = mayEs sa ((pre ++ [m]).getLast?.map (·.key)) post by rw [HME2.out, hc]; simp)
                  clear he
                  go_wp
                  go_wp2_with fail
                  go_roundw
                  case rel => exact ⟨pre ++ [m], post, by rw [HL.out]; simp, by simp <;> omega, HN, HBW, HX.out⟩
                  case measure => simp [intOf]; omega
      | nil =>
        rw [List.append_nil] at hl
        have hln : se.length = pre.length := by rw [hl]
        have HM3 := Lib.hid (show mayS ⟨sa, se, sp⟩ = mayPs sa none sp by rw [HM2.out, hme.out]; simp [mayEs])
        have c2 := hrow.out.cell (j := 2) rfl
        have HX := Lib.hid hx
        have HSA := Lib.hid H.out.all
        clear hl hme hx HM2
        go_wp2_with fail
        obtain ⟨wo, rfl⟩ : ∃ wo : World, wo = wr := ⟨_, rfl⟩
        go_loopw [50] (fun i wr2 => ∃ p2 q2, sp = p2 ++ q2 ∧ i = I p2.length ∧ Hid (mayPs sa none sp = mayPs sa p2.getLast? q2) ∧ Hid (RowIs wr2 w.heap.size 30 [.slice A1 sa.length n1, .slice A2 se.length n2, .slice A3 sp.length n3] []) ∧ Ext w wr2) (fun i _ => sp.length - (intOf i).toNat)
        case atStart => exact ⟨[], sp, rfl, rfl, Lib.hid rfl, hrow, HX.out⟩
        case round =>
          obtain ⟨p2, q2, hl2, rfl, hmp, hrow2, hx2⟩ := hrel
          cases q2 with
          | cons p q2 =>
            obtain ⟨b, o, rfl, e0⟩ := HPT.out p2 q2 p wr hx2 hl2
            have hlt2 : p2.length < sp.length := by rw [hl2]; simp
            have HL2 := Lib.hid hl2
            have hprev : (p2.length = 0 ∧ p2.getLast? = none) ∨ (0 < p2.length ∧ ∃ q : Str, p2.getLast? = some q ∧ wr.cell? ⟨b, o + (p2.length - 1), none⟩ = some (St q)) := by
              rcases Nat.eq_zero_or_pos p2.length with h0 | h0
              · exact .inl ⟨h0, by rw [List.eq_nil_of_length_eq_zero h0]; rfl⟩
              · obtain ⟨p', q, f1, f2, f3⟩ := getLast_at h0
                obtain ⟨b', o', e, q0⟩ := HPT.out p' (p :: q2) q wr hx2 (by rw [hl2, f1]; simp)
                cases e
                rw [f3] at q0
                exact .inr ⟨h0, q, f2, q0⟩
            have r0 := hrow2.out.cell (j := 0) rfl
            have r2 := hrow2.out.cell (j := 2) rfl
            have HMP := Lib.hid (show mayPs sa none sp = (!p.isEmpty && ((match p2.getLast? with | none => true | some k => ltS k p) && (decide (ofM sa p = 0) && mayPs sa (some p) q2))) from hmp.out)
            have HX2 := Lib.hid hx2
            have HOF := Lib.hid (of_any p (HSA.out.ext (by decide) hx2))
            clear hl2 hmp hx2
            by_cases hpe : p = []
            · subst hpe
              have HRF := Lib.hid (show mayS ⟨sa, se, sp⟩ = false by rw [HM3.out, HMP.out]; rfl)
              clear hprev HOF
              go_wp2_with fail
              go_ret
              exact ⟨by rw [HRF.out]; rfl, HX2.out⟩
            · have hpb : (p == []) = false := by simpa using hpe
              have hpi : p.isEmpty = false := by cases p with | nil => exact absurd rfl hpe | cons _ _ => rfl
              rw [hpi] at HMP
              clear hpe hpi
              rcases hprev with ⟨h0, hp⟩ | ⟨h0, q, hp, hq0⟩
              · rw [hp] at HMP
                obtain rfl := List.eq_nil_of_length_eq_zero h0
                simp only [List.length_nil, Nat.add_zero] at e0
                have HME2 := Lib.hid (show mayPs sa none sp = (decide (ofM sa p = 0) && mayPs sa (some p) q2) from HMP.out)
                clear hp
                go_wp2_with fail
                refine HOF.out.mono ?_
                rintro r W2 ⟨rfl, hx3⟩
                have HX3 := Lib.hid (HX2.out.trans hx3)
                have HRW := Lib.hid (hrow2.out.ext hx3)
                obtain ⟨z, hz9⟩ : ∃ z, ofM sa p = z := ⟨_, rfl⟩
                rw [hz9] at HME2
                rw [hz9]
                clear hx3 hz9
                rcases Nat.eq_zero_or_pos z with h9 | h9
                · subst h9
                  have HN := Lib.hid (show mayPs sa none sp = mayPs sa ((([] : List Str) ++ [p]).getLast?) q2 by rw [HME2.out]; simp)
                  go_wp2_with fail
                  go_roundw
                  case rel => exact ⟨[] ++ [p], q2, by rw [HL2.out]; simp, by simp, HN, HRW, HX3.out⟩
                  case measure => simp [intOf]; omega
                · have HRF := Lib.hid (show mayS ⟨sa, se, sp⟩ = false by rw [HM3.out, HME2.out]; simp; omega)
                  have h10 : (z : Int) > 0 := by omega
                  go_wp2_with fail
                  go_ret
                  exact ⟨by rw [HRF.out]; rfl, HX3.out⟩
              · rw [hp] at HMP
                have k4 := pred_index h0 (by omega)
                have k5 : ((p2.length - 1 : Nat) : Int) < (sp.length : Int) := by omega
                have k6 : (0 : Int) ≤ ((p2.length - 1 : Nat) : Int) := by omega
                have k7 : (((p2.length - 1 : Nat) : Int)).toNat = p2.length - 1 := by omega
                have k8 : (0 : Int) < (p2.length : Int) := by omega
                clear hp
                cases hlt3 : ltS q p with
                | false =>
                  have HRF := Lib.hid (show mayS ⟨sa, se, sp⟩ = false by rw [HM3.out, HMP.out]; simp only [hlt3]; rfl)
                  clear HOF
                  go_wp2_with fail
                  go_ret
                  exact ⟨by rw [HRF.out]; rfl, HX2.out⟩
                | true =>
                  have HME2 := Lib.hid (show mayPs sa none sp = (decide (ofM sa p = 0) && mayPs sa (some p) q2) by rw [HMP.out]; simp only [hlt3]; rfl)
                  go_wp2_with fail
                  refine HOF.out.mono ?_
                  rintro r W2 ⟨rfl, hx3⟩
                  have HX3 := Lib.hid (HX2.out.trans hx3)
                  have HRW := Lib.hid (hrow2.out.ext hx3)
                  obtain ⟨z, hz9⟩ : ∃ z, ofM sa p = z := ⟨_, rfl⟩
                  rw [hz9] at HME2
                  rw [hz9]
                  clear hx3 hz9
                  rcases Nat.eq_zero_or_pos z with h9 | h9
                  · subst h9
                    have HN := Lib.hid (show mayPs sa none sp = mayPs sa ((p2 ++ [p]).getLast?) q2 by rw [HME2.out]; simp)
                    go_wp2_with fail
                    go_roundw
                    case rel => exact ⟨p2 ++ [p], q2, by rw [HL2.out]; simp, by simp <;> omega, HN, HRW, HX3.out⟩
                    case measure => simp [intOf]; omega
                  · have HRF := Lib.hid (show mayS ⟨sa, se, sp⟩ = false by rw [HM3.out, HME2.out]; simp; omega)
                    have h10 : (z : Int) > 0 := by omega
                    go_wp2_with fail
                    go_ret
                    exact ⟨by rw [HRF.out]; rfl, HX3.out⟩
          | nil =>
            rw [List.append_nil] at hl2
            have hln2 : sp.length = p2.length := by rw [hl2]
            have HRT := Lib.hid (show mayS ⟨sa, se, sp⟩ = true by rw [HM3.out, hmp.out]; rfl)
            have HX2 := Lib.hid hx2
            clear hl2 hmp hx2
            go_wp2_with fail
            go_ret
            exact ⟨by rw [HRT.out]; rfl, HX2.out⟩
end Go.Proofs.YtdikcgmdmcfpfaaGreat
namespace Go.Proofs.YtdikcgmdmcfpfaaGreat
open Go.RowKit Go.Shelf

theorem Grew.setRow {w w1 : World} {v v' : Value} (h : Grew w w1 v v') {g : Nat} (hg : ownBlk v g ∨ w.heap.size ≤ g) (cs : Array Value) : Grew w (w1.setRow g cs) v v' :=
  ⟨h.os, h.tape, h.output, Nat.le_trans h.size (by simp [World.setRow]), fun b hb hn => (setRow_other w1 g b _ (fun e => by subst e; rcases hg with hg | hg; exact hn hg; omega)).trans (h.same b hb hn), h.blk⟩

/-- copy into the middle of a row that is known whole -/
theorem run_copy_split {P : Program} {w : World} {dT sT elem T g o dLen dCap sLen sCap k m : Nat} {s : Addr} {a b c cs : List Value} (hu : P.underlying dT = some (.slice elem)) (hs : (P.info? elem).map (·.size) = some k)
    (h : RowIs w g T (a ++ (b ++ c)) []) (ho : a.length = o) (hm : m = Nat.min sLen dLen) (hl : cs.length = m * k) (hb : b.length = cs.length) (hsrc : ∀ j v, cs[j]? = some v → w.cell? (s.add j) = some v) (h1 : ∀ v ∈ cs, v.oneCell' = true) (ty : TypeId) :
    (Builtin.copy_ #[dT, sT] ty #[.slice (some ⟨g, o, none⟩) dLen dCap, .slice (some s) sLen sCap]).run P w = .ok (goInt m) (w.setRow g (a ++ (cs ++ c)).toArray) := by
  have hl2 := run_loadCells_list (P := P) w s cs hsrc
  unfold RowIs at h
  rw [List.append_nil] at h
  have hst := run_storeCells_at P g o T cs 0 _ w h (by simp; omega) h1
  have e : ((a ++ (b ++ c)).toArray.toList.take (o + 0) ++ cs ++ (a ++ (b ++ c)).toArray.toList.drop (o + 0 + cs.length)) = a ++ (cs ++ c) := by
    subst ho
    simp only [Nat.add_zero, List.take_left, List.append_assoc]
    congr 2
    rw [List.drop_append, ← hb]
    simp
  rw [e] at hst
  cases hq : P.info? elem with
  | none => simp [hq] at hs
  | some i =>
    have hi : i.size = k := by simpa [hq] using hs
    rw [hl] at hl2
    simp [Builtin.copy_, run_underlying hu, Builtin.lenOf, Builtin.firstCells, sizeOf, typeInfo, hq, hi, ← hm, hl2, hst]

theorem wpList_copy_runI {P : Program} (w : World) {ops : Array Oper} {rest : List Oper} {o : Oper} {a : Act} {Q : Exit → Act → World → Prop} (hgd : o.guard = none) (d s : Operand) (t t' : TypeId)
    (ho : o.op = .call { callee := .builtin .copy, args := #[d, s], argTypes := #[t, t'] }) (v u : Value) (hd : a.eval d = v) (hs : a.eval s = u) {v' : Value} {w' : World}
    (hr : (Builtin.copy_ #[t, t'] o.type #[v, u]).run P w = .ok v' w') (h : wpList P ops Q rest (a.put o.dst v') w') : wpList P ops Q (o :: rest) a w :=
  wpList_plain hgd fun _ hK => by
    unfold Oper.wp execOp
    simp only [ho, resolve, invoke, builtin, Sem.run_bind, Sem.run_pure, Result.andThen_ok, List.map_toArray, List.map_cons, List.map_nil, hd, hs, hr]
    exact hK _ _ h
theorem step_copy_runI {P : Program} {ops : Array Oper} {o : Oper} {a : Act} {w : World} {K : Act → World → Prop} {Q : Exit → Act → World → Prop} {E : Prop}
    (hg : o.guard = none) (d x : Operand) (dT sT : TypeId) (hop : o.op = Op.call { callee := Callee.builtin Builtin.copy, args := #[d, x], argTypes := #[dT, sT] })
    (v u : Value) (hd : a.eval d = v) (hx : a.eval x = u) {v' : Value} {w' : World} (hr : (Builtin.copy_ #[dT, sT] o.type #[v, u]).run P w = .ok v' w') (hK : K (a.put o.dst v') w') :
    if Region.wanted o (yielded ops a.tmps) = true then Oper.wp P o a w K Q else E := by
  have hw : Region.wanted o (yielded ops a.tmps) = true := by simp [Region.wanted, hg]
  rw [if_pos hw]
  unfold Oper.wp
  simp [execOp, hop, resolve, invoke, builtin, hd, hx, hr, Result.andThen]
  exact hK
theorem wpList_append_runI {P : Program} (w : World) {ops : Array Oper} {rest : List Oper} {o : Oper} {a : Act} {Q : Exit → Act → World → Prop} (hgd : o.guard = none) (d s : Operand) (t t' : TypeId)
    (ho : o.op = .call { callee := .builtin .append, args := #[d, s], argTypes := #[t, t'] }) (v u : Value) (hd : a.eval d = v) (hs : a.eval s = u) {v' : Value} {w' : World}
    (hr : (Builtin.append_ #[t, t'] o.type #[v, u]).run P w = .ok v' w') (h : wpList P ops Q rest (a.put o.dst v') w') : wpList P ops Q (o :: rest) a w :=
  wpList_plain hgd fun _ hK => by
    unfold Oper.wp execOp
    simp only [ho, resolve, invoke, builtin, Sem.run_bind, Sem.run_pure, Result.andThen_ok, List.map_toArray, List.map_cons, List.map_nil, hd, hs, hr]
    exact hK _ _ h

abbrev zeroEnt : Value := .agg #[St [], .slice none 0 0, .slice none 0 0, .slice none 0 0, U 0, St [], .bool false]
theorem size_entry : (Tryz.prog.info? 37).map (·.size) = some 7 := by
  have := info_entry
  cases h : Tryz.prog.info? 37 with
  | none => rw [h] at this; simp at this
  | some i => rw [h] at this; simp at this; simp [this.2.1]

set_option maxRecDepth 100000 in
set_option maxHeartbeats 1000000 in
/-- at the end -/
theorem insert_end {base : Nat} {v : Value} {n vb : Nat} {xs ys : List Value} {w : World} (ho : Own w base 37 7 v n xs) (hy : RowIs w vb 37 ys []) (hyl : ys.length = 7) (hy1 : ∀ u ∈ ys, u.oneCell' = true) (hn : n ≤ 549755813888) (hb : base ≤ w.heap.size) :
    Calls Tryz.prog 46 #[v, I n, .slice (some ⟨vb, 0, none⟩) 1 1] w fun r w' => ∃ v', r = .returned v' ∧ Own w' base 37 7 v' (n + 1) (xs ++ ys) ∧ Grew w w' v v' := by
  have HS : Src w 7 (some ⟨vb, 0, none⟩) 1 ys := ⟨by omega, hy1, fun _ => ⟨vb, 0, rfl, fun j u hj => by rw [Nat.zero_add]; exact hy.cell hj⟩⟩
  have HO := Lib.hid ho
  obtain ⟨A, c, rfl, h1, h2⟩ := ho.form
  clear ho
  cases A with
  | none =>
    go_enter Tryz.func46, Tryz.ntmps46
    go_wp2_with (at_builtin; refine wpList_append_Own rfl (.tmp 23) (.tmp 24) 27 rfl base 37 7 120 zeroEnt Tryz.underlying27 info_entry rfl (by omega) (.slice none n c) n xs rfl HO.out (some ⟨vb, 0, none⟩) 1 1 ys rfl HS (by omega) (by omega) hb ?_; intro v' w' hown hgr)
    go_ret
    exact ⟨_, rfl, hown, hgr⟩
  | some A =>
    rcases Nat.eq_or_lt_of_le h1 with h3 | h3
    · subst h3
      go_enter Tryz.func46, Tryz.ntmps46
      go_wp2_with (at_builtin; refine wpList_append_Own rfl (.tmp 23) (.tmp 24) 27 rfl base 37 7 120 zeroEnt Tryz.underlying27 info_entry rfl (by omega) (.slice (some A) n n) n xs rfl HO.out (some ⟨vb, 0, none⟩) 1 1 ys rfl HS (by omega) (by omega) hb ?_; intro v' w' hown hgr)
      go_ret
      exact ⟨_, rfl, hown, hgr⟩
    · have h4 : ¬ (c = n) := by omega
      go_enter Tryz.func46, Tryz.ntmps46
      go_wp2_with (at_builtin; refine wpList_append_Own rfl (.tmp 23) (.tmp 24) 27 rfl base 37 7 120 zeroEnt Tryz.underlying27 info_entry rfl (by omega) (.slice (some A) n c) n xs rfl HO.out (some ⟨vb, 0, none⟩) 1 1 ys rfl HS (by omega) (by omega) hb ?_; intro v' w' hown hgr)
      go_ret
      exact ⟨_, rfl, hown, hgr⟩

theorem take_dropL {α : Type} (l : List α) (i : Nat) : l.take i ++ l.drop i = l := List.take_append_drop i l

set_option maxRecDepth 100000 in
set_option maxHeartbeats 1000000 in
/-- within, there is room: in place -/
theorem insert_shift {base g cap : Nat} {n i vb : Nat} {xs tail ys : List Value} {w : World} (hg : RowIs w g 37 xs tail) (hbg : base ≤ g) (hx : xs.length = n * 7) (hcap : (xs ++ tail).length = cap * 7) (hroom : n + 1 ≤ cap) (hm : cap ≤ 9223372036854775807)
    (hy : RowIs w vb 37 ys []) (hyl : ys.length = 7) (hy1 : ∀ u ∈ ys, u.oneCell' = true) (hx1 : ∀ u ∈ xs, u.oneCell' = true) (hi : i < n) (hne : vb ≠ g) :
    Calls Tryz.prog 46 #[.slice (some ⟨g, 0, none⟩) n cap, I i, .slice (some ⟨vb, 0, none⟩) 1 1] w fun r w' => ∃ v', r = .returned v' ∧ Own w' base 37 7 v' (n + 1) (xs.take (i * 7) ++ ys ++ xs.drop (i * 7)) ∧ Grew w w' (.slice (some ⟨g, 0, none⟩) n cap) v' := by
  have hT : tail.length = (cap - n) * 7 := by rw [List.length_append, hx] at hcap; omega
  obtain ⟨X1, hX1⟩ : ∃ X1, X1 = xs.take (i * 7) := ⟨_, rfl⟩
  obtain ⟨X2, hX2⟩ : ∃ X2, X2 = xs.drop (i * 7) := ⟨_, rfl⟩
  have hX : xs = X1 ++ X2 := by rw [hX1, hX2, take_dropL]
  have hl1 : X1.length = i * 7 := by rw [hX1, List.length_take, hx]; omega
  have hl2 : X2.length = (n - i) * 7 := by rw [hX2, List.length_drop, hx]; omega
  obtain ⟨R1, hR1⟩ : ∃ R1, R1 = (X2 ++ tail).take 7 := ⟨_, rfl⟩
  obtain ⟨R2, hR2⟩ : ∃ R2, R2 = ((X2 ++ tail).drop 7).take ((n - i) * 7) := ⟨_, rfl⟩
  obtain ⟨R3, hR3⟩ : ∃ R3, R3 = ((X2 ++ tail).drop 7).drop ((n - i) * 7) := ⟨_, rfl⟩
  have hR : xs ++ tail = (X1 ++ R1) ++ (R2 ++ R3) := by rw [hX, hR1, hR2, hR3, take_dropL, List.append_assoc, List.append_assoc, take_dropL]
  have hlR1 : R1.length = 7 := by rw [hR1, List.length_take, List.length_append, hl2, hT]; omega
  have hlR2 : R2.length = (n - i) * 7 := by rw [hR2, List.length_take, List.length_drop, List.length_append, hl2, hT]; omega
  have hg1 : RowIs w g 37 ((X1 ++ R1) ++ (R2 ++ R3)) [] := by unfold RowIs at hg ⊢; rw [List.append_nil, ← hR]; exact hg
  obtain ⟨N1, hN1⟩ : ∃ N1, N1 = ((X1 ++ R1) ++ (X2 ++ R3)).toArray := ⟨_, rfl⟩
  obtain ⟨N2, hN2⟩ : ∃ N2, N2 = (X1 ++ (ys ++ (X2 ++ R3))).toArray := ⟨_, rfl⟩
  obtain ⟨W2, hW2⟩ : ∃ W2, W2 = w.setRow g N1 := ⟨_, rfl⟩
  have hg2 : RowIs W2 g 37 (X1 ++ (R1 ++ (X2 ++ R3))) [] := by
    have := hg1.setRow ((X1 ++ R1) ++ (X2 ++ R3))
    rw [List.append_nil] at this
    rw [hW2, hN1, show X1 ++ (R1 ++ (X2 ++ R3)) = (X1 ++ R1) ++ (X2 ++ R3) from (List.append_assoc _ _ _).symm]
    exact this
  have hy2 : RowIs W2 vb 37 ys [] := hy.keep (by rw [hW2]; exact setRow_other w g vb _ hne)
  obtain ⟨W3, hW3⟩ : ∃ W3, W3 = W2.setRow g N2 := ⟨_, rfl⟩
  have hg3 : RowIs W3 g 37 (X1 ++ (ys ++ (X2 ++ R3))) [] := by
    have := hg2.setRow (X1 ++ (ys ++ (X2 ++ R3)))
    rw [List.append_nil] at this
    rw [hW3, hN2]
    exact this
  have hx2c : ∀ u ∈ X2, u.oneCell' = true := fun u hu => hx1 u (by rw [hX]; simp [hu])
  have hcpA : ∀ (W : World), W.heap = w.heap → ∀ ty dc sc, (Builtin.copy_ #[27, 27] ty #[.slice (some ⟨g, (i + 1) * 7, none⟩) (n - i) dc, .slice (some ⟨g, i * 7, none⟩) (n + 1 - i) sc]).run Tryz.prog W = .ok (goInt ((n - i : Nat) : Int)) (W.setRow g N1) := fun W hW ty dc sc => hN1 ▸
    run_copy_split (sT := 27) (m := n - i) (o := (i + 1) * 7) (dLen := n - i) (dCap := dc) (sLen := n + 1 - i) (sCap := sc) (s := ⟨g, i * 7, none⟩) (cs := X2) (c := R3) (k := 7) Tryz.underlying27 size_entry (show RowIs W g 37 ((X1 ++ R1) ++ (R2 ++ R3)) [] by unfold RowIs at hg1 ⊢; rw [hW]; exact hg1) (by rw [List.length_append, hl1, hlR1, Nat.add_mul])
      (by simp only [Nat.min_def]; split <;> omega) hl2 (by rw [hlR2, hl2]) (fun j u hj => by
        rw [add_none]
        have hg1' : RowIs W g 37 xs tail := by unfold RowIs at hg ⊢; rw [hW]; exact hg
        refine hg1'.cell ?_
        rw [hX, List.getElem?_append_right (by omega), hl1]
        rwa [show i * 7 + j - i * 7 = j by omega]) hx2c ty
  have hcpB : ∀ (W : World), W.heap = W2.heap → ∀ ty dc sc, (Builtin.copy_ #[27, 27] ty #[.slice (some ⟨g, i * 7, none⟩) (n + 1 - i) dc, .slice (some ⟨vb, 0, none⟩) 1 sc]).run Tryz.prog W = .ok (goInt 1) (W.setRow g N2) := fun W hW ty dc sc => hN2 ▸
    run_copy_split (sT := 27) (m := 1) (o := i * 7) (dLen := n + 1 - i) (dCap := dc) (sLen := 1) (sCap := sc) (s := ⟨vb, 0, none⟩) (cs := ys) (c := X2 ++ R3) (k := 7) Tryz.underlying27 size_entry (show RowIs W g 37 (X1 ++ (R1 ++ (X2 ++ R3))) [] by unfold RowIs at hg2 ⊢; rw [hW]; exact hg2) hl1
      (by simp only [Nat.min_def]; split <;> omega) (by omega) (by omega) (fun j u hj => by
        rw [add_none, Nat.zero_add]
        have hy2' : RowIs W vb 37 ys [] := by unfold RowIs at hy2 ⊢; rw [hW]; exact hy2
        exact hy2'.cell hj) hy1 ty
  have hov : ∀ (W : World) lb cb, W.heap = w.heap → (callFunc 97 #[.slice (some ⟨vb, 0, none⟩) 1 1, .slice (some ⟨g, (i + 1) * 7, none⟩) lb cb]).run Tryz.prog W = .ok (.value (.bool false)) W := fun W lb cb hW => by
    have s1 : W.heap[vb]? = some (.cells (ys ++ []).toArray 37 (0, 0)) := by rw [hW]; exact hy
    have s2 : W.heap[g]? = some (.cells (xs ++ tail).toArray 37 (0, 0)) := by rw [hW]; exact hg
    rw [run_callFunc_extern Tryz.func97 (by kernel_rfl) (by kernel_rfl) (by kernel_rfl) (e := Extern.SlicesOverlaps.overlaps #[27, 27] #[4]) (by kernel_rfl),
      Lib.run_overlaps_apart W 27 4 37 Tryz.underlying27 7 (fun w => Tryz.sizeOf37 w) ⟨vb, 0, none⟩ ⟨g, (i + 1) * 7, none⟩ 1 1 lb cb hne 37 37 7 (cap * 7) (by simp [World.shape?, s1, hyl]) (by simp [World.shape?, s2, ← hcap]) (by omega) (by simp [World.frozen?, s1]) (by simp [World.frozen?, s1])]
    rfl
  have mixed : Tryz.prog.follows .mixedOrders = true := rfl
  have hz1 : ¬ ((i : Int) = (n : Int)) := by omega
  have hz2 : ¬ ((n : Int) + 1 > (cap : Int)) := by omega
  have hw1 : IntKind.i64.wrap ((i : Int) + 1) = (i : Int) + 1 := by rw [IntKind.wrap_i64]; omega
  have hw2 : IntKind.i64.wrap ((n : Int) + 1) = (n : Int) + 1 := by rw [IntKind.wrap_i64]; omega
  have hb1 : (i : Int) ≤ (n : Int) + 1 := by omega
  have hc1 : ¬ (cap = i) := by omega
  have hc2 : ¬ (cap = i + 1) := by omega
  have hb5 : (n : Int) + 1 ≤ (cap : Int) := by omega
  have htn : ((i : Int) + 1).toNat = i + 1 := by omega
  have hb6 : (0 : Int) ≤ (i : Int) + 1 := by omega
  have hin : i ≤ n := by omega
  have hout : Own W3 base 37 7 (.slice (some ⟨g, 0, none⟩) (n + 1) cap) (n + 1) (X1 ++ ys ++ X2) :=
    hg3.own hbg hroom hm (by
      have h0 := congrArg List.length hR
      simp only [List.length_append, List.length_nil] at h0 hcap ⊢
      omega) (by
      rw [← List.append_assoc, ← List.append_assoc]
      have : (X1 ++ ys ++ X2).length = (n + 1) * 7 := by simp only [List.length_append]; omega
      rw [← this, List.take_left]) (by simp only [List.length_append]; omega)
  have hgr : Grew w W3 (.slice (some ⟨g, 0, none⟩) n cap) (.slice (some ⟨g, 0, none⟩) (n + 1) cap) := by
    have hb : ownBlk (.slice (some ⟨g, 0, none⟩) n cap) g := ⟨g, n, cap, rfl, by omega, rfl⟩
    rw [hW3, hW2]
    exact ⟨rfl, rfl, rfl, by simp [World.setRow], fun b hb' hn => ((setRow_other _ g b _ (fun e => hn (by subst e; exact hb))).trans (setRow_other w g b _ (fun e => hn (by subst e; exact hb)))), fun b ⟨g', n', c', e, hc, e2⟩ => by cases e; exact .inl ⟨_, _, _, rfl, hc, e2⟩⟩
  rw [← hX1, ← hX2]
  have HO := Lib.hid hout
  have HG := Lib.hid hgr
  clear hN1 hN2 hout hgr hX1 hX2 hX hl1 hl2 hR hR1 hR2 hR3 hlR1 hlR2 hg1 hg2 hg3 hy2 hx2c hT hcap hx hx1 hy1 hyl hy hg
  go_enter Tryz.func46, Tryz.ntmps46
  go_wp2_with (first | simp only [hov] | fail)
  go_region_law_o (refine step_copy_runI rfl _ _ 27 27 rfl (.slice (some ⟨g, (i + 1) * 7, none⟩) (n - i) (cap - (i + 1))) (.slice (some ⟨g, i * 7, none⟩) (n + 1 - i) (cap - i)) (by simp [Act.eval, Act.put]) (by simp [Act.eval, Act.put]) (hcpA w.drew rfl _ _ _) ?_)
  have hB := hcpB (w.drew.setRow g N1) (by rw [hW2]; rfl) 3 (cap - i) 1
  go_wp2_with fail
  go_ret
  subst hW3
  subst hW2
  exact ⟨_, rfl, HO.out.keep (fun b _ _ => rfl), ⟨HG.out.os, HG.out.tape, HG.out.output, HG.out.size, HG.out.same, HG.out.blk⟩⟩

set_option maxRecDepth 100000 in
set_option maxHeartbeats 1000000 in
/-- within, no room: a new row -/
theorem insert_grow {base g cap : Nat} {n i vb : Nat} {xs tail ys : List Value} {w : World} (hg : RowIs w g 37 xs tail) (hb : base ≤ w.heap.size) (hx : xs.length = n * 7) (hnc : n ≤ cap) (hroom : cap < n + 1) (hn : n ≤ 549755813888)
    (hy : RowIs w vb 37 ys []) (hyl : ys.length = 7) (hy1 : ∀ u ∈ ys, u.oneCell' = true) (hx1 : ∀ u ∈ xs, u.oneCell' = true) (hi : i < n) (v : Value) :
    Calls Tryz.prog 46 #[.slice (some ⟨g, 0, none⟩) n cap, I i, .slice (some ⟨vb, 0, none⟩) 1 1] w fun r w' => ∃ v', r = .returned v' ∧ Own w' base 37 7 v' (n + 1) (xs.take (i * 7) ++ ys ++ xs.drop (i * 7)) ∧ Grew w w' v v' := by
  obtain ⟨i0, hi0, hz0, hzs, hzb⟩ := info_parts info_entry
  have hsl : (xs.take (i * 7)).length = i * 7 := by rw [List.length_take, hx]; omega
  have hold : (Builtin.firstCells i0.size i (.slice (some ⟨g, 0, none⟩) i cap)).run Tryz.prog w.drew = .ok (xs.take (i * 7)).toArray w.drew := by
    rw [hzs]
    exact run_firstCells_some w.drew 7 i ⟨g, 0, none⟩ i cap (xs.take (i * 7)) hsl (fun j u hj => by
      rw [add_none, Nat.zero_add]
      rw [List.getElem?_take] at hj
      split at hj
      · exact hg.cell hj
      · cases hj)
  obtain ⟨G, hG⟩ : ∃ G, G = grownCap w (n + 1) cap 37 := ⟨_, rfl⟩
  have hGn : n + 1 ≤ G := by rw [hG]; exact grownCap_ge w _ _ _
  have hG63 : G ≤ 9223372036854775807 := by
    have := grownCap_le_maxLen w (n + 1) cap 37 (by unfold maxLen; omega)
    rw [← hG] at this
    unfold maxLen at this
    omega
  obtain ⟨Z, hZ⟩ : ∃ Z : List Value, Z = (Builtin.zeroCells zeroEnt.cells (n + 1 - i) ++ Builtin.zeroCells zeroEnt.cells (G - (n + 1))).toList := ⟨_, rfl⟩
  have hZl : Z.length = (G - i) * 7 := by
    rw [hZ]
    have : zeroEnt.cells.size = 7 := rfl
    simp only [Array.length_toList, Array.size_append, size_zeroCells, this]
    omega
  have hrz : ∀ ty, (Builtin.append_ #[27, 3] ty #[.slice (some ⟨g, 0, none⟩) i cap, .int .i64 ((n : Int) + 1 - (i : Int))]).run Tryz.prog w =
      .ok (.slice (some ⟨w.heap.size, 0, none⟩) (n + 1) G) (w.drew.alloc (.cells (xs.take (i * 7) ++ Z).toArray 37)) := fun ty => by
    have hik : i + (n + 1 - i) = n + 1 := by omega
    have h := Lib.run_append_grow_zeros w 27 3 ty 37 i0 _ .i64 .i64 Tryz.underlying27 Tryz.underlying3 hi0 hz0 (some ⟨g, 0, none⟩) i cap (xs.take (i * 7)) hold (n + 1 - i) (by omega) (by omega) (by omega) (by omega) (by rw [hzb]; omega) (by rw [hzb, hik]; exact growslice_fits hroom (by omega))
    rw [hik, ← hG] at h
    rw [show ((n : Int) + 1 - (i : Int)) = ((n + 1 - i : Nat) : Int) by omega, h]
    congr 4
    rw [hZ]
    apply Array.ext'
    simp
  obtain ⟨X1, hX1⟩ : ∃ X1, X1 = xs.take (i * 7) := ⟨_, rfl⟩
  obtain ⟨X2, hX2⟩ : ∃ X2, X2 = xs.drop (i * 7) := ⟨_, rfl⟩
  have hX : xs = X1 ++ X2 := by rw [hX1, hX2, take_dropL]
  rw [← hX1] at hsl hrz
  have hl2 : X2.length = (n - i) * 7 := by rw [hX2, List.length_drop, hx]; omega
  obtain ⟨R1, hR1⟩ : ∃ R1, R1 = Z.take 7 := ⟨_, rfl⟩
  obtain ⟨R2, hR2⟩ : ∃ R2, R2 = (Z.drop 7).take ((n - i) * 7) := ⟨_, rfl⟩
  obtain ⟨R3, hR3⟩ : ∃ R3, R3 = (Z.drop 7).drop ((n - i) * 7) := ⟨_, rfl⟩
  have hR : Z = R1 ++ (R2 ++ R3) := by rw [hR1, hR2, hR3, take_dropL, take_dropL]
  have hlR1 : R1.length = 7 := by rw [hR1, List.length_take]; omega
  have hlR2 : R2.length = (n - i) * 7 := by rw [hR2, List.length_take, List.length_drop]; omega
  obtain ⟨N0, hN0⟩ : ∃ N0, N0 = (X1 ++ Z).toArray := ⟨_, rfl⟩
  obtain ⟨N1, hN1⟩ : ∃ N1, N1 = (X1 ++ (ys ++ (R2 ++ R3))).toArray := ⟨_, rfl⟩
  obtain ⟨N2, hN2⟩ : ∃ N2, N2 = ((X1 ++ ys) ++ (X2 ++ R3)).toArray := ⟨_, rfl⟩
  rw [← hN0] at hrz
  obtain ⟨W1, hW1⟩ : ∃ W1, W1 = w.drew.alloc (.cells N0 37) := ⟨_, rfl⟩
  have hg1 : RowIs W1 w.heap.size 37 (X1 ++ (R1 ++ (R2 ++ R3))) [] := by
    unfold RowIs
    rw [List.append_nil, hW1, hN0, hR]
    exact Go.heap_alloc_new w.drew _
  have hx1' : Ext w W1 := by rw [hW1]; exact (Ext.refl w).drew.alloc _
  have hy1' := hy.ext hx1'
  have hgo := hg.ext hx1'
  have hgl := hg.lt
  have hyl2 := hy.lt
  obtain ⟨W2, hW2⟩ : ∃ W2, W2 = W1.setRow w.heap.size N1 := ⟨_, rfl⟩
  have hg2 : RowIs W2 w.heap.size 37 ((X1 ++ ys) ++ (R2 ++ R3)) [] := by
    have := hg1.setRow (X1 ++ (ys ++ (R2 ++ R3)))
    rw [List.append_nil] at this
    rw [hW2, hN1, show (X1 ++ ys) ++ (R2 ++ R3) = X1 ++ (ys ++ (R2 ++ R3)) from List.append_assoc _ _ _]
    exact this
  have hgo2 : RowIs W2 g 37 xs tail := hgo.keep (by rw [hW2]; exact setRow_other W1 _ g _ (by omega))
  obtain ⟨W3, hW3⟩ : ∃ W3, W3 = W2.setRow w.heap.size N2 := ⟨_, rfl⟩
  have hg3 : RowIs W3 w.heap.size 37 ((X1 ++ ys) ++ (X2 ++ R3)) [] := by
    have := hg2.setRow ((X1 ++ ys) ++ (X2 ++ R3))
    rw [List.append_nil] at this
    rw [hW3, hN2]
    exact this
  have hx2c : ∀ u ∈ X2, u.oneCell' = true := fun u hu => hx1 u (by rw [hX]; simp [hu])
  have hcpA : ∀ (W : World), W.heap = W1.heap → ∀ ty dc sc, (Builtin.copy_ #[27, 27] ty #[.slice (some ⟨w.heap.size, i * 7, none⟩) (n + 1 - i) dc, .slice (some ⟨vb, 0, none⟩) 1 sc]).run Tryz.prog W = .ok (goInt 1) (W.setRow w.heap.size N1) := fun W hW ty dc sc => hN1 ▸
    run_copy_split (sT := 27) (m := 1) (o := i * 7) (dLen := n + 1 - i) (dCap := dc) (sLen := 1) (sCap := sc) (s := ⟨vb, 0, none⟩) (cs := ys) (c := R2 ++ R3) (k := 7) Tryz.underlying27 size_entry (show RowIs W w.heap.size 37 (X1 ++ (R1 ++ (R2 ++ R3))) [] by unfold RowIs at hg1 ⊢; rw [hW]; exact hg1) hsl
      (by simp only [Nat.min_def]; split <;> omega) (by omega) (by omega) (fun j u hj => by
        rw [add_none, Nat.zero_add]
        have hy2' : RowIs W vb 37 ys [] := by unfold RowIs at hy1' ⊢; rw [hW]; exact hy1'
        exact hy2'.cell hj) hy1 ty
  have hcpB : ∀ (W : World), W.heap = W2.heap → ∀ ty dc sc, (Builtin.copy_ #[27, 27] ty #[.slice (some ⟨w.heap.size, (i + 1) * 7, none⟩) (n - i) dc, .slice (some ⟨g, i * 7, none⟩) (n - i) sc]).run Tryz.prog W = .ok (goInt ((n - i : Nat) : Int)) (W.setRow w.heap.size N2) := fun W hW ty dc sc => hN2 ▸
    run_copy_split (sT := 27) (m := n - i) (o := (i + 1) * 7) (dLen := n - i) (dCap := dc) (sLen := n - i) (sCap := sc) (s := ⟨g, i * 7, none⟩) (cs := X2) (c := R3) (k := 7) Tryz.underlying27 size_entry (show RowIs W w.heap.size 37 ((X1 ++ ys) ++ (R2 ++ R3)) [] by unfold RowIs at hg2 ⊢; rw [hW]; exact hg2) (by rw [List.length_append, hsl, hyl, Nat.add_mul])
      (by simp only [Nat.min_def]; split <;> omega) hl2 (by rw [hlR2, hl2]) (fun j u hj => by
        rw [add_none]
        have hg1' : RowIs W g 37 xs tail := by unfold RowIs at hgo2 ⊢; rw [hW]; exact hgo2
        refine hg1'.cell ?_
        rw [hX, List.getElem?_append_right (by omega), hsl]
        rwa [show i * 7 + j - i * 7 = j by omega]) hx2c ty
  have mixed : Tryz.prog.follows .mixedOrders = true := rfl
  have hz1 : ¬ ((i : Int) = (n : Int)) := by omega
  have hz2 : (cap : Int) < (n : Int) + 1 := by omega
  have hw1 : IntKind.i64.wrap ((i : Int) + 1) = (i : Int) + 1 := by rw [IntKind.wrap_i64]; omega
  have hw2 : IntKind.i64.wrap ((n : Int) + 1) = (n : Int) + 1 := by rw [IntKind.wrap_i64]; omega
  have hw3 : IntKind.i64.wrap ((n : Int) + 1 - (i : Int)) = (n : Int) + 1 - (i : Int) := by rw [IntKind.wrap_i64]; omega
  have hb1 : (i : Int) ≤ (n : Int) + 1 := by omega
  have hin : i ≤ n := by omega
  have hci : ¬ (cap = i) := by omega
  have hc1 : ¬ (G = i) := by omega
  have hc2 : ¬ (G = i + 1) := by omega
  have hb5 : (n : Int) + 1 ≤ (G : Int) := by omega
  have htn : ((i : Int) + 1).toNat = i + 1 := by omega
  have hb6 : (0 : Int) ≤ (i : Int) + 1 := by omega
  have hb7 : (i : Int) ≤ (cap : Int) := by omega
  have hout : Own W3 base 37 7 (.slice (some ⟨w.heap.size, 0, none⟩) (n + 1) G) (n + 1) (X1 ++ ys ++ X2) :=
    hg3.own hb hGn hG63 (by
      have h0 := congrArg List.length hR
      simp only [List.length_append, List.length_nil] at h0 ⊢
      omega) (by
      rw [← List.append_assoc]
      have : (X1 ++ ys ++ X2).length = (n + 1) * 7 := by simp only [List.length_append]; omega
      rw [← this, List.take_left]) (by simp only [List.length_append]; omega)
  have hgr : Grew w W3 v (.slice (some ⟨w.heap.size, 0, none⟩) (n + 1) G) := by
    rw [hW3, hW2]
    refine ⟨?_, ?_, ?_, ?_, ?_, fun b ⟨g', n', c', e, hc, e2⟩ => by cases e; exact .inr e2⟩
    · exact hx1'.os
    · exact hx1'.tape
    · exact hx1'.output
    · have := hx1'.size
      simpa [World.setRow] using this
    · intro b hb' _
      exact ((setRow_other _ _ b _ (by omega)).trans (setRow_other W1 _ b _ (by omega))).trans (hx1'.block b hb')
  rw [← hX1, ← hX2]
  have HO := Lib.hid hout
  have HG := Lib.hid hgr
  have hA := hcpA (w.alloc (.cells N0 37)).drew (by rw [hW1]; rfl) 3 (G - i) 1
  have hA2 := hcpA (w.drew.alloc (.cells N0 37)) (by rw [hW1]) 3 (G - i) 1
  clear hN1 hN2 hN0 hout hgr hX1 hX2 hX hsl hl2 hR hR1 hR2 hR3 hlR1 hlR2 hg1 hg2 hg3 hgo hgo2 hx1' hy1' hx2c hx hx1 hy1 hyl hy hg hZ hZl hG hold hi0 hz0 hzs hzb hcpA
  go_enter Tryz.func46, Tryz.ntmps46
  go_wp2_with (at_builtin; refine wpList_append_runI _ rfl _ _ 27 3 rfl _ _ rfl rfl (hrz _) ?_; clear hrz)
  go_region_law_o (refine step_copy_runI rfl _ _ 27 27 rfl (.slice (some ⟨w.heap.size, (i + 1) * 7, none⟩) (n - i) (G - (i + 1))) (.slice (some ⟨g, i * 7, none⟩) (n - i) (cap - i)) (by simp [Act.eval, Act.put]) (by simp [Act.eval, Act.put]) (hcpB ((w.alloc (.cells N0 37)).drew.setRow w.heap.size N1).drew (by rw [hW2, hW1]; rfl) _ _ _) ?_)
  go_wp2_with fail
  go_ret
  subst hW3
  subst hW2
  subst hW1
  exact ⟨_, rfl, HO.out.keep (fun b _ _ => rfl), ⟨HG.out.os, HG.out.tape, HG.out.output, HG.out.size, HG.out.same, HG.out.blk⟩⟩

/-- slices.Insert of one entry -/
theorem insertC_any {base : Nat} {v : Value} {n i vb : Nat} {xs ys : List Value} {w : World} (ho : Own w base 37 7 v n xs) (hy : RowIs w vb 37 ys []) (hyl : ys.length = 7) (hy1 : ∀ u ∈ ys, u.oneCell' = true) (hx1 : ∀ u ∈ xs, u.oneCell' = true) (hi : i ≤ n) (hn : n ≤ 549755813888) (hb : base ≤ w.heap.size) (hne : ¬ ownBlk v vb) :
    Calls Tryz.prog 46 #[v, I i, .slice (some ⟨vb, 0, none⟩) 1 1] w fun r w' => ∃ v', r = .returned v' ∧ Own w' base 37 7 v' (n + 1) (xs.take (i * 7) ++ ys ++ xs.drop (i * 7)) ∧ Grew w w' v v' := by
  rcases Nat.eq_or_lt_of_le hi with rfl | hi'
  · have := insert_end ho hy hyl hy1 hn hb
    rw [← ho.1, List.take_length, List.drop_length, List.append_nil]
    exact this
  · obtain ⟨g, cap, tail, rfl, hbg, hg, hc, hm, hl⟩ := ho.row (by omega)
    by_cases hroom : n + 1 ≤ cap
    · exact insert_shift hg hbg ho.1 hl hroom hm hy hyl hy1 hx1 hi' (fun e => hne ⟨g, n, cap, rfl, by omega, e⟩)
    · exact insert_grow hg hb ho.1 hc (by omega) hn hy hyl hy1 hx1 hi' _
end Go.Proofs.YtdikcgmdmcfpfaaGreat
