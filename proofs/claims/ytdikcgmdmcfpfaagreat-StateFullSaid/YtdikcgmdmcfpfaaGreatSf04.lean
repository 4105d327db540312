/- Contracts of the functions that the statement goes through, with their plain words: A row of items under way: each item's dots lie in a row of their own; the last one's row may yet grow. Package counter: two maps, one behind the other: put. maps.Keys, slices.Collect, slices.Sorted over a map with string keys. maps.Keys, slices.AppendSeq, slices.Collect over a set of places. slices.SortFunc, slices.SortedFunc at places. append to a row of the call's own, as one step of a region that draws. Package bag: items: the texts, rising, each with its dots, rising. Package bag: knows: a closure that tells whether a vector has a dot. Package bag: Join: what is in both, and what the other side has not seen. Package bag: Join, the whole; Texts, Take. Package bag: Take, Texts, Put. -/
import Derived.Test.YtdikcgmdmcfpfaaGreatSf03
import Derived.StillTailTactics
import Derived.Deep.RegionLaw
namespace Go.Proofs.YtdikcgmdmcfpfaaGreat
open Go.RowKit

section
variable {w w' W W' : World} {base : Nat} {v dv v' dv' : Value} {its : List Item} {last : Item}
/-- a row of marks of the call's own, read by its own block alone -/
theorem Own.slOwn {tid : Nat} {ds : List Dot} (h : Own w base tid 2 dv ds.length (ds.flatMap markC)) : Sl markT w (ownBlk dv) dv ds := by
  have h2 := own_slMark h
  rcases h.2 with ⟨A, rfl, h0⟩ | ⟨g, cap, cur, rfl, -, -, hc, hm, -⟩
  · obtain rfl : ds = [] := List.eq_nil_of_length_eq_zero h0
    exact Sl.nil _ _ (by omega)
  · obtain ⟨A, c, hv, h1, h3, h4⟩ := h2
    cases hv
    refine ⟨_, _, rfl, h1, h3, fun pre x post hl => ?_⟩
    obtain ⟨b, o, vs, e, -, hr, hcell⟩ := h4 pre x post hl
    cases e
    exact ⟨g, 0, vs, rfl, ⟨g, ds.length, cap, rfl, by rw [hl] at hc; simp at hc; omega, rfl⟩, hr, hcell⟩

def ItemsAt (W : World) (base : Nat) (v : Value) (its : List Item) (last : Item) : Prop :=
  ∃ (S : Nat → Prop) (vss : List (List Value)) (dv : Value), (∀ b, S b → base ≤ b ∧ b < W.heap.size) ∧ vss.length = its.length ∧ (∀ (i : Nat) x vs, its[i]? = some x → vss[i]? = some vs → itemT.rd W S x vs) ∧
    Own W base 96 2 v (its.length + 1) (vss.flatten ++ [St last.1, dv]) ∧ Own W base 97 2 dv last.2.length (last.2.flatMap markC) ∧
    (∀ b, ownBlk v b → ¬ S b ∧ ¬ ownBlk dv b) ∧ (∀ b, ownBlk dv b → ¬ S b)

theorem ItemsAt.ext (h : ItemsAt W base v its last) (he : Ext W W') : ItemsAt W' base v its last := by
  obtain ⟨S, vss, dv, h1, h2, h3, h4, h5, h6, h7⟩ := h
  exact ⟨S, vss, dv, fun b hb => ⟨(h1 b hb).1, Nat.lt_of_lt_of_le (h1 b hb).2 he.size⟩, h2, fun i x vs hx hv => itemT.keep (h3 i x vs hx hv) (fun b _ hb => he.block b hb), h4.ext he, h5.ext he, h6, h7⟩
theorem itemsFlat {its : List Item} {S : Nat → Prop} {vss : List (List Value)} (h2 : vss.length = its.length) (h3 : ∀ (i : Nat) x vs, its[i]? = some x → vss[i]? = some vs → itemT.rd W S x vs) : vss.flatten.length = its.length * 2 := by
  induction its generalizing vss with
  | nil => simp at h2; subst h2; rfl
  | cons a r ih =>
    cases vss with
    | nil => simp at h2
    | cons b s =>
      have hb : b.length = 2 := itemT.len (h3 0 a b rfl rfl)
      have := ih (vss := s) (by simpa using h2) (fun i x vs hx hv => h3 (i + 1) x vs hx hv)
      simp [this, hb]
      omega
/-- what the row tells of its last item -/
theorem ItemsAt.tells (h : ItemsAt W base v its last) : ∃ g cap dv, v = .slice (some ⟨g, 0, none⟩) (its.length + 1) cap ∧ its.length + 1 ≤ cap ∧ cap ≤ 9223372036854775807 ∧ base ≤ g ∧ W.cell? ⟨g, its.length * 2, none⟩ = some (St last.1) ∧ W.cell? ⟨g, its.length * 2 + 1, none⟩ = some dv ∧
    W.frozen? ⟨g, its.length * 2 + 1, none⟩ = false ∧ Own W base 97 2 dv last.2.length (last.2.flatMap markC) ∧ (∀ b, ownBlk dv b → b ≠ g) := by
  obtain ⟨S, vss, dv, h1, h2, h3, h4, h5, h6, h7⟩ := h
  have hf := itemsFlat h2 h3
  obtain ⟨g, cap, tail, rfl, hg, hrow, hc, hm, hl⟩ := h4.row (by omega)
  have e0 : (vss.flatten ++ [St last.1, dv])[its.length * 2]? = some (St last.1) := by rw [← hf, List.getElem?_append_right (Nat.le_refl _)]; simp
  have e1 : (vss.flatten ++ [St last.1, dv])[its.length * 2 + 1]? = some dv := by rw [← hf, List.getElem?_append_right (by omega)]; simp
  exact ⟨g, cap, dv, rfl, hc, hm, hg, hrow.cell e0, hrow.cell e1, hrow.frozen _, h5, fun b hb e => (h6 g ⟨g, _, cap, rfl, by omega, rfl⟩).2 (e ▸ hb)⟩
/-- an item more -/
theorem ItemsAt.more (h : ItemsAt W base v its last) (t : Str) (hown : ∀ vss dv, Own W base 96 2 v (its.length + 1) (vss ++ [St last.1, dv]) → Own W' base 96 2 v' (its.length + 1 + 1) (vss ++ [St last.1, dv] ++ [St t, .slice none 0 0])) (hg : Grew W W' v v') :
    ItemsAt W' base v' (its ++ [last]) (t, []) := by
  obtain ⟨S, vss, dv, h1, h2, h3, h4, h5, h6, h7⟩ := h
  have hdb : ∀ b, ownBlk dv b → base ≤ b ∧ b < W.heap.size := fun b hb => h5.base_le hb
  have hk : ∀ b, S b ∨ ownBlk dv b → b < W.heap.size → W'.heap[b]? = W.heap[b]? := fun b hb hl => hg.same b hl fun ho => by
    rcases hb with hb | hb
    · exact (h6 b ho).1 hb
    · exact (h6 b ho).2 hb
  refine ⟨fun b => S b ∨ ownBlk dv b, vss ++ [[St last.1, dv]], .slice none 0 0, fun b hb => ?_, by simp [h2], fun i x vs hx hv => ?_, by simpa using hown _ _ h4, Own.nil _ _ _ _ _, fun b hb => ?_, fun b hb => ?_⟩
  · rcases hb with hb | hb
    · exact ⟨(h1 b hb).1, Nat.lt_of_lt_of_le (h1 b hb).2 hg.size⟩
    · exact ⟨(hdb b hb).1, Nat.lt_of_lt_of_le (hdb b hb).2 hg.size⟩
  · by_cases hil : i < its.length
    · rw [List.getElem?_append_left hil] at hx
      rw [List.getElem?_append_left (by omega)] at hv
      exact itemT.keep (itemT.mono (h3 i x vs hx hv) (fun b _ hb => .inl hb)) hk
    · rw [List.getElem?_append_right (by omega)] at hx
      rw [List.getElem?_append_right (by omega)] at hv
      have hi0 : i - its.length = 0 := by
        have := (List.getElem?_eq_some_iff.1 hx).1
        simp at this
        exact this
      rw [hi0] at hx
      rw [h2, hi0] at hv
      simp at hx hv
      subst hx; subst hv
      exact itemT.keep (w := W) ⟨dv, rfl, h5.slOwn.mono (by decide) (fun b _ hb => .inr hb)⟩ hk
  · refine ⟨fun hS => ?_, fun ⟨g, n, c, e, _, _⟩ => by cases e⟩
    rcases hg.blk b hb with ho | ho
    · rcases hS with hS | hS
      · exact (h6 b ho).1 hS
      · exact (h6 b ho).2 hS
    · rcases hS with hS | hS
      · have := (h1 b hS).2; omega
      · have := (hdb b hS).2; omega
  · obtain ⟨g, n, c, e, _, _⟩ := hb; cases e
theorem ItemsAt.row (h : ItemsAt W base v its last) : ∃ xs, Own W base 96 2 v (its.length + 1) xs ∧ ∀ (W' : World) (v' : Value) (t : Str), Own W' base 96 2 v' (its.length + 1 + 1) (xs ++ [St t, .slice none 0 0]) → Grew W W' v v' → ItemsAt W' base v' (its ++ [last]) (t, []) := by
  have h' := h
  obtain ⟨S, vss, dv, h1, h2, h3, h4, h5, h6, h7⟩ := h
  refine ⟨_, h4, fun W' v' t ho hg => ?_⟩
  refine h'.more t (fun vss2 dv2 h42 => ?_) hg
  have e : vss2 ++ [St last.1, dv2] = vss.flatten ++ [St last.1, dv] := by
    obtain ⟨g, cap, cur, rfl, -, -, hc, -, -, -, ht⟩ := h4.pos (by omega)
    obtain ⟨g2, cap2, cur2, e, -, -, hc2, -, -, -, ht2⟩ := h42.pos (by omega)
    cases e
    rw [hc] at hc2
    cases hc2
    exact ht2.symm.trans ht
  rw [e]
  exact ho
/-- a first item -/
theorem ItemsAt.first (t : Str) (h : Own W base 96 2 v 1 [St t, .slice none 0 0]) : ItemsAt W base v [] (t, []) :=
  ⟨fun _ => False, [], .slice none 0 0, fun b hb => hb.elim, rfl, by simp, by simpa using h, Own.nil _ _ _ _ _, fun b hb => ⟨fun h => h.elim, fun ⟨g, n, c, e, _, _⟩ => by cases e⟩, fun b ⟨g, n, c, e, _, _⟩ => by cases e⟩
theorem Own.setLast {T n g cap : Nat} {xs : List Value} {a b b' : Value} (hx : xs.length = n * 2) (h : Own W base T 2 (.slice (some ⟨g, 0, none⟩) (n + 1) cap) (n + 1) (xs ++ [a, b])) : Own (W.setCell ⟨g, n * 2 + 1, none⟩ b') base T 2 (.slice (some ⟨g, 0, none⟩) (n + 1) cap) (n + 1) (xs ++ [a, b']) := by
  obtain ⟨g', cap', tail, e, hg, hrow, hc, hm, hl⟩ := h.row (by omega)
  cases e
  have h1 := hrow.set (j := n * 2 + 1) (by simp [hx]) b'
  have e1 : (xs ++ [a, b]).set (n * 2 + 1) b' = xs ++ [a, b'] := by rw [← hx, List.set_append_right _ _ (by omega)]; simp
  rw [e1] at h1
  exact h1.own hg hc hm (by simp at hl ⊢; omega) (List.take_of_length_le (by simp [hx]; omega)) (by simp [hx]; omega)
/-- a dot more of the last item -/
theorem ItemsAt.dot {t : Str} {ds : List Dot} {d : Dot} {g cap : Nat} (h : ItemsAt W base (.slice (some ⟨g, 0, none⟩) (its.length + 1) cap) its (t, ds)) (hc : W.cell? ⟨g, its.length * 2 + 1, none⟩ = some dv) (hg : Grew W W' dv dv') (hown : Own W' base 97 2 dv' (ds.length + 1) (ds.flatMap markC ++ [St d.1, U d.2])) :
    ItemsAt (W'.setCell ⟨g, its.length * 2 + 1, none⟩ dv') base (.slice (some ⟨g, 0, none⟩) (its.length + 1) cap) its (t, ds ++ [d]) := by
  obtain ⟨S, vss, dv0, h1, h2, h3, h4, h5, h6, h7⟩ := h
  have hf := itemsFlat h2 h3
  have e1 : (vss.flatten ++ [St t, dv0])[its.length * 2 + 1]? = some dv0 := by rw [← hf, List.getElem?_append_right (by omega)]; simp
  have := h4.cell (g := g) rfl e1
  rw [hc] at this
  obtain rfl : dv = dv0 := Option.some.inj this
  obtain ⟨g', cap', cur, e, hbg, hglt, -, hcap, -⟩ := h4.pos (by omega)
  cases e
  have hog : ownBlk (.slice (some ⟨g, 0, none⟩) (its.length + 1) cap) g := ⟨g, _, _, rfl, by omega, rfl⟩
  have hne : ∀ b, ownBlk dv' b → b ≠ g := fun b hb e => by
    rcases hg.blk b hb with ho | ho
    · exact (h6 g hog).2 (e ▸ ho)
    · omega
  have hSg : ∀ b, S b → b ≠ g := fun b hb e => (h6 g hog).1 (e ▸ hb)
  refine ⟨S, vss, dv', fun b hb => ⟨(h1 b hb).1, Nat.lt_of_lt_of_le (h1 b hb).2 (by simpa using hg.size)⟩, h2, fun i x vs hx hv => ?_, ?_, ?_, fun b hb => ?_, fun b hb hS => ?_⟩
  · refine itemT.keep (h3 i x vs hx hv) fun b hb hl => ?_
    rw [Below.heap_setCell _ _ _ _ (hSg b hb)]
    exact hg.same b hl fun ho => h7 b ho hb
  · exact Own.setLast hf (h4.keep fun b hb hl => hg.same b hl fun ho => (h6 b hb).2 ho)
  · have : Own W' base 97 2 dv' (ds ++ [d]).length ((ds ++ [d]).flatMap markC) := by simpa [markC] using hown
    exact this.keep fun b hb _ => Below.heap_setCell _ _ _ _ (hne b hb)
  · obtain ⟨g2, n2, c2, e, -, rfl⟩ := hb
    cases e
    exact ⟨(h6 g hog).1, fun ho => hne _ ho rfl⟩
  · rcases hg.blk b hb with ho | ho
    · exact h7 b ho hS
    · have := (h1 b hS).2; omega
theorem ItemsAt.dotN {t : Str} {ds : List Dot} {d : Dot} {g cap n : Nat} (hn : its.length = n) (h : ItemsAt W base (.slice (some ⟨g, 0, none⟩) (n + 1) cap) its (t, ds)) (hc : W.cell? ⟨g, n * 2 + 1, none⟩ = some dv) (hg : Grew W W' dv dv') (hown : Own W' base 97 2 dv' (ds.length + 1) (ds.flatMap markC ++ [St d.1, U d.2])) :
    ItemsAt (W'.setCell ⟨g, n * 2 + 1, none⟩ dv') base (.slice (some ⟨g, 0, none⟩) (n + 1) cap) its (t, ds ++ [d]) := by
  subst hn
  exact h.dot hc hg hown
theorem ItemsAt.done (h : ItemsAt W base v its last) : OwnL itemT 96 W base (fun b => base ≤ b) v (its ++ [last]) := by
  obtain ⟨S, vss, dv, h1, h2, h3, h4, h5, h6, h7⟩ := h
  refine OwnL.snoc (vss := vss) h2 (fun i x vs hx hv => itemT.mono (h3 i x vs hx hv) (fun b _ hb => (h1 b hb).1)) ?_ h4
  exact ⟨dv, rfl, own_slMark h5⟩
theorem itemsAt_len (h : ItemsAt W base v its last) : its.length + 1 ≤ 9223372036854775807 := by obtain ⟨g, cap, dv, -, h1, h2, -⟩ := h.tells; omega
end
end Go.Proofs.YtdikcgmdmcfpfaaGreat
namespace Go.Proofs.YtdikcgmdmcfpfaaGreat
open Go.RowKit

theorem keyOkS : KeyOk Tryz.prog 9 St := keyOk_str Tryz.underlying9
theorem zeroU (w : World) : (zeroValue 23).run Tryz.prog w = .ok (U 0) w := Tryz.zeroValue23 w

/-- what 'how' does: two numbers put together -/
structure HowOk (P : Program) (g : Nat) (f : Nat → Nat → Nat) : Prop where
  enters : ∀ args w, (callFunc g args).run P w = .ok (.enter g args) w
  does : ∀ a b W, Calls P g #[U a, U b] W fun e w' => e = .returned (U (f a b)) ∧ W = w'

/-- two maps may have turned: all else lies as it lay -/
structure Kept2 (w w' : World) (p m : Nat) : Prop where
  os : w'.os = w.os
  tape : w'.tape = w.tape
  output : w'.output = w.output
  size : w.heap.size ≤ w'.heap.size
  other : ∀ j, j < w.heap.size → j ≠ p → j ≠ m → w'.heap[j]? = w.heap[j]?

theorem look_str {w : World} {b : Nat} {L : List (Str × Nat)} (h : MapIs St U w b L) (k : Str) :
    (Instr.lookup 223 (.map (some b)) (St k) false).run Tryz.prog w = .ok (U (getL 0 L k)) w := (run_lookup_MapIs (z := 0) Tryz.underlying223 keyOkS zeroU h k).1

/-- one number put: in whatever world has the boxes and the map -/
theorem drewN_heap (w : World) (n b : Nat) : (w.drewN n).heap[b]? = w.heap[b]? := rfl

set_option maxRecDepth 100000 in
set_option maxHeartbeats 1000000 in
theorem put_any {g : Nat} {f : Nat → Nat → Nat} (hg : HowOk Tryz.prog g f) {p m : Nat} {Lp Lm : List (Str × Nat)} (c : Count) {w : World} (hp : MapIs St U w p Lp) (hm : MapIs St U w m Lm) (hne : p ≠ m) :
    Calls Tryz.prog 213 #[.agg #[.map (some p), .map (some m)], .agg #[St c.1, U c.2.1, U c.2.2], .func (.func g) #[] #[]] w fun e w' =>
      e = .returned (.tuple #[]) ∧ MapIs St U w' p (putL Lp c.1 (f (getL 0 Lp c.1) c.2.1)) ∧ MapIs St U w' m (putL Lm c.1 (f (getL 0 Lm c.1) c.2.2)) ∧ Kept2 w w' p m := by
  have eg := hg.enters
  have HH := Lib.hid hg.does
  obtain ⟨W1, hW1⟩ : ∃ W1, (w.alloc (.cells #[.map (some p), .map (some m)] 225)).alloc (.cells #[St c.1, U c.2.1, U c.2.2] 93) = W1 := ⟨_, rfl⟩
  have hx1 : Ext w W1 := by rw [← hW1]; exact ((Ext.refl w).alloc _).alloc _
  have c0 : W1.cell? ⟨w.heap.size, 0, none⟩ = some (.map (some p)) := by rw [← hW1]; simp [go_sem]
  have c1 : W1.cell? ⟨w.heap.size, 1, none⟩ = some (.map (some m)) := by rw [← hW1]; simp [go_sem]
  have d0 : W1.cell? ⟨w.heap.size + 1, 0, none⟩ = some (St c.1) := by rw [← hW1]; simp [go_sem]
  have d1 : W1.cell? ⟨w.heap.size + 1, 1, none⟩ = some (U c.2.1) := by rw [← hW1]; simp [go_sem]
  have d2 : W1.cell? ⟨w.heap.size + 1, 2, none⟩ = some (U c.2.2) := by rw [← hW1]; simp [go_sem]
  have hp1 := hp.ext hx1
  have hm1 := hm.ext hx1
  obtain ⟨o1, ho1⟩ := run_update_obj (P := Tryz.prog) Tryz.underlying223 keyOkS hp1 c.1 (f (getL 0 Lp c.1) c.2.1)
  have HO1 := Lib.hid (fun W h => (ho1 W h))
  obtain ⟨Wd, hWd⟩ : ∃ Wd, W1.drew = Wd := ⟨_, rfl⟩
  have hxd : Ext W1 Wd := by rw [← hWd]; exact (Ext.refl W1).drew
  have hl0 := look_str (hp1.ext hxd) c.1
  have hu0 := (ho1 Wd (hxd.block p hp1.lt)).1
  have HP := Lib.hid hp
  have HM := Lib.hid hm
  have HP1 := Lib.hid hp1
  have HM1 := Lib.hid hm1
  have c0d := hxd.cell c0
  have c1d := hxd.cell c1
  have d0d := hxd.cell d0
  have d1d := hxd.cell d1
  have d2d := hxd.cell d2
  clear hg ho1 hp hm hp1 hm1
  go_enter Tryz.func213, Tryz.ntmps213
  go_wp2_with fail
  refine wp_region_still_tail 13 (by kernel_rfl) (by kernel_rfl) ?_
  simp only [List.take_succ_cons, List.take_zero, List.drop_succ_cons, List.drop_zero]
  change wpStill _ _ W1.drew (fun a' => wpList _ _ _ _ a' W1.drew) _ _
  rw [hWd]
  repeat still_step
  still_call ((HH.out _ _ _).mono fun e w' h => ⟨h.1, h.2.symm⟩)
  refine wpStill_nil ?_
  go_wp2_with fail
  have hpw : p < w.heap.size := HP.out.lt
  have hmw : m < w.heap.size := HM.out.lt
  have hpd : Wd.heap[p]? = W1.heap[p]? := hxd.block p (Nat.lt_of_lt_of_le hpw hx1.size)
  have hP2 := Lib.hid ((HO1.out Wd hpd).2)
  have ht2 := Turned.put Wd p o1
  generalize Wd.putObj p o1 = W2 at *
  have c0e := ht2.cell c0d (by omega)
  have c1e := ht2.cell c1d (by omega)
  have d0e := ht2.cell d0d (by omega)
  have d1e := ht2.cell d1d (by omega)
  have d2e := ht2.cell d2d (by omega)
  have hm2 : MapIs St U W2 m Lm := (HM1.out.ext hxd).turned ht2 (fun e => hne e.symm)
  obtain ⟨o2, ho2⟩ := run_update_obj (P := Tryz.prog) Tryz.underlying223 keyOkS hm2 c.1 (f (getL 0 Lm c.1) c.2.2)
  have HO2 := Lib.hid (fun W h => (ho2 W h))
  obtain ⟨We, hWe⟩ : ∃ We, W2.drew = We := ⟨_, rfl⟩
  have hxe : Ext W2 We := by rw [← hWe]; exact (Ext.refl W2).drew
  have hl2 := look_str (hm2.ext hxe) c.1
  have hu2 := (ho2 We (hxe.block m hm2.lt)).1
  have c0f := hxe.cell c0e
  have c1f := hxe.cell c1e
  have d0f := hxe.cell d0e
  have d1f := hxe.cell d1e
  have d2f := hxe.cell d2e
  have HM2 := Lib.hid hm2
  clear ho2 hm2
  refine wp_region_still_tail 13 (by kernel_rfl) (by kernel_rfl) ?_
  simp only [List.take_succ_cons, List.take_zero, List.drop_succ_cons, List.drop_zero]
  change wpStill _ _ W2.drew (fun a' => wpList _ _ _ _ a' W2.drew) _ _
  rw [hWe]
  repeat still_step
  still_call ((HH.out _ _ _).mono fun e w' h => ⟨h.1, h.2.symm⟩)
  refine wpStill_nil ?_
  go_wp2_with fail
  have hme : We.heap[m]? = W2.heap[m]? := hxe.block m HM2.out.lt
  have hM3 := (HO2.out We hme).2
  have ht3 := Turned.put We m o2
  generalize We.putObj m o2 = W3 at *
  go_end0
  have hP3 := ((hP2.out).ext hxe).turned ht3 hne
  refine ⟨rfl, hP3, hM3, ?_⟩
  exact ⟨ht3.os.trans (hxe.os.trans (ht2.os.trans (hxd.os.trans hx1.os))), ht3.tape.trans (hxe.tape.trans (ht2.tape.trans (hxd.tape.trans hx1.tape))), ht3.output.trans (hxe.output.trans (ht2.output.trans (hxd.output.trans hx1.output))),
    by rw [ht3.size]; exact Nat.le_trans (hx1.trans hxd).size (by rw [← ht2.size]; exact hxe.size),
    fun j hj hjp hjm => (ht3.other j hjm).trans ((hxe.block j (by rw [ht2.size]; exact Nat.lt_of_lt_of_le hj (hx1.trans hxd).size)).trans ((ht2.other j hjp).trans ((hx1.trans hxd).block j hj)))⟩
end Go.Proofs.YtdikcgmdmcfpfaaGreat
namespace Go.Proofs.YtdikcgmdmcfpfaaGreat
open Go.RowKit Go.Shelf

section
attribute [local go_sem] Oper.semAt_some

/-- what a round keeps: the blocks of S below n, and every walk -/
def KpW (S : Nat → Prop) (n : Nat) (W W' : World) : Prop := KpS S n W W' ∧ KeepsWalks W W'

theorem RangeIs.walk {κ ν : Type} [DecidableEq κ] {K : κ → Value} {V : ν → Value} {w w' : World} {b r : Nat} {L rest : List (κ × ν)} (h : RangeIs K V w b r L rest) (hb : w'.heap[b]? = w.heap[b]?) (hk : KeepsWalks w w') : RangeIs K V w' b r L rest := by
  refine h.keep hb ?_
  obtain ⟨es, c, s, h1, h2, h3, h4, h5, h6, h7⟩ := h
  rw [h6]
  exact hk.same r _ h6 rfl

set_option maxRecDepth 100000 in
set_option maxHeartbeats 1000000 in
theorem keysS1_in (n l B p n₀ : Nat) {S : Nat → Prop} {L : List (Str × Nat)} (J Jx : List Str → World → Prop) (hn : 1 ≤ n) (W : World) (hJ : AbidesFrom W.heap.size J) (hn₀ : n₀ ≤ W.heap.size)
    (hY : ∀ pre x W, J pre W → pre.length < L.length → YieldAt Fence.wide (n - 1) Tryz.prog l #[St x] W fun e W' =>
      (e = .returned (.bool true) ∧ J (pre ++ [x]) W' ∧ KpW S n₀ W W') ∨ (e = .returned (.bool false) ∧ Jx (pre ++ [x]) W'))
    (hB : W.cell? ⟨B, 0, none⟩ = some (.map (some p))) (hm : MapIs St U W p L) (hS : S p ∧ p < n₀) (h0 : J [] W) :
    CallsIn Fence.wide n Tryz.prog 259 #[.func (.yield l) #[] #[], .pointer (some ⟨B, 0, none⟩)] W fun e W' => (∃ v, e = .returned v) ∧
      ((∃ ys, ys.Perm (L.map Prod.fst) ∧ J ys W') ∨ (∃ pre, pre.length ≤ L.length ∧ Jx pre W')) := by
  obtain ⟨W1, hr, hR, hx1, hsz⟩ := run_range_MapIs (P := Tryz.prog) Tryz.underlying223 hm
  have HR := Lib.hid hR
  have HJ1 := Lib.hid (hJ [] W W1 none h0 (ext_grownBy hx1) (by simp))
  have hrs : W.heap.size < W1.heap.size := by omega
  clear hR
  refine callsIn_of_wp Tryz.func259 rfl trivial ?_ rfl
  simp only [Tryz.ntmps259, List.size_toArray, List.length_cons, List.length_nil, Nat.reduceAdd, Nat.reduceSub, Array.replicate_succ, Array.replicate_zero, List.push_toArray, List.append_toArray, List.nil_append, List.cons_append]
  gi_wp2
  gi_loopw [3] (fun u wr => ∃ done rest, (done ++ rest.map Prod.fst).Perm (L.map Prod.fst) ∧ RangeIs St U wr p W.heap.size L rest ∧ J done wr ∧ KpS S n₀ W wr) (fun _ wr => wr.rangeLeft p W.heap.size)
  case atStart => exact ⟨[], L, .refl _, HR.out, HJ1.out, hx1.kpS hn₀⟩
  case round =>
    obtain ⟨done, rest, hperm, hR, hJd, hk⟩ := hrel
    rcases run_next_MapIs (P := Tryz.prog) 0 hR with ⟨rfl, hrun⟩ | ⟨r1, q, r2, wn, rfl, hrun, hR2, ht, hent⟩
    · have hnx : ∀ ty, (Instr.next (.pointer (some ⟨W.heap.size, 0, none⟩)) false ty).run Tryz.prog wr = .ok (.tuple #[.bool false]) wr := fun ty => hrun
      have HPM := Lib.hid hperm
      have HJD := Lib.hid hJd
      clear hperm hR hrun hJd
      gi_wp2
      go_end0
      exact ⟨⟨_, rfl⟩, .inl ⟨done, by simpa using HPM.out, HJD.out⟩⟩
    · have hnx : ∀ ty, (Instr.next (.pointer (some ⟨W.heap.size, 0, none⟩)) false ty).run Tryz.prog wr = .ok (.tuple #[.bool true, St q.1, U q.2]) wn := fun ty => hrun
      have hlen : done.length < L.length := by
        have := hperm.length_eq
        simp at this
        omega
      have hJn : J done wn := hJ done wr wn (some W.heap.size) hJd ⟨ht.os, ht.tape, ht.output, by rw [ht.size]; exact Nat.le_refl _, fun j _ hj => ht.other j (fun e => hj (by rw [e]))⟩ (fun r e => by
        cases e
        obtain ⟨es, c, s, h1, h2, h3, h4, h5, h6, h7⟩ := hR
        exact ⟨Nat.le_refl _, _, h6, rfl⟩)
      have hkn : KpS S n₀ wr wn := ⟨by rw [ht.size]; exact Nat.le_refl _, fun j _ hj => ht.other j (by omega)⟩
      obtain ⟨fn, tmps, assign, body, hy, hRd⟩ := hY done q.1 wn hJn hlen
      have HML := Lib.hid hR.left_eq
      have HR2 := Lib.hid hR2
      have HPM := Lib.hid hperm
      have HK := Lib.hid (hk.trans hkn)
      clear hperm hR hrun hR2 hk hkn ht hJn hJd
      gi_wp2
      refine hRd.mono ?_
      rintro e W3 (⟨rfl, hJ3, hk3⟩ | ⟨rfl, hJx3⟩)
      · have hR3 := HR2.out.walk (hk3.1.2 p hS.1 hS.2) hk3.2
        have HM3 := Lib.hid hR3.left_eq
        have HR3 := Lib.hid hR3
        clear hR3
        gi_wp2
        go_roundw
        case rel => exact ⟨done ++ [q.1], r1 ++ r2, by
          have h1 := HPM.out
          simp only [List.map_append, List.map_cons] at h1 ⊢
          rw [List.append_assoc]
          exact ((List.perm_middle (l₁ := r1.map Prod.fst) (a := q.1) (l₂ := r2.map Prod.fst)).symm.append_left done).trans h1, HR3.out, hJ3, HK.out.trans hk3.1⟩
        case measure => rw [HML.out, HM3.out]; simp
      · gi_wp2
        refine bodyPost_ret (results_none rfl _ _ _) rfl ?_
        exact ⟨⟨_, rfl⟩, .inr ⟨done ++ [q.1], by simp; omega, hJx3⟩⟩

set_option maxHeartbeats 400000 in
theorem keysS_any (p : Nat) (w : World) : Calls Tryz.prog 229 #[.map (some p)] w fun e w' => e = .returned (.func (.func 259) #[] #[.pointer (some ⟨w.heap.size, 0, none⟩)]) ∧ w' = w.alloc (.cells #[.map (some p)] 223) := by
  go_enter Tryz.func229, Tryz.ntmps229
  go_wp2
  go_ret
  exact ⟨rfl, rfl⟩

theorem keysS_stops (n : Nat) (hn : 1 ≤ n) {p B n₀ : Nat} {L : List (Str × Nat)} {w : World} (hn₀ : n₀ ≤ w.heap.size) (hB : w.cell? ⟨B, 0, none⟩ = some (.map (some p))) (hm : MapIs St U w p L) (hp : p < n₀) :
    SeqStopsK Fence.wide n Tryz.prog 259 #[.pointer (some ⟨B, 0, none⟩)] (fun x => #[St x]) (KpW (fun b => b = p) n₀) (fun ys => ys.Perm (L.map Prod.fst)) (fun pre => pre.length ≤ L.length) L.length w :=
  fun l J Jx W hW hJ _ hY h0 => keysS1_in n l B p n₀ J Jx hn W hJ (Nat.le_trans hn₀ hW.size) hY (hW.cell (p := ⟨B, 0, none⟩) (blk_of_cell hB) |>.trans hB) (hm.ext hW) ⟨rfl, hp⟩ h0

/-- a boxed row of strings -/
def BoxS (bx base : Nat) (T : TypeId) (l : List Str) (W : World) : Prop :=
  ∃ v, W.cell? ⟨bx, 0, none⟩ = some v ∧ W.frozen? ⟨bx, 0, none⟩ = false ∧ Own W base T 1 v l.length (l.flatMap strC) ∧ ∀ b, ownBlk v b → b ≠ bx
theorem BoxS.from (bx base : Nat) (T : TypeId) (B : Nat) : OwnFrom B (fun s W => BoxS bx base T s W) := fun s W W' row ⟨v, h1, h2, h3, h4⟩ hg hr =>
  ⟨v, cell_kept h1 hg (fun r e => (hr r e).2), (frozen_kept h1 hg (fun r e => (hr r e).2)).trans h2, h3.kept hg (fun r e => (hr r e).2), h4⟩
theorem BoxS.grew {bx base : Nat} {T : TypeId} {l' : List Str} {W W' : World} {v v' : Value} (hv1 : W.cell? ⟨bx, 0, none⟩ = some v) (hv2 : W.frozen? ⟨bx, 0, none⟩ = false) (hv4 : ∀ b, ownBlk v b → b ≠ bx)
    (hgr : Grew W W' v v') (hown : Own W' base T 1 v' l'.length (l'.flatMap strC)) : W'.cell? ⟨bx, 0, none⟩ = some v ∧ W'.frozen? ⟨bx, 0, none⟩ = false ∧ BoxS bx base T l' (W'.setCell ⟨bx, 0, none⟩ v') := by
  have hb := blk_of_cell hv1
  have hsame := hgr.same bx hb (fun h => hv4 _ h rfl)
  have e1 : W'.cell? ⟨bx, 0, none⟩ = some v := (World.cell?_of_block (a := ⟨bx, 0, none⟩) hsame).trans hv1
  have e2 : W'.frozen? ⟨bx, 0, none⟩ = false := by
    unfold World.frozen? at hv2 ⊢
    simp only [] at hv2 ⊢
    rw [hsame]
    exact hv2
  have hblk : ∀ b, ownBlk v' b → b ≠ bx := fun b hb' => by
    rcases hgr.blk b hb' with h | h
    · exact hv4 b h
    · subst h; omega
  refine ⟨e1, e2, v', World.cell?_setCell_same' _ _ _ (by rw [e1]; rfl), by rw [World.frozen?_setCell]; exact e2, ?_, hblk⟩
  exact hown.keep fun b hb' _ => Below.heap_setCell W' _ v' b (hblk b hb')

set_option maxRecDepth 100000 in
set_option maxHeartbeats 1000000 in
theorem appendSeqS_any {p B : Nat} {L : List (Str × Nat)} {w : World} (hB : w.cell? ⟨B, 0, none⟩ = some (.map (some p))) (hm : MapIs St U w p L) (hL : L.length ≤ 1099511627776) :
    Calls Tryz.prog 268 #[.slice none 0 0, .func (.func 259) #[] #[.pointer (some ⟨B, 0, none⟩)]] w fun e w' =>
      ∃ (v' : Value) (ys : List Str), e = .returned v' ∧ ys.Perm (L.map Prod.fst) ∧ Own w' w.heap.size 9 1 v' ys.length (ys.flatMap strC) ∧ Ext w w' := by
  have hx0 : Ext w (w.alloc (.cells #[.slice none 0 0] 28)) := (Ext.refl w).alloc _
  have hbox := box_new w (.slice none 0 0) 28
  have hseq := keysS_stops 8 (by omega) (n₀ := w.heap.size) hx0.size (hx0.cell hB) (hm.ext hx0) hm.lt
  refine (callsIn_wide (n := 9)).1 ?_
  refine callsIn_of_wp_marks Tryz.func268 rfl trivial ?_ rfl
  simp only [Tryz.ntmps268, List.size_toArray, List.length_cons, List.length_nil, Nat.reduceAdd, Nat.reduceSub, Array.replicate_succ, Array.replicate_zero, List.push_toArray, List.append_toArray, List.nil_append, List.cons_append]
  gi_wp2
  generalize w.alloc (.cells #[.slice none 0 0] 28) = W0 at *
  refine wpIn_rangeFunc_ownG rfl (by omega) (gf := 259) (lb := #[.pointer (some ⟨B, 0, none⟩)]) rfl trivial (enters_of Tryz.func259 (by kernel_rfl) rfl)
    hseq (fun h k => ⟨h.1.trans k.1, h.2.trans k.2⟩) (fun W l o o' hl h1 h2 h3 => ⟨KpS.put hx0.size W l o o' hl h1 h2 h3, KeepsWalks.putObj o' h1 h3⟩) (Below.refl _ _) (fun _ => rfl)
    (fun pre W => BoxS w.heap.size w.heap.size 9 pre W ∧ Below w.heap.size w W)
    (fun _ _ _ => False)
    (OwnFrom.and (BoxS.from _ _ _ _) (ownFrom_below (Nat.le_refl _) hx0.size))
    (fun _ _ _ _ _ hs _ _ => hs)
    ⟨⟨_, hbox.1, hbox.2, Own.nil _ _ _ _ _, by rintro b ⟨g, n', c', he, hc, rfl⟩; cases he⟩, hx0⟩
    (fun x => { tmps := #[.slice none 0 0, .func (.func 259) #[] #[.pointer (some ⟨B, 0, none⟩)], .pointer (some ⟨w.heap.size, 0, none⟩), undef, .slice none 0 0, St x, .func (.func 259) #[] #[.pointer (some ⟨B, 0, none⟩)], St x, undef, undef, undef, undef, undef], defers := [] })
    ?assign ?body ?done ?stop
  case assign =>
    intro l x W K hK
    gi_wp2
    exact hK
  case body =>
    rintro l pre x W ⟨⟨v, hv1, hv2, hv3, hv4⟩, hB1⟩ hlt
    have hn3 := hB1.size
    gi_wp2_with (gi_at_builtin; refine wpListIn_append_Own rfl (.tmp 8) (.tmp 10) 28 rfl w.heap.size 9 1 16 (St []) Tryz.underlying28 info_str rfl (by omega) v pre.length (pre.flatMap strC) rfl (hv3.alloc _) _ 1 1 _ rfl (Src.new rfl (by intro u hu; rw [List.mem_singleton.1 hu]; rfl)) (by omega) (by omega) (by simp; omega) ?_; intro v' w' hown hgr
                 have hE := (Ext.refl W).alloc (.cells #[St x] 9)
                 obtain ⟨e1, e2, hbr⟩ := BoxS.grew (l' := pre ++ [x]) (hE.cell hv1) ((hE.frozen (blk_of_cell hv1)).trans hv2) hv4 hgr (by simpa [strC] using hown)
                 have hff := hown.form
                 obtain ⟨g', cap', rfl, -, -⟩ := hff)
    have hE := (Ext.refl W).alloc (.cells #[St x] 9)
    have hko := (KeepsOthers.alloc _ _).trans (hgr.keeps (hv3.alloc _))
    have hkp : KpS (fun b => b = p) w.heap.size W w' := (hE.kpS hn3).trans (KpS.grew hgr (Nat.le_trans hn3 hE.size) (fun b h h2 => (hv3.base_le h).1))
    have hBw := Ext.grewOwn (Below.trans hB1 (Below.mono hE hn3)) hgr (hv3.alloc _) (Nat.le_refl _)
    have hk2 := hko.trans (KeepsOthers.setCell w' ⟨w.heap.size, 0, none⟩ (.slice g' (pre.length + 1) cap'))
    exact ⟨hk2.from _, ⟨hkp.trans (KpS.set _ (fun _ => Nat.le_refl _) _), hk2.walks⟩, hbr, Below.setCell hBw (by simp) _⟩
  case done =>
    rintro D ys W hD hys ⟨⟨v, hv1, hv2, hv3, hv4⟩, hB1⟩ hK
    have hff := hv3.form
    obtain ⟨g', cap', rfl, -, -⟩ := hff
    gi_wp2
    refine ⟨by simp, .inl ⟨_, _, rfl, run_takeDeferred hK, ?_⟩⟩
    refine ⟨_, results_tmp rfl _ _ _, .slice g' ys.length cap', ys, rfl, hys, hv3.kept (grownBy_putObj' W D _) (fun r e => by cases e; exact ⟨_, hK, rfl⟩), ?_⟩
    exact Below.trans hB1 (belowK_b (w := w) (Nat.le_refl _) W D _ _ (by have := hx0.size; omega) hK rfl rfl)
  case stop =>
    rintro D c pre W _ _ h _
    exact h.elim
end
end Go.Proofs.YtdikcgmdmcfpfaaGreat
namespace Go.Proofs.YtdikcgmdmcfpfaaGreat
open Go.RowKit Go.Shelf

def placeC (p : Place) : List Value := [St p.1, St p.2.1, U p.2.2]
theorem placeC_len (l : List Place) : (l.flatMap placeC).length = l.length * 3 := by
  induction l with
  | nil => rfl
  | cons a r ih => simp [ih, placeC]; omega
theorem info_place : (Tryz.prog.info? 234).map (fun i => (i.zero, i.size, i.bytes)) = some (some (.agg #[St [], St [], U 0]), 3, 40) := by kernel_rfl

section
attribute [local go_sem] Oper.semAt_some

set_option maxRecDepth 100000 in
set_option maxHeartbeats 1000000 in
theorem keysP1_in (n l B p n₀ : Nat) {S : Nat → Prop} {ks : List Place} (J Jx : List Place → World → Prop) (hn : 1 ≤ n) (W : World) (hJ : AbidesFrom W.heap.size J) (hn₀ : n₀ ≤ W.heap.size)
    (hY : ∀ pre x W, J pre W → pre.length < ks.length → YieldAt Fence.wide (n - 1) Tryz.prog l #[placeV x] W fun e W' =>
      (e = .returned (.bool true) ∧ J (pre ++ [x]) W' ∧ KpW S n₀ W W') ∨ (e = .returned (.bool false) ∧ Jx (pre ++ [x]) W'))
    (hB : W.cell? ⟨B, 0, none⟩ = some (.map (some p))) (hm : SetOf placeV W p ks) (hS : S p ∧ p < n₀) (h0 : J [] W) :
    CallsIn Fence.wide n Tryz.prog 262 #[.func (.yield l) #[] #[], .pointer (some ⟨B, 0, none⟩)] W fun e W' => (∃ v, e = .returned v) ∧
      ((∃ ys, ys.Perm ks ∧ J ys W') ∨ (∃ pre, pre.length ≤ ks.length ∧ Jx pre W')) := by
  obtain ⟨W1, hr, hR, hx1, hsz⟩ := run_range_MapIs (P := Tryz.prog) Tryz.underlying229 hm
  have HR := Lib.hid hR
  have HJ1 := Lib.hid (hJ [] W W1 none h0 (ext_grownBy hx1) (by simp))
  have hrs : W.heap.size < W1.heap.size := by omega
  clear hR
  refine callsIn_of_wp Tryz.func262 rfl trivial ?_ rfl
  simp only [Tryz.ntmps262, List.size_toArray, List.length_cons, List.length_nil, Nat.reduceAdd, Nat.reduceSub, Array.replicate_succ, Array.replicate_zero, List.push_toArray, List.append_toArray, List.nil_append, List.cons_append]
  gi_wp2
  gi_loopw [3] (fun u wr => ∃ done rest, (done ++ rest.map Prod.fst).Perm ks ∧ RangeIs placeV unitV wr p W.heap.size (ks.map fun k => (k, ())) rest ∧ J done wr ∧ KpS S n₀ W wr) (fun _ wr => wr.rangeLeft p W.heap.size)
  case atStart => exact ⟨[], _, by rw [unit_keys]; exact .refl _, HR.out, HJ1.out, hx1.kpS hn₀⟩
  case round =>
    obtain ⟨done, rest, hperm, hR, hJd, hk⟩ := hrel
    rcases run_next_MapIs (P := Tryz.prog) 0 hR with ⟨rfl, hrun⟩ | ⟨r1, q, r2, wn, rfl, hrun, hR2, ht, hent⟩
    · have hnx : ∀ ty, (Instr.next (.pointer (some ⟨W.heap.size, 0, none⟩)) false ty).run Tryz.prog wr = .ok (.tuple #[.bool false]) wr := fun ty => hrun
      have HPM := Lib.hid hperm
      have HJD := Lib.hid hJd
      clear hperm hR hrun hJd
      gi_wp2
      go_end0
      exact ⟨⟨_, rfl⟩, .inl ⟨done, by simpa using HPM.out, HJD.out⟩⟩
    · have hnx : ∀ ty, (Instr.next (.pointer (some ⟨W.heap.size, 0, none⟩)) false ty).run Tryz.prog wr = .ok (.tuple #[.bool true, placeV q.1, unitV q.2]) wn := fun ty => hrun
      have hlen : done.length < ks.length := by
        have := hperm.length_eq
        simp at this
        omega
      have hJn : J done wn := hJ done wr wn (some W.heap.size) hJd ⟨ht.os, ht.tape, ht.output, by rw [ht.size]; exact Nat.le_refl _, fun j _ hj => ht.other j (fun e => hj (by rw [e]))⟩ (fun r e => by
        cases e
        obtain ⟨es, c, s, h1, h2, h3, h4, h5, h6, h7⟩ := hR
        exact ⟨Nat.le_refl _, _, h6, rfl⟩)
      have hxa := (Ext.refl wn).alloc (.cells #[St q.1.1, St q.1.2.1, U q.1.2.2] 234)
      have hJa := hJ done wn _ none hJn (ext_grownBy hxa) (by simp)
      have hrn : W.heap.size < wn.heap.size := hR2.lt
      have hkn : KpS S n₀ wr (wn.alloc (.cells #[St q.1.1, St q.1.2.1, U q.1.2.2] 234)) := KpS.trans ⟨by rw [ht.size]; exact Nat.le_refl _, fun j _ hj => ht.other j (by omega)⟩ (hxa.kpS (by omega))
      obtain ⟨fn, tmps, assign, body, hy, hRd⟩ := hY done q.1 _ hJa hlen
      have HML := Lib.hid hR.left_eq
      have HR2 := Lib.hid (hR2.ext hxa)
      have HPM := Lib.hid hperm
      have HK := Lib.hid (hk.trans hkn)
      have b0 : (wn.alloc (.cells #[St q.1.1, St q.1.2.1, U q.1.2.2] 234)).cell? ⟨wn.heap.size, 0, none⟩ = some (St q.1.1) := by simp [go_sem]
      have b1 : (wn.alloc (.cells #[St q.1.1, St q.1.2.1, U q.1.2.2] 234)).cell? ⟨wn.heap.size, 1, none⟩ = some (St q.1.2.1) := by simp [go_sem]
      have b2 : (wn.alloc (.cells #[St q.1.1, St q.1.2.1, U q.1.2.2] 234)).cell? ⟨wn.heap.size, 2, none⟩ = some (U q.1.2.2) := by simp [go_sem]
      clear hperm hR hrun hR2 hk hkn ht hJn hJd hJa hxa
      gi_wp2
      refine hRd.mono ?_
      rintro e W3 (⟨rfl, hJ3, hk3⟩ | ⟨rfl, hJx3⟩)
      · have hR3 := HR2.out.walk (hk3.1.2 p hS.1 hS.2) hk3.2
        have HM3 := Lib.hid hR3.left_eq
        have HR3 := Lib.hid hR3
        clear hR3
        gi_wp2
        go_roundw
        case rel => exact ⟨done ++ [q.1], r1 ++ r2, by
          have h1 := HPM.out
          simp only [List.map_append, List.map_cons] at h1 ⊢
          rw [List.append_assoc]
          exact ((List.perm_middle (l₁ := r1.map Prod.fst) (a := q.1) (l₂ := r2.map Prod.fst)).symm.append_left done).trans h1, HR3.out, hJ3, HK.out.trans hk3.1⟩
        case measure => rw [HML.out, HM3.out]; simp
      · gi_wp2
        refine bodyPost_ret (results_none rfl _ _ _) rfl ?_
        exact ⟨⟨_, rfl⟩, .inr ⟨done ++ [q.1], by simp; omega, hJx3⟩⟩

set_option maxHeartbeats 400000 in
theorem keysP_any (p : Nat) (w : World) : Calls Tryz.prog 234 #[.map (some p)] w fun e w' => e = .returned (.func (.func 262) #[] #[.pointer (some ⟨w.heap.size, 0, none⟩)]) ∧ w' = w.alloc (.cells #[.map (some p)] 229) := by
  go_enter Tryz.func234, Tryz.ntmps234
  go_wp2
  go_ret
  exact ⟨rfl, rfl⟩

theorem keysP_stops (n : Nat) (hn : 1 ≤ n) {p B n₀ : Nat} {ks : List Place} {w : World} (hn₀ : n₀ ≤ w.heap.size) (hB : w.cell? ⟨B, 0, none⟩ = some (.map (some p))) (hm : SetOf placeV w p ks) (hp : p < n₀) :
    SeqStopsK Fence.wide n Tryz.prog 262 #[.pointer (some ⟨B, 0, none⟩)] (fun x => #[placeV x]) (KpW (fun b => b = p) n₀) (fun ys => ys.Perm ks) (fun pre => pre.length ≤ ks.length) ks.length w :=
  fun l J Jx W hW hJ _ hY h0 => keysP1_in n l B p n₀ J Jx hn W hJ (Nat.le_trans hn₀ hW.size) hY (hW.cell (p := ⟨B, 0, none⟩) (blk_of_cell hB) |>.trans hB) (hm.ext hW) ⟨rfl, hp⟩ h0

/-- a boxed row of places -/
def BoxP (bx base : Nat) (T : TypeId) (l : List Place) (W : World) : Prop :=
  ∃ v, W.cell? ⟨bx, 0, none⟩ = some v ∧ W.frozen? ⟨bx, 0, none⟩ = false ∧ Own W base T 3 v l.length (l.flatMap placeC) ∧ ∀ b, ownBlk v b → b ≠ bx
theorem BoxP.from (bx base : Nat) (T : TypeId) (B : Nat) : OwnFrom B (fun s W => BoxP bx base T s W) := fun s W W' row ⟨v, h1, h2, h3, h4⟩ hg hr =>
  ⟨v, cell_kept h1 hg (fun r e => (hr r e).2), (frozen_kept h1 hg (fun r e => (hr r e).2)).trans h2, h3.kept hg (fun r e => (hr r e).2), h4⟩
theorem BoxP.grew {bx base : Nat} {T : TypeId} {l' : List Place} {W W' : World} {v v' : Value} (hv1 : W.cell? ⟨bx, 0, none⟩ = some v) (hv2 : W.frozen? ⟨bx, 0, none⟩ = false) (hv4 : ∀ b, ownBlk v b → b ≠ bx)
    (hgr : Grew W W' v v') (hown : Own W' base T 3 v' l'.length (l'.flatMap placeC)) : W'.cell? ⟨bx, 0, none⟩ = some v ∧ W'.frozen? ⟨bx, 0, none⟩ = false ∧ BoxP bx base T l' (W'.setCell ⟨bx, 0, none⟩ v') := by
  have hb := blk_of_cell hv1
  have hsame := hgr.same bx hb (fun h => hv4 _ h rfl)
  have e1 : W'.cell? ⟨bx, 0, none⟩ = some v := (World.cell?_of_block (a := ⟨bx, 0, none⟩) hsame).trans hv1
  have e2 : W'.frozen? ⟨bx, 0, none⟩ = false := by
    unfold World.frozen? at hv2 ⊢
    simp only [] at hv2 ⊢
    rw [hsame]
    exact hv2
  have hblk : ∀ b, ownBlk v' b → b ≠ bx := fun b hb' => by
    rcases hgr.blk b hb' with h | h
    · exact hv4 b h
    · subst h; omega
  refine ⟨e1, e2, v', World.cell?_setCell_same' _ _ _ (by rw [e1]; rfl), by rw [World.frozen?_setCell]; exact e2, ?_, hblk⟩
  exact hown.keep fun b hb' _ => Below.heap_setCell W' _ v' b (hblk b hb')

set_option maxRecDepth 100000 in
set_option maxHeartbeats 1000000 in
theorem appendSeqP_any {p B : Nat} {ks : List Place} {w : World} (hB : w.cell? ⟨B, 0, none⟩ = some (.map (some p))) (hm : SetOf placeV w p ks) (hL : ks.length ≤ 1099511627776) :
    Calls Tryz.prog 269 #[.slice none 0 0, .func (.func 262) #[] #[.pointer (some ⟨B, 0, none⟩)]] w fun e w' =>
      ∃ (v' : Value) (ys : List Place), e = .returned v' ∧ ys.Perm ks ∧ Own w' w.heap.size 234 3 v' ys.length (ys.flatMap placeC) ∧ Ext w w' := by
  have hx0 : Ext w (w.alloc (.cells #[.slice none 0 0] 275)) := (Ext.refl w).alloc _
  have hbox := box_new w (.slice none 0 0) 275
  have hseq := keysP_stops 8 (by omega) (n₀ := w.heap.size) hx0.size (hx0.cell hB) (hm.ext hx0) hm.lt
  refine (callsIn_wide (n := 9)).1 ?_
  refine callsIn_of_wp_marks Tryz.func269 rfl trivial ?_ rfl
  simp only [Tryz.ntmps269, List.size_toArray, List.length_cons, List.length_nil, Nat.reduceAdd, Nat.reduceSub, Array.replicate_succ, Array.replicate_zero, List.push_toArray, List.append_toArray, List.nil_append, List.cons_append]
  gi_wp2
  generalize w.alloc (.cells #[.slice none 0 0] 275) = W0 at *
  refine wpIn_rangeFunc_ownH rfl (by omega) (gf := 262) (lb := #[.pointer (some ⟨B, 0, none⟩)]) rfl trivial (enters_of Tryz.func262 (by kernel_rfl) rfl)
    hseq (fun h k => ⟨h.1.trans k.1, h.2.trans k.2⟩) (fun W l o o' hl h1 h2 h3 => ⟨KpS.put hx0.size W l o o' hl h1 h2 h3, KeepsWalks.putObj o' h1 h3⟩) (Below.refl _ _) (fun _ => rfl)
    (fun pre W => BoxP w.heap.size w.heap.size 234 pre W ∧ Below w.heap.size w W)
    (fun _ _ _ => False)
    (OwnFrom.and (BoxP.from _ _ _ _) (ownFrom_below (Nat.le_refl _) hx0.size))
    (fun _ _ _ _ _ hs _ _ => hs)
    ⟨⟨_, hbox.1, hbox.2, Own.nil _ _ _ _ _, by rintro b ⟨g, n', c', he, hc, rfl⟩; cases he⟩, hx0⟩
    (fun x a' W => ∃ Bx, (W.cell? ⟨Bx, 0, none⟩ = some (St x.1) ∧ W.cell? ⟨Bx, 1, none⟩ = some (St x.2.1) ∧ W.cell? ⟨Bx, 2, none⟩ = some (U x.2.2)) ∧
      a' = { tmps := #[.slice none 0 0, .func (.func 262) #[] #[.pointer (some ⟨B, 0, none⟩)], .pointer (some ⟨w.heap.size, 0, none⟩), undef, .slice none 0 0, .pointer (some ⟨Bx, 0, none⟩), .func (.func 262) #[] #[.pointer (some ⟨B, 0, none⟩)], placeV x, undef, undef, undef, undef, undef], defers := [] })
    (fun x a' s W W' row ⟨Bx, ⟨h1, h2, h3⟩, h4⟩ hg hr => ⟨Bx, ⟨cell_kept h1 hg (fun r e => (hr r e).2), cell_kept h2 hg (fun r e => (hr r e).2), cell_kept h3 hg (fun r e => (hr r e).2)⟩, h4⟩)
    ?assign ?body ?done ?stop
  case assign =>
    rintro l pre x W K ⟨⟨v, hv1, hv2, hv3, hv4⟩, hB1⟩ hK
    have hE := (Ext.refl W).alloc (.cells #[St x.1, St x.2.1, U x.2.2] 234)
    dsimp only [placeV]
    gi_wp2
    have hn3 := hB1.size
    exact hK _ _ ((KeepsOthers.alloc _ _).from _) ⟨hE.kpS hn3, (KeepsOthers.alloc _ _).walks⟩ ⟨⟨v, hE.cell hv1, (hE.frozen (blk_of_cell hv1)).trans hv2, hv3.ext hE, hv4⟩, Below.trans hB1 (hE.below hn3)⟩
      ⟨W.heap.size, ⟨by simp [go_sem], by simp [go_sem], by simp [go_sem]⟩, rfl⟩
  case body =>
    rintro l pre x a' W hl - ⟨⟨v, hv1, hv2, hv3, hv4⟩, hB1⟩ ⟨Bx, ⟨p0, p1, p2⟩, rfl⟩ hlt
    have hn3 := hB1.size
    gi_wp2_with (gi_at_builtin; refine wpListIn_append_Own rfl (.tmp 8) (.tmp 10) 275 rfl w.heap.size 234 3 40 (.agg #[St [], St [], U 0]) Tryz.underlying275 info_place rfl (by omega) v pre.length (pre.flatMap placeC) rfl (hv3.alloc _) _ 1 1 _ rfl (Src.new rfl (by intro u hu; simp at hu; rcases hu with rfl | rfl | rfl <;> rfl)) (by omega) (by omega) (by simp; omega) ?_; intro v' w' hown hgr
                 have hE := (Ext.refl W).alloc (.cells #[St x.1, St x.2.1, U x.2.2] 234)
                 obtain ⟨e1, e2, hbr⟩ := BoxP.grew (l' := pre ++ [x]) (hE.cell hv1) ((hE.frozen (blk_of_cell hv1)).trans hv2) hv4 hgr (by simpa [placeC] using hown)
                 have hff := hown.form
                 obtain ⟨g', cap', rfl, -, -⟩ := hff)
    have hE := (Ext.refl W).alloc (.cells #[St x.1, St x.2.1, U x.2.2] 234)
    have hko := (KeepsOthers.alloc _ _).trans (hgr.keeps (hv3.alloc _))
    have hkp : KpS (fun b => b = p) w.heap.size W w' := (hE.kpS hn3).trans (KpS.grew hgr (Nat.le_trans hn3 hE.size) (fun b h h2 => (hv3.base_le h).1))
    have hBw := Ext.grewOwn (Below.trans hB1 (Below.mono hE hn3)) hgr (hv3.alloc _) (Nat.le_refl _)
    have hk2 := hko.trans (KeepsOthers.setCell w' ⟨w.heap.size, 0, none⟩ (.slice g' (pre.length + 1) cap'))
    exact ⟨hk2.from _, ⟨hkp.trans (KpS.set _ (fun _ => Nat.le_refl _) _), hk2.walks⟩, hbr, Below.setCell hBw (by simp) _⟩
  case done =>
    rintro D ys W hD hys ⟨⟨v, hv1, hv2, hv3, hv4⟩, hB1⟩ hK
    have hff := hv3.form
    obtain ⟨g', cap', rfl, -, -⟩ := hff
    gi_wp2
    refine ⟨by simp, .inl ⟨_, _, rfl, run_takeDeferred hK, ?_⟩⟩
    refine ⟨_, results_tmp rfl _ _ _, .slice g' ys.length cap', ys, rfl, hys, hv3.kept (grownBy_putObj' W D _) (fun r e => by cases e; exact ⟨_, hK, rfl⟩), ?_⟩
    exact Below.trans hB1 (belowK_b (w := w) (Nat.le_refl _) W D _ _ (by have := hx0.size; omega) hK rfl rfl)
  case stop =>
    rintro D c pre W _ _ h _
    exact h.elim
end

set_option maxRecDepth 100000 in
set_option maxHeartbeats 400000 in
theorem collectP_any {p B : Nat} {ks : List Place} {w : World} (hB : w.cell? ⟨B, 0, none⟩ = some (.map (some p))) (hm : SetOf placeV w p ks) (hL : ks.length ≤ 1099511627776) :
    Calls Tryz.prog 260 #[.func (.func 262) #[] #[.pointer (some ⟨B, 0, none⟩)]] w fun e w' =>
      ∃ (v' : Value) (ys : List Place), e = .returned v' ∧ ys.Perm ks ∧ Own w' w.heap.size 234 3 v' ys.length (ys.flatMap placeC) ∧ Ext w w' := by
  have H := Lib.hid (appendSeqP_any hB hm hL)
  clear hB hm
  go_enter Tryz.func260, Tryz.ntmps260
  go_wp2_with fail
  refine H.out.mono ?_
  rintro e w1 ⟨v', ys, rfl, hp, hv, hx⟩
  have HV := Lib.hid hv
  have HP := Lib.hid hp
  clear hv hp
  go_wp2_with fail
  go_ret
  exact ⟨_, ys, rfl, HP.out, HV.out, hx⟩
end Go.Proofs.YtdikcgmdmcfpfaaGreat
namespace Go.Proofs.YtdikcgmdmcfpfaaGreat
open Go.RowKit Go.Shelf Go.Sort

theorem grow_grow (W : World) (q r : Nat) (os os' : Array Obj) : Go.Sort.grow ((Go.Sort.grow (W.drewN q) os).drewN r) os' = Go.Sort.grow (W.drewN (q + r)) (os ++ os') := by
  simp [Go.Sort.grow, World.drewN, Array.append_assoc, Nat.add_assoc]

set_option maxRecDepth 100000 in
set_option maxHeartbeats 400000 in
theorem items1_any (a b : Place) (W : World) : Calls Tryz.prog 235 #[placeV a, placeV b] W fun e w' => e = .returned (I (cmpP a b)) ∧ ∃ q os, w' = Go.Sort.grow (W.drewN q) os := by
  have H1 := Lib.hid scmp_any
  have H2 := Lib.hid compare_any
  have hw0 : (W.alloc (.cells #[St a.1, St a.2.1, U a.2.2] 234)).alloc (.cells #[St b.1, St b.2.1, U b.2.2] 234) = Go.Sort.grow (W.drewN 0) #[.cells #[St a.1, St a.2.1, U a.2.2] 234, .cells #[St b.1, St b.2.1, U b.2.2] 234] := by
    rw [Go.Sort.alloc_eq_grow, Go.Sort.alloc_eq_grow]
    rfl
  by_cases h : cmpS a.1 b.1 = 0
  · have hc : cmpP a b = cmpD a.2 b.2 := by unfold cmpP; rw [h]; simp [orI]
    have HC := Lib.hid hc
    have h1 : (cmpS a.1 b.1 != 0) = false := by simp [h]
    have HW := Lib.hid hw0
    clear hc hw0
    go_enter Tryz.func235, Tryz.ntmps235
    go_wp2_with fail
    refine (H1.out _ _ _).mono ?_
    rintro e w' ⟨rfl, rfl⟩
    rw [h]
    clear h h1
    go_wp2_with fail
    refine (H2.out _ _ _).mono ?_
    rintro e w' ⟨rfl, q, os, rfl⟩
    go_wp2
    go_ret
    exact ⟨by rw [HC.out]; rfl, _, _, by rw [HW.out, grow_grow]⟩
  · have hc : cmpP a b = cmpS a.1 b.1 := by unfold cmpP; simp [orI, h]
    have HC := Lib.hid hc
    have HW := Lib.hid hw0
    have h1 : (cmpS a.1 b.1 != 0) = true := by simp [h]
    have h2 : (cmpS a.1 b.1 == 0) = false := by simp [h]
    obtain ⟨z, hz⟩ : ∃ z, cmpS a.1 b.1 = z := ⟨_, rfl⟩
    have HZ := Lib.hid hz
    rw [hz] at h h1 h2
    clear hc hw0 hz
    go_enter Tryz.func235, Tryz.ntmps235
    go_wp2_with fail
    refine (H1.out _ _ _).mono ?_
    rintro e w' ⟨rfl, rfl⟩
    rw [HZ.out]
    go_wp2
    go_ret
    exact ⟨by rw [HC.out, HZ.out]; rfl, _, _, HW.out⟩

theorem sort_place {v : Value} {l : List Place} {w : World} {base : Nat} (hv : Own w base 234 3 v l.length (l.flatMap placeC)) (hbase : base ≤ w.heap.size) (hl : l.length ≤ 1099511627776) :
    Calls Tryz.prog 261 #[v, .func (.func 235) #[] #[]] w fun e w' => e = .returned (.tuple #[]) ∧
      Own w' base 234 3 v (isort (ltOf cmpP) l).length ((isort (ltOf cmpP) l).flatMap placeC) ∧ Below base w w' := by
  rcases Nat.eq_zero_or_pos l.length with h0 | h0
  · obtain rfl : l = [] := List.eq_nil_of_length_eq_zero h0
    obtain ⟨A, c, rfl, -, -⟩ := hv.form
    have hcon := AnyF.slices_SortFunc_none Tryz.sortPlace A c (.func (.func 235) #[] #[]) w
    exact Calls.mono hcon fun e w' ⟨he, hw⟩ => ⟨he, by rw [hw]; exact hv, by rw [hw]; exact Below.refl _ _⟩
  · obtain ⟨gb, cap, tail, rfl, hgb, hrow, hnc, hcm, hcl⟩ := hv.row h0
    have eg : ∀ args w, (callFunc 235 args).run Tryz.prog w = .ok (.enter 235 args) w := enters_of Tryz.func235 (by kernel_rfl) rfl
    have hH : Go.Sort.HoldsK placeC 3 w gb 0 l.toArray := holds_row (F := Go.Sort.flatK placeC 3 l.toArray) (by rw [flatK_toList (enc := placeC) (k := 3) (fun _ => rfl) (by decide)]; exact hrow)
    have hcon := AnyQ.slices_SortFunc Tryz.sortPlace 3 Tryz.isAgg234 Tryz.sizeOf234 placeC (fun _ => rfl) (fun x v hv => by simp [placeC] at hv; rcases hv with rfl | rfl | rfl <;> rfl) cmpP cmpP_swo 235 #[] gb 0 cap l.toArray w eg
      (fun _ _ _ _ x y => items1_any x y _) hH hrow.lt (by simp; omega)
    refine hcon.mono ?_
    rintro e w' ⟨rfl, d', n, os, hp, hs, rfl⟩
    have hd := sort_is cmpP_swo cmpP_anti hp hs
    have hsz : d'.size = l.length := by simpa using hp.1
    obtain ⟨h1, h2⟩ := sorted_row (enc := placeC) (k := 3) (fun _ => rfl) (by decide) (d' := d') (n := n) (os := os) hrow hgb hsz
    rw [hd] at h1
    have hil : (isort (ltOf cmpP) l).length = l.length := (isort_perm l).length_eq
    refine ⟨rfl, ?_, h2⟩
    rw [hil]
    refine h1.own hgb hnc hcm ?_ ?_ ?_
    · rw [List.length_append, placeC_len, hil]
      rw [List.length_append, placeC_len] at hcl
      exact hcl
    · rw [List.take_of_length_le (by rw [placeC_len, hil]; exact Nat.le_refl _)]
    · rw [placeC_len, hil]

set_option maxRecDepth 100000 in
set_option maxHeartbeats 400000 in
theorem sortedP_any {p B : Nat} {ks : List Place} {w : World} (hB : w.cell? ⟨B, 0, none⟩ = some (.map (some p))) (hm : SetOf placeV w p ks) (hL : ks.length ≤ 1099511627776) :
    Calls Tryz.prog 233 #[.func (.func 262) #[] #[.pointer (some ⟨B, 0, none⟩)], .func (.func 235) #[] #[]] w fun e w' =>
      ∃ v', e = .returned v' ∧ Own w' w.heap.size 234 3 v' (isort (ltOf cmpP) ks).length ((isort (ltOf cmpP) ks).flatMap placeC) ∧ Ext w w' := by
  have H := Lib.hid (collectP_any hB hm hL)
  clear hB hm
  go_enter Tryz.func233, Tryz.ntmps233
  go_wp2_with fail
  refine H.out.mono ?_
  rintro e w1 ⟨v', ys, rfl, hp, hv, hx⟩
  have H2 := Lib.hid (sort_place hv hx.size (by have := hp.length_eq; omega))
  have HP := Lib.hid hp
  clear hv hp
  go_wp2_with fail
  refine H2.out.mono ?_
  rintro e w2 ⟨rfl, hv2, hx2⟩
  rw [isort_perm_eq cmpP_swo cmpP_anti HP.out] at hv2
  have HV := Lib.hid hv2
  clear hv2
  go_wp2_with fail
  go_ret
  exact ⟨_, rfl, HV.out, Below.trans hx hx2⟩
end Go.Proofs.YtdikcgmdmcfpfaaGreat
namespace Go.Proofs.YtdikcgmdmcfpfaaGreat
open Go.RowKit

theorem Src.newAt {w : World} {k b : Nat} {T : TypeId} {vs : List Value} (hb : b = w.heap.size) (hk : vs.length = k) (h1 : ∀ u ∈ vs, u.oneCell' = true) : Src (w.alloc (.cells vs.toArray T)) k (some ⟨b, 0, none⟩) 1 vs := by
  subst hb
  exact Src.new hk h1

theorem step_append_Own {P : Program} {ops : Array Oper} {o : Oper} {a : Act} {w : World} {K : Act → World → Prop} {Q : Exit → Act → World → Prop} {E : Prop}
    (hg : o.guard = none) (s x : Operand) (t : TypeId) (hop : o.op = Op.call { callee := Callee.builtin Builtin.append, args := #[s, x], argTypes := #[t, t] })
    (base e size bytes : Nat) (z : Value) (ht : P.underlying t = some (.slice e)) (hinfo : (P.info? e).map (fun i => (i.zero, i.size, i.bytes)) = some (some z, size, bytes)) (hzs : z.cells.size = size) (hsz : 0 < size)
    (v : Value) (n : Nat) (xs : List Value) (hs : a.eval s = v) (hown : Own w base e size v n xs)
    (A : Option Addr) (m c : Nat) (news : List Value) (hx : a.eval x = .slice A m c) (hsrc : Src w size A m news)
    (hbytes : (n + m) * bytes ≤ 140737488355328) (h63 : n + m ≤ 9223372036854775807) (hbase : base ≤ w.heap.size)
    (h : ∀ v' w', Own w' base e size v' (n + m) (xs ++ news) → Grew w w' v v' → K (a.put o.dst v') w') :
    if Region.wanted o (yielded ops a.tmps) = true then Oper.wp P o a w K Q else E := by
  have hw : Region.wanted o (yielded ops a.tmps) = true := by simp [Region.wanted, hg]
  rw [if_pos hw]
  obtain ⟨i, hi, hz, hsize, hby⟩ := info_parts hinfo
  obtain ⟨v', w', hr, h2, g1, g2, g3, g4, g5, g6⟩ := run_append_Own (P := P) w base t o.type e i z size bytes ht hi hz hsize hby hzs hsz v n xs hown A m c news hsrc hbytes h63 hbase
  unfold Oper.wp execOp
  simp only [hop, resolve, invoke, builtin, Sem.run_bind, Sem.run_pure, Result.andThen_ok, List.map_toArray, List.map_cons, List.map_nil, hs, hx, hr]
  exact h v' w' h2 ⟨g1, g2, g3, g4, g5, g6⟩
end Go.Proofs.YtdikcgmdmcfpfaaGreat
namespace Go.Proofs.YtdikcgmdmcfpfaaGreat
open Go.RowKit Go.Shelf Go.Sort

theorem own_slPlace {tid base : Nat} {v : Value} {l : List Place} {w : World} (h : Own w base tid 3 v l.length (l.flatMap placeC)) {pre post : List Place} {m : Place} (hl : l = pre ++ m :: post) :
    ∃ g c, v = .slice (some ⟨g, 0, none⟩) l.length c ∧ ∀ w', Ext w w' → w'.cell? ⟨g, pre.length * 3, none⟩ = some (St m.1) ∧ w'.cell? ⟨g, pre.length * 3 + 1, none⟩ = some (St m.2.1) ∧ w'.cell? ⟨g, pre.length * 3 + 2, none⟩ = some (U m.2.2) := by
  obtain ⟨g, cap, cur, rfl, -, -, -⟩ := h.pos (by rw [hl]; simp; omega)
  have hp := placeC_len pre
  have e : ∀ j, (placeC m)[j]? = (l.flatMap placeC)[pre.length * 3 + j]? ∨ 3 ≤ j := fun j => by
    rcases Nat.lt_or_ge j 3 with hj | hj
    · left
      rw [hl, List.flatMap_append, List.flatMap_cons, ← hp, List.getElem?_append_right (by omega), Nat.add_sub_cancel_left, List.getElem?_append_left (by simp [placeC]; omega)]
    · exact .inr hj
  refine ⟨g, cap, rfl, fun w' hx => ?_⟩
  have h0 := (e 0).resolve_right (by omega)
  have h1 := (e 1).resolve_right (by omega)
  have h2 := (e 2).resolve_right (by omega)
  exact ⟨hx.cell (h.cell rfl h0.symm), hx.cell (h.cell rfl h1.symm), hx.cell (h.cell rfl h2.symm)⟩

theorem groupL_ne {ps : List Place} (h : ps ≠ []) : groupL ps ≠ [] := by
  obtain ⟨q, x, rfl⟩ := (List.eq_nil_or_concat ps).resolve_left h
  rw [List.concat_eq_append, groupL_snoc]
  unfold groupStep
  split
  · simp
  · split <;> simp
theorem groupL_len : ∀ ps : List Place, (groupL ps).length ≤ ps.length := by
  have : ∀ (ps : List Place) (l : List Item), (ps.foldl groupStep l).length ≤ l.length + ps.length := by
    intro ps
    induction ps with
    | nil => simp
    | cons p r ih =>
      intro l
      rw [List.foldl_cons]
      refine Nat.le_trans (ih _) ?_
      have : (groupStep l p).length ≤ l.length + 1 := by
        unfold groupStep
        split
        · simp
        · rename_i it he
          split
          · have : l ≠ [] := by rintro rfl; simp at he
            have := List.length_pos_iff.2 this
            simp; (try omega)
          · simp
      simp; omega
  intro ps
  simpa [groupL] using this ps []

theorem groupStep_dots {l : List Item} {p : Place} {n : Nat} (hl : ∀ it ∈ l, it.2.length ≤ n) : ∀ it ∈ groupStep l p, it.2.length ≤ n + 1 := by
  intro it h
  unfold groupStep at h
  split at h
  · simp at h; subst h; simp
  · rename_i a ha
    have ham : a ∈ l := List.mem_of_getLast? ha
    split at h
    · rcases List.mem_append.1 h with h | h
      · exact Nat.le_succ_of_le (hl it (List.dropLast_subset _ h))
      · simp at h; subst h; simp; exact hl a ham
    · rcases List.mem_append.1 h with h | h
      · exact Nat.le_succ_of_le (hl it h)
      · simp at h; subst h; simp
theorem groupL_dots (ps : List Place) : ∀ it ∈ groupL ps, it.2.length ≤ ps.length := by
  have : ∀ (ps : List Place) (l : List Item) (n : Nat), (∀ it ∈ l, it.2.length ≤ n) → ∀ it ∈ ps.foldl groupStep l, it.2.length ≤ n + ps.length := by
    intro ps
    induction ps with
    | nil => intro l n hl it h; exact hl it h
    | cons p r ih =>
      intro l n hl it h
      have := ih (groupStep l p) (n + 1) (groupStep_dots hl) it h
      simp only [List.length_cons]
      omega
  intro it h
  have := this ps [] 0 (by simp) it h
  omega
/-- what is held of the row of items at a round's head -/
def RowOf (W : World) (base : Nat) (v : Value) (ps : List Place) : Prop :=
  (ps = [] ∧ v = .slice none 0 0) ∨ ∃ its last, groupL ps = its ++ [last] ∧ ItemsAt W base v its last

set_option maxRecDepth 100000 in
set_option maxHeartbeats 1000000 in
theorem items_any {p : Nat} {ks : List Place} {w : World} (hm : SetOf placeV w p ks) (hL : ks.length ≤ 1099511627776) :
    Calls Tryz.prog 193 #[.map (some p)] w fun e w' => ∃ v', e = .returned v' ∧ OwnL itemT 96 w' w.heap.size (fun b => w.heap.size ≤ b) v' (itemsL ks) ∧ Ext w w' := by
  have HK := Lib.hid (keysP_any p w)
  have hxk := (Ext.refl w).alloc (.cells #[.map (some p)] 229)
  have HS := Lib.hid (sortedP_any (B := w.heap.size) (by simp [go_sem]) (hm.ext hxk) hL)
  clear hm
  go_enter Tryz.func193, Tryz.ntmps193
  go_wp2_with fail
  refine HK.out.mono ?_
  rintro e wk ⟨rfl, rfl⟩
  go_wp2_with fail
  refine HS.out.mono ?_
  rintro e W2 ⟨vk, rfl, hks, hx2⟩
  have hkl : (isort (ltOf cmpP) ks).length = ks.length := (isort_perm _).length_eq
  have HI := Lib.hid (show itemsL ks = groupL (isort (ltOf cmpP) ks) from rfl)
  generalize isort (ltOf cmpP) ks = qs at *
  have hkl2 : qs.length ≤ 1099511627776 := by omega
  clear hkl
  have HW2 := Lib.hid (hxk.trans hx2)
  have hff := hks.form
  obtain ⟨A, c, rfl, hc1, hc2⟩ := hff
  have HAT := Lib.hid (fun (pre post : List Place) (m : Place) (hl : qs = pre ++ m :: post) => own_slPlace hks hl)
  clear hks hx2 hxk
  go_wp2_with fail
  go_loopw [4, 13] (fun l i wr => ∃ pre post, qs = pre ++ post ∧ i = I pre.length ∧ Hid (RowOf wr W2.heap.size l pre) ∧ Ext W2 wr) (fun _ i _ => qs.length - (intOf i).toNat)
  case atStart => exact ⟨[], qs, rfl, rfl, Lib.hid (.inl ⟨rfl, rfl⟩), Ext.refl _⟩
  case round =>
    obtain ⟨pre, post, hl, rfl, hrow, hx⟩ := hrel
    cases post with
    | cons q post =>
      obtain ⟨gk, ck, e, hcells⟩ := HAT.out pre post q hl
      obtain ⟨rfl, rfl⟩ : A = some ⟨gk, 0, none⟩ ∧ c = ck := by injection e with e1 e2 e3; exact ⟨e1, e3⟩
      obtain ⟨hd0, hd1, hd2⟩ := hcells wr hx
      have hlt : pre.length < qs.length := by rw [hl]; simp
      have HL := Lib.hid hl
      have hx1 := (Ext.refl wr).alloc (.cells #[St q.1, St q.2.1, U q.2.2] 234)
      have b0 : (wr.alloc (.cells #[St q.1, St q.2.1, U q.2.2] 234)).cell? ⟨wr.heap.size, 0, none⟩ = some (St q.1) := by simp [go_sem]
      have b1 : (wr.alloc (.cells #[St q.1, St q.2.1, U q.2.2] 234)).cell? ⟨wr.heap.size, 1, none⟩ = some (St q.2.1) := by simp [go_sem]
      have b2 : (wr.alloc (.cells #[St q.1, St q.2.1, U q.2.2] 234)).cell? ⟨wr.heap.size, 2, none⟩ = some (U q.2.2) := by simp [go_sem]
      have HX := Lib.hid (hx.trans hx1)
      have hn3 := hx.size
      have hsz1 : wr.heap.size + 1 ≤ (wr.alloc (.cells #[St q.1, St q.2.1, U q.2.2] 234)).heap.size := by simp
      have hsz2 : (wr.alloc (.cells #[St q.1, St q.2.1, U q.2.2] 234)).heap.size ≤ wr.heap.size + 1 := by simp
      clear hl hx e hcells
      rcases hrow.out with ⟨rfl, rfl⟩ | ⟨its, ⟨t, ds⟩, hg, hI⟩
      · clear hrow
        simp only [List.length_nil, Nat.zero_mul, Nat.zero_add] at hd0 hd1 hd2 hlt ⊢
        go_wp2_with fail
        generalize wr.alloc (.cells #[St q.1, St q.2.1, U q.2.2] 234) = W1 at *
        go_quiet (fail)
        go_wp2_with (at_builtin; refine wpList_append_Own rfl (.tmp 32) (.tmp 36) 33 rfl W2.heap.size 96 2 40 (.agg #[St [], .slice none 0 0]) Tryz.underlying33 info_item rfl (by omega) _ 0 [] rfl (Own.nil _ _ _ _ _) _ 1 1 _ rfl (Src.new rfl (by intro u hu; simp at hu; rcases hu with rfl | rfl <;> rfl)) (by omega) (by omega) (by first | omega | (simp; omega)) ?_; intro v' W3 hown hgr
                     have hI := ItemsAt.first q.1 (by simpa using hown)
                     have hxa : Ext W1 W3 := Ext.grew ((((Ext.refl W1).drewN _).alloc _)) hgr (fun b ⟨g, n, c, e, _, _⟩ => by cases e)
                     have c1 := hxa.cell b1
                     have c2 := hxa.cell b2
                     obtain ⟨g, cap, dv, rfl, hcap1, hcap2, hgb, t0, t1, tf, hdv, hdg⟩ := hI.tells
                     obtain ⟨Ad, cd, rfl, hcd1, hcd2⟩ := hdv.form
                     simp only [List.length_nil, Nat.zero_mul, Nat.zero_add] at hcap1 t0 t1 tf ⊢)
        have HX3 := Lib.hid (HX.out.trans hxa)
        have t1d := (Ext.refl W3).drew.cell t1
        have tfd := ((Ext.refl W3).drew.frozen (o := 1) (blk_of_cell t1)).trans tf
        have hId := Lib.hid (hI.ext (Ext.refl W3).drew)
        have HXD := Lib.hid (HX3.out.drew)
        have hglt := blk_of_cell t1d
        have hwd := HXD.out.size
        have hwd3 := HX3.out.size
        have t1a := ((Ext.refl W3).alloc (.cells #[St q.2.1, U q.2.2] 97)).cell t1
        have hvd := Lib.hid (hdv.ext (Ext.refl W3).drew)
        clear hI hdv
        go_region_law (refine step_append_Own rfl (.tmp 47) (.tmp 50) 94 rfl W2.heap.size 97 2 24 (.agg #[St [], U 0]) Tryz.underlying94 info_dot rfl (by omega) (.slice Ad 0 cd) 0 (([] : List Dot).flatMap markC) (by simp [Act.eval, Act.put]) (hvd.out.alloc _) (some ⟨W3.heap.size, 0, none⟩) 1 1 [St q.2.1, U q.2.2] (by simp [Act.eval, Act.put]) (Src.new rfl (by intro u hu; simp at hu; rcases hu with rfl | rfl <;> rfl)) (by omega) (by omega) (by first | omega | (simp; omega)) ?_; intro dv' W5 hown5 hgr5
                       have hxe := (Ext.refl W3.drew).alloc (.cells #[St q.2.1, U q.2.2] 97)
                       have hsame5 := hgr5.same g (Nat.lt_of_lt_of_le hglt hxe.size) (fun hb => hdg _ hb rfl)
                       have t5 : W5.cell? ⟨g, 1, none⟩ = some (.slice Ad 0 cd) := (World.cell?_of_block (a := ⟨g, 1, none⟩) hsame5).trans (hxe.cell t1d)
                       have tf5 : W5.frozen? ⟨g, 1, none⟩ = false := by
                         have h := (hxe.frozen (o := 1) hglt).trans tfd
                         unfold World.frozen? at h ⊢
                         simp only [] at h ⊢
                         rw [hsame5]
                         exact h
                       have hg5 : Grew (W3.drew.alloc (.cells #[St q.2.1, U q.2.2] 97)) W5 (.slice Ad 0 cd) dv' := hgr5
                       have hi : ItemsAt (W3.drew.alloc (.cells #[St q.2.1, U q.2.2] 97)) W2.heap.size (.slice (some ⟨g, 0, none⟩) (0 + 1) cap) [] (q.1, []) := hId.out.ext hxe
                       have hI5 := Lib.hid (ItemsAt.dotN (n := 0) (its := []) rfl (d := q.2) hi (hxe.cell t1d) hg5 hown5)
                       have HX5 := Lib.hid (Ext.grewOwn (HXD.out.alloc _) hg5 (hvd.out.alloc _) (Nat.le_refl _))
                       obtain ⟨Ae, ce, rfl, hce1, hce2⟩ := hown5.form
                       clear hxe hsame5 hi hown5 hgr5 hg5)
        all_goals
          go_wp2
          go_roundw
          case rel => exact ⟨[] ++ [q], post, by rw [HL.out]; simp, by simp, Lib.hid (.inr ⟨[], (q.1, [] ++ [q.2]), rfl, hI5.out⟩), HX5.out.set (by simpa using hgb) _⟩
          case measure => simp [intOf]; omega
      · have HG := Lib.hid hg
        clear hrow hg
        have hI1 := hI.ext hx1
        obtain ⟨g, cap, dv, rfl, hcap1, hcap2, hgb, t0, t1, tf, hdv, hdg⟩ := hI1.tells
        obtain ⟨Ad, cd, rfl, hcd1, hcd2⟩ := hdv.form
        have HI1 := Lib.hid hI1
        have HDV := Lib.hid hdv
        have HDG := Lib.hid hdg
        have hgl := groupL_len pre
        rw [HG.out, List.length_append, List.length_singleton] at hgl
        have hdl : ds.length ≤ pre.length := groupL_dots pre (t, ds) (by rw [HG.out]; simp)
        have hgw : g < wr.heap.size := by
          obtain ⟨g2, _, _, e, _, _, _, tt, -⟩ := hI.tells
          cases e
          exact blk_of_cell tt
        have k1 : (((its.length : Int) + 1) == 0) = false := by rw [beq_eq_false_iff_ne]; omega
        have k4 : IntKind.i64.wrap ((its.length : Int) + 1 - 1) = its.length := by rw [show (its.length : Int) + 1 - 1 = its.length by omega]; simp [IntKind.wrap, IntKind.signed, IntKind.bits]; omega
        have k5 : IntKind.i64.wrap (its.length : Int) = its.length := by simp [IntKind.wrap, IntKind.signed, IntKind.bits]; omega
        have k6 : ((its.length : Int)).toNat = its.length := by omega
        have k7 : (0 : Int) ≤ (its.length : Int) := by omega
        have k8 : (its.length : Int) < (its.length : Int) + 1 := by omega
        clear hI hI1 hdv hdg
        by_cases htq : t = q.1
        · subst htq
          go_wp2_with fail
          generalize wr.alloc (.cells #[St q.1, St q.2.1, U q.2.2] 234) = W1 at *
          go_quiet (fail)
          go_wp2_with fail
          have hxn : Ext W1 (W1.drewN nq) := (Ext.refl W1).drewN nq
          generalize W1.drewN nq = W3 at *
          have hI := HI1.out.ext hxn
          have hdv := HDV.out.ext hxn
          have hdg := HDG.out
          have HX3 := Lib.hid (HX.out.trans hxn)
          have c1 := hxn.cell b1
          have c2 := hxn.cell b2
          have t1 := (show W3.cell? ⟨g, its.length * 2 + 1, none⟩ = some (.slice Ad ds.length cd) from hxn.cell ‹W1.cell? ⟨g, its.length * 2 + 1, none⟩ = some (.slice Ad ds.length cd)›)
          have tf := (hxn.frozen (o := its.length * 2 + 1) (blk_of_cell ‹W1.cell? ⟨g, its.length * 2 + 1, none⟩ = some (.slice Ad ds.length cd)›)).trans ‹W1.frozen? ⟨g, its.length * 2 + 1, none⟩ = false›
          have t1d := (Ext.refl W3).drew.cell t1
          have tfd := ((Ext.refl W3).drew.frozen (o := (its.length * 2 + 1)) (blk_of_cell t1)).trans tf
          have hId := Lib.hid (hI.ext (Ext.refl W3).drew)
          have HXD := Lib.hid (HX3.out.drew)
          have hglt := blk_of_cell t1d
          have hwd := HXD.out.size
          have hwd3 := HX3.out.size
          have t1a := ((Ext.refl W3).alloc (.cells #[St q.2.1, U q.2.2] 97)).cell t1
          have hvd := Lib.hid (hdv.ext (Ext.refl W3).drew)
          clear hI hdv
          go_region_law (refine step_append_Own rfl (.tmp 47) (.tmp 50) 94 rfl W2.heap.size 97 2 24 (.agg #[St [], U 0]) Tryz.underlying94 info_dot rfl (by omega) (.slice Ad ds.length cd) ds.length (ds.flatMap markC) (by simp [Act.eval, Act.put]) (hvd.out.alloc _) (some ⟨W3.heap.size, 0, none⟩) 1 1 [St q.2.1, U q.2.2] (by simp [Act.eval, Act.put]) (Src.new rfl (by intro u hu; simp at hu; rcases hu with rfl | rfl <;> rfl)) (by omega) (by omega) (by first | omega | (simp; omega)) ?_; intro dv' W5 hown5 hgr5
                         have hxe := (Ext.refl W3.drew).alloc (.cells #[St q.2.1, U q.2.2] 97)
                         have hsame5 := hgr5.same g (Nat.lt_of_lt_of_le hglt hxe.size) (fun hb => hdg _ hb rfl)
                         have t5 : W5.cell? ⟨g, (its.length * 2 + 1), none⟩ = some (.slice Ad ds.length cd) := (World.cell?_of_block (a := ⟨g, (its.length * 2 + 1), none⟩) hsame5).trans (hxe.cell t1d)
                         have tf5 : W5.frozen? ⟨g, (its.length * 2 + 1), none⟩ = false := by
                           have h := (hxe.frozen (o := (its.length * 2 + 1)) hglt).trans tfd
                           unfold World.frozen? at h ⊢
                           simp only [] at h ⊢
                           rw [hsame5]
                           exact h
                         have hg5 : Grew (W3.drew.alloc (.cells #[St q.2.1, U q.2.2] 97)) W5 (.slice Ad ds.length cd) dv' := hgr5
                         have hi : ItemsAt (W3.drew.alloc (.cells #[St q.2.1, U q.2.2] 97)) W2.heap.size (.slice (some ⟨g, 0, none⟩) (its.length + 1) cap) its (q.1, ds) := hId.out.ext hxe
                         have hI5 := Lib.hid (ItemsAt.dotN (n := its.length) (its := its) rfl (d := q.2) hi (hxe.cell t1d) hg5 hown5)
                         have HX5 := Lib.hid (Ext.grewOwn (HXD.out.alloc _) hg5 (hvd.out.alloc _) (Nat.le_refl _))
                         obtain ⟨Ae, ce, rfl, hce1, hce2⟩ := hown5.form
                         clear hxe hsame5 hi hown5 hgr5 hg5)
          all_goals
            go_wp2
            go_roundw
            case rel => exact ⟨pre ++ [q], post, by rw [HL.out]; simp, by simp, Lib.hid (.inr ⟨its, (q.1, ds ++ [q.2]), (by rw [groupL_snoc, HG.out]; exact groupStep_same _ _ _ _), hI5.out⟩), HX5.out.set (by simpa using hgb) _⟩
            case measure => simp [intOf]; omega
        · have hne : (t == q.1) = false := by simpa using htq
          have hne2 : (q.1 == t) = false := by simpa using (fun e => htq e.symm)
          go_wp2_with fail
          generalize wr.alloc (.cells #[St q.1, St q.2.1, U q.2.2] 234) = W1 at *
          go_quiet (fail)
          obtain ⟨xs, hxs, hmore⟩ := (HI1.out.ext (((Ext.refl W1).drewN nq).alloc (.cells #[St q.1, .slice none 0 0] 96))).row
          have HMORE := Lib.hid hmore
          clear hmore
          go_wp2_with (at_builtin; refine wpList_append_Own rfl (.tmp 32) (.tmp 36) 33 rfl W2.heap.size 96 2 40 (.agg #[St [], .slice none 0 0]) Tryz.underlying33 info_item rfl (by omega) _ (its.length + 1) xs rfl hxs _ 1 1 _ rfl (Src.new rfl (by intro u hu; simp at hu; rcases hu with rfl | rfl <;> rfl)) (by omega) (by omega) (by first | omega | (simp; omega)) ?_; intro v' W3 hown hgr
                       have hI := HMORE.out W3 v' q.1 hown hgr
                       have hxa : Ext W2 W3 := Ext.grewOwn ((HX.out.trans ((Ext.refl W1).drewN nq)).alloc (.cells #[St q.1, .slice none 0 0] 96)) hgr hxs (Nat.le_refl _)
                       have hxb := ((Ext.refl W1).drewN nq).alloc (.cells #[St q.1, .slice none 0 0] 96)
                       have c1 : W3.cell? ⟨wr.heap.size, 1, none⟩ = some (St q.2.1) := (World.cell?_of_block (a := ⟨wr.heap.size, 1, none⟩) (hgr.same wr.heap.size (blk_of_cell (hxb.cell b1)) (fun ⟨g', n', c', e, _, e2⟩ => by cases e; omega))).trans (hxb.cell b1)
                       have c2 : W3.cell? ⟨wr.heap.size, 2, none⟩ = some (U q.2.2) := (World.cell?_of_block (a := ⟨wr.heap.size, 2, none⟩) (hgr.same wr.heap.size (blk_of_cell (hxb.cell b2)) (fun ⟨g', n', c', e, _, e2⟩ => by cases e; omega))).trans (hxb.cell b2)
                       have HX3 := Lib.hid hxa
                       clear hcap1 hcap2 hgb t0 t1 tf
                       obtain ⟨g, cap, dv, rfl, hcap1, hcap2, hgb, t0, t1, tf, hdv, hdg⟩ := hI.tells
                       obtain ⟨Ad, cd, rfl, hcd1, hcd2⟩ := hdv.form
                       simp only [List.length_append, List.length_cons, List.length_nil, Nat.zero_add] at hcap1 t0 t1 tf hI ⊢)
          have t1d := (Ext.refl W3).drew.cell t1
          have tfd := ((Ext.refl W3).drew.frozen (o := ((its.length + 1) * 2 + 1)) (blk_of_cell t1)).trans tf
          have hId := Lib.hid (hI.ext (Ext.refl W3).drew)
          have HXD := Lib.hid (HX3.out.drew)
          have hglt := blk_of_cell t1d
          have hwd := HXD.out.size
          have hwd3 := HX3.out.size
          have t1a := ((Ext.refl W3).alloc (.cells #[St q.2.1, U q.2.2] 97)).cell t1
          have hvd := Lib.hid (hdv.ext (Ext.refl W3).drew)
          clear hI hdv
          go_region_law (refine step_append_Own rfl (.tmp 47) (.tmp 50) 94 rfl W2.heap.size 97 2 24 (.agg #[St [], U 0]) Tryz.underlying94 info_dot rfl (by omega) (.slice Ad 0 cd) 0 (([] : List Dot).flatMap markC) (by simp [Act.eval, Act.put]) (hvd.out.alloc _) (some ⟨W3.heap.size, 0, none⟩) 1 1 [St q.2.1, U q.2.2] (by simp [Act.eval, Act.put]) (Src.new rfl (by intro u hu; simp at hu; rcases hu with rfl | rfl <;> rfl)) (by omega) (by omega) (by first | omega | (simp; omega)) ?_; intro dv' W5 hown5 hgr5
                         have hxe := (Ext.refl W3.drew).alloc (.cells #[St q.2.1, U q.2.2] 97)
                         have hsame5 := hgr5.same g (Nat.lt_of_lt_of_le hglt hxe.size) (fun hb => hdg _ hb rfl)
                         have t5 : W5.cell? ⟨g, ((its.length + 1) * 2 + 1), none⟩ = some (.slice Ad 0 cd) := (World.cell?_of_block (a := ⟨g, ((its.length + 1) * 2 + 1), none⟩) hsame5).trans (hxe.cell t1d)
                         have tf5 : W5.frozen? ⟨g, ((its.length + 1) * 2 + 1), none⟩ = false := by
                           have h := (hxe.frozen (o := ((its.length + 1) * 2 + 1)) hglt).trans tfd
                           unfold World.frozen? at h ⊢
                           simp only [] at h ⊢
                           rw [hsame5]
                           exact h
                         have hg5 : Grew (W3.drew.alloc (.cells #[St q.2.1, U q.2.2] 97)) W5 (.slice Ad 0 cd) dv' := hgr5
                         have hi : ItemsAt (W3.drew.alloc (.cells #[St q.2.1, U q.2.2] 97)) W2.heap.size (.slice (some ⟨g, 0, none⟩) ((its.length + 1) + 1) cap) (its ++ [(t, ds)]) (q.1, []) := hId.out.ext hxe
                         have hI5 := Lib.hid (ItemsAt.dotN (n := its.length + 1) (its := (its ++ [(t, ds)])) (by simp) (d := q.2) hi (hxe.cell t1d) hg5 hown5)
                         have HX5 := Lib.hid (Ext.grewOwn (HXD.out.alloc _) hg5 (hvd.out.alloc _) (Nat.le_refl _))
                         obtain ⟨Ae, ce, rfl, hce1, hce2⟩ := hown5.form
                         clear hxe hsame5 hi hown5 hgr5 hg5)
          all_goals
            go_wp2
            go_roundw
            case rel => exact ⟨pre ++ [q], post, by rw [HL.out]; simp, by simp, Lib.hid (.inr ⟨(its ++ [(t, ds)]), (q.1, [] ++ [q.2]), (by rw [groupL_snoc, HG.out, groupStep_other _ _ _ hne]; rfl), hI5.out⟩), HX5.out.set (by simpa using hgb) _⟩
            case measure => simp [intOf]; omega
    | nil =>
      rw [List.append_nil] at hl
      have hlen : qs.length = pre.length := by rw [hl]
      have HL := Lib.hid hl
      have HX := Lib.hid hx
      have hn3 := HW2.out.size
      have HROW := Lib.hid (show OwnL itemT 96 wr W2.heap.size (fun b => W2.heap.size ≤ b) u4 (itemsL ks) by
        rw [HI.out, HL.out]
        rcases hrow.out with ⟨rfl, rfl⟩ | ⟨its, last, hg, hI⟩
        · exact OwnL.nil _ _
        · rw [hg]; exact hI.done)
      clear hl hx hrow
      go_wp2_with fail
      go_ret
      exact ⟨_, rfl, (HROW.out.lower hn3).mono (fun b _ hb => Nat.le_trans hn3 hb), HW2.out.trans HX.out⟩
end Go.Proofs.YtdikcgmdmcfpfaaGreat
namespace Go.Proofs.YtdikcgmdmcfpfaaGreat
open Go.RowKit Go.Shelf

/-- what the closure leans on: the box of the vector, below base -/
def KnowsAt (W : World) (base B : Nat) (rise : List Mark) : Prop := B < base ∧ ∃ vr, W.cell? ⟨B, 0, none⟩ = some vr ∧ Sl markT W (fun b => b < base) vr rise
theorem KnowsAt.keep {W W' : World} {base B : Nat} {rise : List Mark} (h : KnowsAt W base B rise) (hb : Below base W W') : KnowsAt W' base B rise := by
  obtain ⟨h1, vr, h2, h3⟩ := h
  exact ⟨h1, vr, (Below.cell hb (p := ⟨B, 0, none⟩) h1).trans h2, h3.keep (by decide) fun b hb' _ => hb.block b hb'⟩
theorem KnowsAt.mono {W : World} {base base' B : Nat} {rise : List Mark} (h : KnowsAt W base B rise) (hb : base ≤ base') : KnowsAt W base' B rise := by
  obtain ⟨h1, vr, h2, h3⟩ := h
  exact ⟨by omega, vr, h2, h3.mono (by decide) fun b _ h => by omega⟩

theorem hasM_none {l : List Mark} {d : Dot} (h : d.1 ∉ l.map (·.1)) : hasM l d = false := by
  unfold hasM
  rw [ofM_none (s := d.1) (fun m hm e => h (List.mem_map.2 ⟨m, hm, e⟩))]
  cases hd : d.2 <;> simp
theorem hasM_one {l : List Mark} (hl : SortedM l) {m : Mark} {d : Dot} (hm : m ∈ l) (h : m.1 = d.1) : hasM [m] d = hasM l d := by
  unfold hasM
  by_cases h0 : d.1 = []
  · rw [h0, ofM_empty, ofM_empty]
  · have h1 : ofM l d.1 = m.2 := by rw [← h]; exact hl.of hm (by rw [h]; exact h0)
    have h2 : ofM [m] d.1 = m.2 := by
      obtain ⟨ms, mn⟩ := m
      rw [ofM_one, if_pos ⟨h.symm, by rw [show ms = d.1 from h]; exact h0⟩]
    rw [h1, h2]
theorem hasM_join (v : List Mark) (d : Dot) : hasM (joinM v []) d = hasM v d := by
  unfold hasM
  rw [ofM_join, ofM_nil, Nat.max_zero]
theorem Sl.sub {w : World} {S : Nat → Prop} {A : Option Addr} {n c : Nat} {l : List Mark} (h : Sl markT w S (.slice A n c) l) {i : Nat} {m : Mark} (hm : l[i]? = some m) :
    ∃ b o, A = some ⟨b, o, none⟩ ∧ Sl markT w S (.slice (some ⟨b, o + i * 2, none⟩) 1 (c - i)) [m] := by
  have hlt := (List.getElem?_eq_some_iff.1 hm).1
  have hs : l = l.take i ++ m :: l.drop (i + 1) := by
    have e := (List.getElem?_eq_some_iff.1 hm).2
    rw [← e, List.getElem_cons_drop, List.take_append_drop]
  obtain ⟨A', c', e, h1, h2, -⟩ := id h
  cases e
  obtain ⟨b, o, vs, c', hv, hS, hr, hc⟩ := h.at_ hs
  cases hv
  rw [show (l.take i).length = i by simp; omega, show (markT.k : Nat) = 2 from rfl] at hc
  refine ⟨b, o, rfl, _, _, rfl, by simp; omega, by omega, fun pre x post hl => ?_⟩
  cases pre with
  | nil => simp at hl; obtain ⟨rfl, -⟩ := hl; exact ⟨b, o + i * 2, vs, rfl, hS, hr, fun j u hj => by have := hc j u hj; simpa using this⟩
  | cons a r => simp at hl

set_option maxRecDepth 100000 in
set_option maxHeartbeats 1000000 in
theorem knows1_any {W : World} {base B : Nat} {rise : List Mark} (d : Dot) (hk : KnowsAt W base B rise) (hb : base ≤ W.heap.size) (hg : GoodM rise) (hl : rise.length ≤ 1099511627776) :
    Calls Tryz.prog 230 #[dotV d, .pointer (some ⟨B, 0, none⟩)] W fun e w' => e = .returned (.bool (hasM rise d)) ∧ Ext W w' := by
  have hx1 := (Ext.refl W).alloc (.cells #[St d.1, U d.2] 97)
  obtain ⟨hB, vr, hc, hs⟩ := hk.keep (hx1.below hb)
  obtain ⟨A, c, rfl, h1, h2⟩ := hs.form
  have HS := Lib.hid (bsearch_mark d.1 hs hg.1 hl)
  have HSL := Lib.hid hs
  have b0 : (W.alloc (.cells #[St d.1, U d.2] 97)).cell? ⟨W.heap.size, 0, none⟩ = some (St d.1) := by simp [go_sem]
  have b1 : (W.alloc (.cells #[St d.1, U d.2] 97)).cell? ⟨W.heap.size, 1, none⟩ = some (U d.2) := by simp [go_sem]
  have HG := Lib.hid hg
  clear hk hs hg
  go_enter Tryz.func230, Tryz.ntmps230
  go_wp2_with fail
  generalize W.alloc (.cells #[St d.1, U d.2] 97) = W1 at *
  refine HS.out.mono ?_
  rintro e W2 ⟨i, is, rfl, hf, hx2⟩
  have hc2 := hx2.cell hc
  have d0 := hx2.cell b0
  have d1 := hx2.cell b1
  cases is with
  | false =>
    have HN := Lib.hid (hasM_none (d := d) (hf.no (riseS_map HG.out.1)))
    clear hf
    go_wp2_with fail
    go_quiet (fail)
    go_wp2
    go_ret
    exact ⟨by rw [HN.out]; rfl, (hx1.trans hx2).drewN _⟩
  | true =>
    have hy := hf.yes
    rw [List.getElem?_map] at hy
    obtain ⟨m, hm, hms⟩ := Option.map_eq_some_iff.1 hy
    have hil := (List.getElem?_eq_some_iff.1 hm).1
    obtain ⟨b, o, rfl, hsub⟩ := HSL.out.sub hm
    have HH := Lib.hid (fun (W : World) (hW : Ext W1 W) => has_any d (hsub.ext (by decide) hW))
    have HN := Lib.hid (hasM_one HG.out.1 (d := d) (List.mem_of_getElem? hm) hms)
    have i0 : (0 : Int) ≤ (i : Int) := by omega
    have i1 : (i : Int) ≤ (i : Int) + 1 := by omega
    have i2 : (i : Int) + 1 ≤ (c : Int) := by omega
    have i3 : IntKind.i64.wrap ((i : Int) + 1) = (i : Int) + 1 := IntWalk.i64_in _ (by omega)
    have i4 : ((i : Int) + 1).toNat = i + 1 := by omega
    have i5 : i + 1 - i = 1 := by omega
    clear hf hy hm hsub
    go_wp2_with fail
    obtain ⟨Wd, hWd⟩ : ∃ Wd, W2.drew = Wd := ⟨_, rfl⟩
    have hxd : Ext W2 Wd := by rw [← hWd]; exact (Ext.refl W2).drew
    have e0 := hxd.cell hc2
    have e1 := hxd.cell d0
    have e2 := hxd.cell d1
    have HE := Lib.hid (hx2.trans hxd)
    refine wp_region_still_tail 8 (by kernel_rfl) (by kernel_rfl) ?_
    simp only [List.take_succ_cons, List.take_zero, List.drop_succ_cons, List.drop_zero]
    change wpStill _ _ W2.drew (fun a' => wpList _ _ _ _ a' W2.drew) _ _
    rw [hWd]
    clear hWd hxd
    repeat still_step
    refine wpStill_nil ?_
    go_wp2_with fail
    refine (HH.out _ HE.out).mono ?_
    rintro e w1 ⟨rfl, hb1⟩
    go_wp2
    go_ret
    exact ⟨by rw [← HN.out]; rfl, hx1.trans (HE.out.trans hb1)⟩
end Go.Proofs.YtdikcgmdmcfpfaaGreat
namespace Go.Proofs.YtdikcgmdmcfpfaaGreat
open Go.RowKit Go.Shelf

set_option maxHeartbeats 400000 in
theorem knows_any {S : Nat → Prop} {v : Value} {l : List Mark} {w : World} (hv : Sl markT w S v l) (hl : l.length ≤ 1099511627776) :
    Calls Tryz.prog 191 #[v] w fun e w' => ∃ B, e = .returned (.func (.func 230) #[] #[.pointer (some ⟨B, 0, none⟩)]) ∧ w.heap.size ≤ B ∧ KnowsAt w' w'.heap.size B (joinM l []) ∧ Ext w w' := by
  have H := Lib.hid (join_any hv (Sl.nil (T := markT) (S := fun _ => False) none 0 (by omega)) hl (by simp))
  clear hv
  go_enter Tryz.func191, Tryz.ntmps191
  go_wp2_with fail
  refine H.out.mono ?_
  rintro e w1 ⟨v1, rfl, hv1, hx1⟩
  have hsl := Lib.hid (own_slMark hv1)
  have hff := hv1.form
  obtain ⟨A, c, rfl, -, -⟩ := hff
  clear hv1
  go_wp2_with fail
  go_ret
  refine ⟨_, rfl, hx1.size, ⟨by simp, _, by simp [go_sem]; rfl, ?_⟩, hx1.alloc _⟩
  have hx2 := (Ext.refl w1).alloc (.cells #[.slice A (joinM l []).length c] 26)
  have h3 : Sl markT w1 (fun b => b < w1.heap.size) (.slice A (joinM l []).length c) (joinM l []) := hsl.out.mono (by decide) fun b hb _ => hb
  exact (h3.ext (by decide) hx2).mono (by decide) fun b _ h => Nat.lt_of_lt_of_le h hx2.size

/-- what the predicate leans on -/
def StaysAt (W : World) (base B1 B2 q B : Nat) (ks : List Place) (rise : List Mark) : Prop :=
  B1 < base ∧ B2 < base ∧ q < base ∧ W.cell? ⟨B1, 0, none⟩ = some (.map (some q)) ∧ W.cell? ⟨B2, 0, none⟩ = some (.func (.func 230) #[] #[.pointer (some ⟨B, 0, none⟩)]) ∧ SetOf placeV W q ks ∧ KnowsAt W base B rise
theorem StaysAt.keep {W W' : World} {base B1 B2 q B : Nat} {ks : List Place} {rise : List Mark} (h : StaysAt W base B1 B2 q B ks rise) (hb : Below base W W') : StaysAt W' base B1 B2 q B ks rise := by
  obtain ⟨h1, h2, h3, h4, h5, h6, h7⟩ := h
  exact ⟨h1, h2, h3, (Below.cell hb (p := ⟨B1, 0, none⟩) h1).trans h4, (Below.cell hb (p := ⟨B2, 0, none⟩) h2).trans h5, h6.keep (hb.block q h3), h7.keep hb⟩

def staysP (ks : List Place) (rise : List Mark) (p : Place) : Bool := decide (p ∈ ks) || !hasM rise p.2

set_option maxRecDepth 100000 in
set_option maxHeartbeats 1000000 in
theorem stays_any {W : World} {base B1 B2 q B : Nat} {ks : List Place} {rise : List Mark} (m : Place) (h : StaysAt W base B1 B2 q B ks rise) (hb : base ≤ W.heap.size) (hg : GoodM rise) (hl : rise.length ≤ 1099511627776) :
    Calls Tryz.prog 189 #[placeV m, .pointer (some ⟨B1, 0, none⟩), .pointer (some ⟨B2, 0, none⟩)] W fun e w' => e = .returned (.bool (staysP ks rise m)) ∧ Ext W w' := by
  have eg : ∀ args w, (callFunc 230 args).run Tryz.prog w = .ok (.enter 230 args) w := enters_of Tryz.func230 (by kernel_rfl) rfl
  have hx1 := (Ext.refl W).alloc (.cells #[St m.1, St m.2.1, U m.2.2] 234)
  have hx2 := hx1.alloc (.cells #[] 124)
  obtain ⟨h1, h2, h3, h4, h5, h6, h7⟩ := h.keep (hx1.below hb)
  have hk2 := (h.keep (hx2.below hb)).2.2.2.2.2.2
  have h52 := (h.keep (hx2.below hb)).2.2.2.2.1
  have hlk := run_has_SetOf (P := Tryz.prog) Tryz.underlying229 keyOkP zeroUnit h6 m
  have HK := Lib.hid (knows1_any m.2 hk2 (Nat.le_trans hb hx2.size) hg hl)
  have hn1 : W.heap.size ≠ B1 := by omega
  have hn2 : W.heap.size ≠ B2 := by omega
  clear h h6 h7 hk2
  by_cases hm : m ∈ ks
  · have HP := Lib.hid (show staysP ks rise m = true by simp [staysP, hm])
    simp only [hm, decide_true] at hlk
    clear hm
    go_enter Tryz.func189, Tryz.ntmps189
    go_wp2_with fail
    go_ret
    exact ⟨by rw [HP.out]; rfl, hx2⟩
  · have HP := Lib.hid (show staysP ks rise m = !hasM rise m.2 by simp [staysP, hm])
    simp only [hm, decide_false] at hlk
    clear hm
    go_enter Tryz.func189, Tryz.ntmps189
    go_wp2_with fail
    refine HK.out.mono ?_
    rintro e w2 ⟨rfl, hx3⟩
    go_wp2_with fail
    go_ret
    exact ⟨by rw [HP.out]; rfl, hx2.trans hx3⟩
theorem pred_stays {base B1 B2 q B : Nat} {ks : List Place} {rise : List Mark} (hg : GoodM rise) (hl : rise.length ≤ 1099511627776) :
    PredK placeV Tryz.prog 189 #[.pointer (some ⟨B1, 0, none⟩), .pointer (some ⟨B2, 0, none⟩)] base (fun W => StaysAt W base B1 B2 q B ks rise ∧ base ≤ W.heap.size) (staysP ks rise) where
  enters := enters_of Tryz.func189 (by kernel_rfl) rfl
  keep W W' h hB := ⟨h.1.keep hB, Nat.le_trans h.2 hB.size⟩
  does m W h := stays_any m h.1 h.2 hg hl

set_option maxHeartbeats 400000 in
theorem stays0_any (q B : Nat) (w : World) : Calls Tryz.prog 188 #[.map (some q), .func (.func 230) #[] #[.pointer (some ⟨B, 0, none⟩)]] w fun e w' =>
    e = .returned (.func (.func 189) #[] #[.pointer (some ⟨w.heap.size, 0, none⟩), .pointer (some ⟨w.heap.size + 1, 0, none⟩)]) ∧ w' = (w.alloc (.cells #[.map (some q)] 229)).alloc (.cells #[.func (.func 230) #[] #[.pointer (some ⟨B, 0, none⟩)]] 231) := by
  go_enter Tryz.func188, Tryz.ntmps188
  go_wp2
  go_ret
  exact ⟨rfl, rfl⟩
end Go.Proofs.YtdikcgmdmcfpfaaGreat
namespace Go.Proofs.YtdikcgmdmcfpfaaGreat
open Go.RowKit Go.Shelf

/-- the places of 'mine' that stay, where the other side has 'theirs' and has seen v -/
def stayL (mine theirs : List Item) (v : List Mark) : List Place := (setL (placesL mine)).filter (staysP (setL (placesL theirs)) (joinM v []))
def joinB (a : List Item) (sa : List Mark) (b : List Item) (sb : List Mark) : List Item := itemsL ((stayL b a sa).foldl addK (stayL a b sb))
theorem stayL_nodup (a b : List Item) (v : List Mark) : (stayL a b v).Nodup := (setL_nodup _).filter _
theorem stayL_len (a b : List Item) (v : List Mark) : (stayL a b v).length ≤ (placesL a).length := Nat.le_trans (List.length_filter_le _ _) (setL_len _)
theorem union_perm {A B A' B' : List Place} (hA : A'.Perm A) (hB : B'.Perm B) (hn : A.Nodup) : (B'.foldl addK A').Perm (B.foldl addK A) :=
  perm_of_mem (foldl_addK_nodup _ _ (hA.nodup_iff.2 hn)) (foldl_addK_nodup _ _ hn) fun x => by rw [foldl_addK_mem, foldl_addK_mem, hA.mem_iff, hB.mem_iff]

/-- of, knows, stays: what is at hand behind them -/
theorem staysAt_new {w w1 : World} {q B : Nat} {ks : List Place} {rise : List Mark} (hs : SetOf placeV w q ks) (hk : KnowsAt w w.heap.size B rise)
    (he : w1 = (w.alloc (.cells #[.map (some q)] 229)).alloc (.cells #[.func (.func 230) #[] #[.pointer (some ⟨B, 0, none⟩)]] 231)) :
    StaysAt w1 w1.heap.size w.heap.size (w.heap.size + 1) q B ks rise := by
  subst he
  have hx := ((Ext.refl w).alloc (.cells #[.map (some q)] 229)).alloc (.cells #[.func (.func 230) #[] #[.pointer (some ⟨B, 0, none⟩)]] 231)
  exact ⟨(by simp; omega), (by simp), Nat.lt_of_lt_of_le hs.lt hx.size, by simp [go_sem], by simp [go_sem], hs.ext hx, (hk.keep hx).mono hx.size⟩

set_option maxRecDepth 100000 in
set_option maxHeartbeats 1000000 in
theorem joinB_any {S1 S2 S3 S4 : Nat → Prop} {va vsa vb vsb : Value} {a b : List Item} {sa sb : List Mark} {w : World} (ha : Sl itemT w S1 va a) (hsa : Sl markT w S2 vsa sa) (hb : Sl itemT w S3 vb b) (hsb : Sl markT w S4 vsb sb)
    (hl : (placesL a).length + (placesL b).length ≤ 1099511627776) (hla : sa.length ≤ 549755813888) (hlb : sb.length ≤ 549755813888) :
    Calls Tryz.prog 107 #[va, vsa, vb, vsb] w fun e w' => ∃ v', e = .returned v' ∧ OwnL itemT 96 w' w.heap.size (fun b => w.heap.size ≤ b) v' (joinB a sa b sb) ∧ Ext w w' := by
  have e1 : ∀ args w, (callFunc 188 args).run Tryz.prog w = .ok (.enter 188 args) w := enters_of Tryz.func188 (by kernel_rfl) rfl
  have HA := Lib.hid (of_bag ha)
  have HB := Lib.hid (fun (W : World) (h : Ext w W) => of_bag (hb.ext (by decide) h))
  have HSB := Lib.hid (fun (W : World) (h : Ext w W) => knows_any (hsb.ext (by decide) h) (by omega))
  have HSA := Lib.hid (fun (W : World) (h : Ext w W) => knows_any (hsa.ext (by decide) h) (by omega))
  have HT := Lib.hid stays0_any
  have HJ := Lib.hid (show joinB a sa b sb = itemsL ((stayL b a sa).foldl addK (stayL a b sb)) from rfl)
  have gb := Lib.hid (joinM_good sb [])
  have ga := Lib.hid (joinM_good sa [])
  have hlj : ∀ s : List Mark, (joinM s []).length ≤ s.length := fun s => by rw [joinM_nil_tidy]; exact tidyM_len s
  have lb := Nat.le_trans (hlj sb) hlb
  have la := Nat.le_trans (hlj sa) hla
  obtain ⟨Aa, ca, rfl, -, -⟩ := ha.form
  obtain ⟨Asa, csa, rfl, -, -⟩ := hsa.form
  obtain ⟨Ab, cb, rfl, -, -⟩ := hb.form
  obtain ⟨Asb, csb, rfl, -, -⟩ := hsb.form
  clear ha hsa hb hsb hlj
  go_enter Tryz.func107, Tryz.ntmps107
  go_wp2_with fail
  refine HA.out.mono ?_
  rintro e W1 ⟨p, rfl, hp1, hp2, hx1⟩
  go_wp2_with fail
  refine (HB.out W1 hx1).mono ?_
  rintro e W2 ⟨q, rfl, hq1, hq2, hx2⟩
  have hx12 := hx1.trans hx2
  have hpq : p ≠ q := by have := hp2.lt; omega
  go_wp2_with fail
  refine (HSB.out W2 hx12).mono ?_
  rintro e W3 ⟨B, rfl, hB1, hB2, hx3⟩
  go_wp2_with fail
  refine (HT.out q B W3).mono ?_
  rintro e W4 ⟨rfl, hw4⟩
  have hx34 : Ext W3 W4 := by rw [hw4]; exact ((Ext.refl W3).alloc _).alloc _
  have hst := staysAt_new (hq2.ext hx3) hB2 hw4
  have hx14 := (hx12.trans hx3).trans hx34
  have H5 := Lib.hid (that_any (((hp2.ext hx2).ext hx3).ext hx34) (pred_stays gb.out (by omega)) ⟨hst, Nat.le_refl _⟩ (Nat.le_refl _))
  have HQ4 := Lib.hid ((hq2.ext hx3).ext hx34)
  have HP4 := Lib.hid (((hp2.ext hx2).ext hx3).ext hx34)
  clear hw4 hst hq2 hp2 hB2
  go_wp2_with fail
  refine H5.out.mono ?_
  rintro e W5 ⟨r, ks1, rfl, hr1, hpm1, hr2, hx5⟩
  have hx15 := hx14.trans hx5
  have HQ5 := Lib.hid (HQ4.out.ext hx5)
  have HP5 := Lib.hid (HP4.out.ext hx5)
  go_wp2_with fail
  refine (HSA.out W5 hx15).mono ?_
  rintro e W6 ⟨B', rfl, hB1', hB2', hx6⟩
  go_wp2_with fail
  refine (HT.out p B' W6).mono ?_
  rintro e W7 ⟨rfl, hw7⟩
  have hx67 : Ext W6 W7 := by rw [hw7]; exact ((Ext.refl W6).alloc _).alloc _
  have hst := staysAt_new (HP5.out.ext hx6) hB2' hw7
  have hx17 := (hx15.trans hx6).trans hx67
  have hx57 := hx6.trans hx67
  have H8 := Lib.hid (that_any (HQ5.out.ext hx57) (pred_stays ga.out (by omega)) ⟨hst, Nat.le_refl _⟩ (Nat.le_refl _))
  have HR7 := Lib.hid (hr2.ext hx57)
  have HPM1 := Lib.hid hpm1
  clear hw7 hst hB2' hr2 hpm1
  go_wp2_with fail
  refine H8.out.mono ?_
  rintro e W8 ⟨r', ls1, rfl, hr1', hpm2, hr2', hx8⟩
  have hs5 := hx14.size
  have hs7 := hx17.size
  have hs57 := hx57.size
  have hrr : r ≠ r' := by have := HR7.out.lt; omega
  have H9 := Lib.hid (copy_any (base := w.heap.size) (HR7.out.ext hx8) hr2' hrr (by omega) (hx17.trans hx8).size)
  have HPM2 := Lib.hid hpm2
  clear hpm2 hr2'
  go_wp2_with fail
  refine H9.out.mono ?_
  rintro e W9 ⟨ls2, rfl, hpm3, hr9, hx9⟩
  have hperm : (ls2.foldl addK ks1).Perm ((stayL b a sa).foldl addK (stayL a b sb)) := union_perm HPM1.out (hpm3.trans HPM2.out) (stayL_nodup a b sb)
  have h1 := stayL_len a b sb
  have h2 := stayL_len b a sa
  have h3 := foldl_addK_len (stayL b a sa) (stayL a b sb)
  have hx19 := Below.trans (hx17.trans hx8) hx9
  have H10 := Lib.hid (items_any hr9 (by rw [hperm.length_eq]; omega))
  have HI := Lib.hid (itemsL_perm hperm)
  clear hr9 hpm3 hperm
  go_wp2_with fail
  refine H10.out.mono ?_
  rintro e W10 ⟨v', rfl, hv, hx10⟩
  rw [HI.out, ← HJ.out] at hv
  have hs9 := hx19.size
  have HV := Lib.hid ((hv.lower hs9).mono (fun b _ hb => Nat.le_trans hs9 hb))
  have hff := hv.form
  obtain ⟨Az, cz, rfl, -, -⟩ := hff
  clear hv
  go_wp2_with fail
  go_ret
  exact ⟨_, rfl, HV.out, Below.trans hx19 (hx10.below hs9)⟩
end Go.Proofs.YtdikcgmdmcfpfaaGreat
namespace Go.Proofs.YtdikcgmdmcfpfaaGreat
open Go.RowKit Go.Shelf

def othersL (l : List Item) (s : Str) : List Place := (setL (placesL l)).filter fun m => m.1 != s
def takeB (l : List Item) (s : Str) : List Item := itemsL (othersL l s)
theorem othersL_len (l : List Item) (s : Str) : (othersL l s).length ≤ (placesL l).length := Nat.le_trans (List.length_filter_le _ _) (setL_len _)
theorem othersL_nodup (l : List Item) (s : Str) : (othersL l s).Nodup := (setL_nodup _).filter _

set_option maxRecDepth 100000 in
set_option maxHeartbeats 400000 in
theorem take_any {S : Nat → Prop} {v : Value} {l : List Item} {w : World} (s : Str) (hv : Sl itemT w S v l) (hl : (placesL l).length ≤ 1099511627776) :
    Calls Tryz.prog 164 #[v, St s] w fun e w' => ∃ v', e = .returned v' ∧ OwnL itemT 96 w' w.heap.size (fun b => w.heap.size ≤ b) v' (takeB l s) ∧ Ext w w' := by
  have hx0 := (Ext.refl w).alloc (.cells #[St s] 9)
  have hb0 : (w.alloc (.cells #[St s] 9)).cell? ⟨w.heap.size, 0, none⟩ = some (St s) := by simp [go_sem]
  have H1 := Lib.hid (of_bag (hv.ext (by decide) hx0))
  have HT := Lib.hid (show takeB l s = itemsL (othersL l s) from rfl)
  obtain ⟨A, c, rfl, -, -⟩ := hv.form
  clear hv
  go_enter Tryz.func164, Tryz.ntmps164
  go_wp2_with fail
  refine H1.out.mono ?_
  rintro e W1 ⟨p, rfl, hp1, hp2, hx1⟩
  have hx01 := hx0.trans hx1
  have hb1 := hx1.cell hb0
  have hlt := blk_of_cell hb1
  have H2 := Lib.hid (that_any hp2 (pred_take1 s w.heap.size W1.heap.size (by have := hx01.size; omega)) hb1 (Nat.le_refl _))
  clear hp2
  go_wp2_with fail
  refine H2.out.mono ?_
  rintro e W2 ⟨q, ks, rfl, hq1, hpm, hq2, hx2⟩
  have hx02 := hx01.trans hx2
  have hlen := othersL_len l s
  have H3 := Lib.hid (items_any hq2 (by have := hpm.length_eq; unfold othersL at hlen; omega))
  have HI := Lib.hid (itemsL_perm hpm)
  clear hq2 hpm
  go_wp2_with fail
  refine H3.out.mono ?_
  rintro e W3 ⟨v', rfl, hv, hx3⟩
  rw [HI.out, ← othersL, ← HT.out] at hv
  have hs9 := hx02.size
  have HV := Lib.hid ((hv.lower hs9).mono (fun b _ hb => Nat.le_trans hs9 hb))
  have hff := hv.form
  obtain ⟨Az, cz, rfl, -, -⟩ := hff
  clear hv
  go_wp2_with fail
  go_ret
  exact ⟨_, rfl, HV.out, hx02.trans hx3⟩

def textsB (l : List Item) : List Str := (itemsL (setL (placesL l))).map (·.1)
theorem itemsL_len (ks : List Place) : (itemsL ks).length ≤ ks.length := by
  unfold itemsL
  refine Nat.le_trans (groupL_len _) ?_
  rw [(isort_perm ks).length_eq]
  exact Nat.le_refl _

set_option maxRecDepth 100000 in
set_option maxHeartbeats 400000 in
theorem texts_any {S : Nat → Prop} {v : Value} {l : List Item} {w : World} (hv : Sl itemT w S v l) (hl : (placesL l).length ≤ 1099511627776) :
    Calls Tryz.prog 149 #[v] w fun e w' => ∃ v', e = .returned v' ∧ Own w' w.heap.size 9 1 v' (textsB l).length ((textsB l).flatMap strC) ∧ Ext w w' := by
  have H1 := Lib.hid (of_bag hv)
  obtain ⟨A, c, rfl, -, -⟩ := hv.form
  have HT := Lib.hid (show textsB l = (itemsL (setL (placesL l))).map (·.1) from rfl)
  have hlen := setL_len (placesL l)
  clear hv
  go_enter Tryz.func149, Tryz.ntmps149
  go_wp2_with fail
  refine H1.out.mono ?_
  rintro e W1 ⟨p, rfl, hp1, hp2, hx1⟩
  have H2 := Lib.hid (items_any hp2 (by omega))
  clear hp2
  go_wp2_with fail
  refine H2.out.mono ?_
  rintro e W2 ⟨v2, rfl, hv2, hx2⟩
  have hil := itemsL_len (setL (placesL l))
  generalize itemsL (setL (placesL l)) = its at *
  have hsl := hv2.sl (S' := fun _ => True) (by decide) (fun _ _ _ => trivial) (fun _ _ _ => trivial)
  obtain ⟨A2, c2, rfl, hc1, hc2⟩ := hsl.form
  have HAT := Lib.hid (fun (pre post : List Item) (m : Item) (wr : World) (h : Ext W2 wr) (hl : its = pre ++ m :: post) => item_at hsl h hl)
  have HX2 := Lib.hid (hx1.trans hx2)
  clear hv2 hsl hx1 hx2
  go_wp2_with fail
  go_loopw [3, 10] (fun l i wr => ∃ pre post, its = pre ++ post ∧ i = I pre.length ∧ Own wr W2.heap.size 9 1 l pre.length ((pre.map (·.1)).flatMap strC) ∧ Ext W2 wr) (fun _ i _ => its.length - (intOf i).toNat)
  case atStart => exact ⟨[], its, rfl, rfl, Own.nil _ _ _ _ _, Ext.refl _⟩
  case round =>
    obtain ⟨pre, post, hl, rfl, hown, hx⟩ := hrel
    cases post with
    | cons it post =>
      obtain ⟨b, o, vd, rfl, hd0, hd1, hsl⟩ := HAT.out pre post it wr hx hl
      have hlt : pre.length < its.length := by rw [hl]; simp
      have hff := hsl.form
      obtain ⟨A3, c3, rfl, -, -⟩ := hff
      have HL := Lib.hid hl
      have hn3 := hx.size
      have HX := Lib.hid hx
      have HO := Lib.hid hown
      clear hl hx hsl
      go_wp2_with (at_builtin; refine wpList_append_Own rfl (.tmp 14) (.tmp 17) 28 rfl W2.heap.size 9 1 16 (St []) Tryz.underlying28 info_str rfl (by omega) _ pre.length ((pre.map (·.1)).flatMap strC) rfl ((hown.alloc _).alloc _) _ 1 1 [St it.1] rfl (Src.newAt (by simp) rfl (by intro u hu; simp at hu; subst hu; rfl)) (by omega) (by omega) (by simp; omega) ?_; intro v' w' hown2 hgr)
      go_roundw
      case rel => exact ⟨pre ++ [it], post, by rw [HL.out]; simp, by simp, by simpa [strC] using hown2, Ext.grewOwn ((HX.out.alloc _).alloc _) hgr ((HO.out.alloc _).alloc _) (Nat.le_refl _)⟩
      case measure => simp [intOf]; omega
    | nil =>
      rw [List.append_nil] at hl
      have HL := Lib.hid hl
      have hlen2 : its.length = pre.length := by rw [hl]
      have HX := Lib.hid hx
      have HO := Lib.hid hown
      have hn3 := HX2.out.size
      have hff := hown.form
      obtain ⟨A3, c3, rfl, -, -⟩ := hff
      clear hl hx hown
      go_wp2_with fail
      go_ret
      exact ⟨_, rfl, by rw [HT.out, HL.out, List.length_map]; exact HO.out.lower hn3, HX2.out.trans HX.out⟩
end Go.Proofs.YtdikcgmdmcfpfaaGreat
