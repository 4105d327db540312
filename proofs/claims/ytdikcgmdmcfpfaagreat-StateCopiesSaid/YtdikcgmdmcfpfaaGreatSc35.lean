/- Contracts of the functions that the statement goes through, and plain laws of them. -/
import Derived.Test.YtdikcgmdmcfpfaaGreatSc28
import Derived.Test.YtdikcgmdmcfpfaaGreatSc31
import Derived.Test.YtdikcgmdmcfpfaaGreatSc29
import Derived.Test.YtdikcgmdmcfpfaaGreatSc08
import Derived.Test.YtdikcgmdmcfpfaaGreatSc26
import Derived.Test.YtdikcgmdmcfpfaaGreatSc32
import Derived.Test.YtdikcgmdmcfpfaaGreatSc24
import Derived.Test.YtdikcgmdmcfpfaaGreatSc33
import Derived.Test.YtdikcgmdmcfpfaaGreatSc34
set_option linter.unusedVariables false
set_option linter.unusedSimpArgs false
set_option linter.unusedSectionVars false
namespace Go.Proofs.YtdikcgmdmcfpfaaGreat
open Go.RowKit Go.Shelf
def noneS : State := ⟨[], [], []⟩
abbrev put3 (w : World) (q : Nat) (v1 v2 v3 : Value) : World := ((w.setCell ⟨q, 0, none⟩ v1).setCell ⟨q, 1, none⟩ v2).setCell ⟨q, 2, none⟩ v3
theorem put3_ext {w wr : World} {q : Nat} (hx : Ext w wr) (hq : w.heap.size ≤ q) (v1 v2 v3 : Value) : Ext w (put3 wr q v1 v2 v3) :=
 ((hx.set (p := ⟨q, 0, none⟩) hq _).set (p := ⟨q, 1, none⟩) hq _).set (p := ⟨q, 2, none⟩) hq _
theorem put3_heap (w : World) (q : Nat) (v1 v2 v3 : Value) (b : Nat) (hb : b ≠ q) : (put3 w q v1 v2 v3).heap[b]? = w.heap[b]? :=
 ((Below.heap_setCell _ _ _ b hb).trans (Below.heap_setCell _ _ _ b hb)).trans (Below.heap_setCell _ _ _ b hb)
theorem StAt.none (w : World) (S : Nat → Prop) (A B C : Option Addr) : StAt w S noneS (.slice A 0 0) (.slice B 0 0) (.slice C 0 0) := ⟨Sl.nil _ _ (by decide), Sl.nil _ _ (by decide), Sl.nil _ _ (by decide)⟩
theorem StAt.keep {W w : World} {S : Nat → Prop} {s : State} {v1 v2 v3 : Value} (h : StAt W S s v1 v2 v3) (hs : ∀ b, S b → b < W.heap.size → w.heap[b]? = W.heap[b]?) : StAt w S s v1 v2 v3 :=
 ⟨h.all.keep (by decide) hs, h.entries.keep (by decide) hs, h.pruned.keep (by decide) hs⟩
def reserveS (s : State) (p : Str) (n : Nat) : State × Nat :=
 if p = [] ∨ mayS s = false then (noneS, 2) else if 281474976710656 - ofM s.all p < n then (noneS, 9) else ({ s with all := setM s.all p (ofM s.all p + n) }, 0)
theorem mayS_all {s : State} (h : mayS s = true) : mayM s.all = true := by
 unfold mayS at h
 simp only [Bool.and_eq_true] at h
 exact h.1
theorem ofM_max {l : List Mark} (h : mayM l = true) (p : Str) : ofM l p ≤ 281474976710656 := ofM_le.2 fun m hm _ _ => (mayM_iff.1 h).2.2 m hm
set_option maxRecDepth 100000 in
set_option maxHeartbeats 2000000 in
theorem reserveS_any {S : Nat → Prop} {s : State} {v1 v2 v3 : Value} {w : World} (p : Str) (n : Nat) (hn : n < 18446744073709551616) (h : StAt w S s v1 v2 v3) (sm : SmallS s) :
   Calls Tryz.prog 26 #[stV v1 v2 v3, St p, U n] w fun r w' => ∃ u1 u2 u3, r = .returned (.tuple #[stV u1 u2 u3, I (reserveS s p n).2]) ∧ StAt w' (fun b => w.heap.size ≤ b) (reserveS s p n).1 u1 u2 u3 ∧ Ext w w' := by
 have HRS := Lib.hid (show reserveS s p n = if p = [] ∨ mayS s = false then (noneS, 2) else if 281474976710656 - ofM s.all p < n then (noneS, 9) else ({ s with all := setM s.all p (ofM s.all p + n) }, 0) from rfl)
 have HMX := Lib.hid (fun (hm : mayS s = true) => ofM_max (mayS_all hm) p)
 have SM := Lib.hid sm
 obtain ⟨sa, se, sp⟩ := s
 obtain ⟨A1, n1, rfl, -, -⟩ := h.all.form
 obtain ⟨A2, n2, rfl, -, -⟩ := h.entries.form
 obtain ⟨A3, n3, rfl, -, -⟩ := h.pruned.form
 have hx0 := ((Ext.refl w).alloc (.cells #[.slice A1 sa.length n1, .slice A2 se.length n2, .slice A3 sp.length n3] 30)).alloc (.cells #[.slice none 0 0, .slice none 0 0, .slice none 0 0] 30)
 have rB0 := (rowNew w 30 [.slice A1 sa.length n1, .slice A2 se.length n2, .slice A3 sp.length n3]).alloc (.cells #[.slice none 0 0, .slice none 0 0, .slice none 0 0] 30)
 have rR0 := rowNew (w.alloc (.cells #[.slice A1 sa.length n1, .slice A2 se.length n2, .slice A3 sp.length n3] 30)) 30 [.slice none 0 0, .slice none 0 0, .slice none 0 0]
 rw [World.size_alloc] at rR0
 have hz0 : w.heap.size + 2 ≤ ((w.alloc (.cells #[.slice A1 sa.length n1, .slice A2 se.length n2, .slice A3 sp.length n3] 30)).alloc (.cells #[.slice none 0 0, .slice none 0 0, .slice none 0 0] 30)).heap.size := by simp
 have H0 := Lib.hid (h.ext hx0)
 have H1 := Lib.hid (mayS_any (h.ext hx0) sm)
 clear h sm
 by_cases hp : p = []
 · subst hp
   have HR := Lib.hid (show reserveS ⟨sa, se, sp⟩ [] n = (noneS, 2) by rw [HRS.out, if_pos (.inl rfl)])
   have HX := Lib.hid hx0
   clear hx0 rB0 rR0 H0 H1 HRS HMX
   go_enter Tryz.func26, Tryz.ntmps26
   go_wp2_with fail
   (try simp only [Exit.inBlock, Exit.then])
   refine bodyPost_ret (v := .tuple #[stV (.slice none 0 0) (.slice none 0 0) (.slice none 0 0), I 2]) (by simp [results, Tryz.f26, go_sem]) rfl ?_
   refine ⟨.slice none 0 0, .slice none 0 0, .slice none 0 0, by (rw [HR.out]; try rfl), ?_⟩
   rw [HR.out]
   exact ⟨StAt.none _ _ _ _ _, HX.out⟩
 · have hpb : (p == []) = false := by simpa using hp
   go_enter Tryz.func26, Tryz.ntmps26
   go_wp2_with fail
   generalize (w.alloc (.cells #[.slice A1 sa.length n1, .slice A2 se.length n2, .slice A3 sp.length n3] 30)).alloc (.cells #[.slice none 0 0, .slice none 0 0, .slice none 0 0] 30) = W0 at *
   refine H1.out.mono ?_
   rintro r W1 ⟨rfl, hx1⟩
   have hx01 := hx0.trans hx1
   have rB1 := rB0.ext hx1
   have rR1 := rR0.ext hx1
   have hz1 := Nat.le_trans hz0 hx1.size
   clear hx0 rB0 rR0 hz0 H1
   cases hm : mayS ⟨sa, se, sp⟩ with
   | false =>
     have HR := Lib.hid (show reserveS ⟨sa, se, sp⟩ p n = (noneS, 2) by rw [HRS.out, if_pos (.inr hm)])
     have r0 := rR1.cell (j := 0) rfl
     have r1 := rR1.cell (j := 1) rfl
     have r2 := rR1.cell (j := 2) rfl
     have f0 := rR1.frozen 0
     have f1 := rR1.frozen 1
     have f2 := rR1.frozen 2
     have HX := Lib.hid hx01
     clear hx01 hx1 rB1 rR1 H0 HRS HMX hm hp
     go_wp2_with fail
     (try simp only [Exit.inBlock, Exit.then])
     refine bodyPost_ret (v := .tuple #[stV (.slice none 0 0) (.slice none 0 0) (.slice none 0 0), I 2]) (by simp [results, Tryz.f26, go_sem, r0, r1, r2]) rfl ?_
     have hq := put3_ext (q := w.heap.size + 1) HX.out (by omega) (.slice none 0 0) (.slice none 0 0) (.slice none 0 0)
     refine ⟨.slice none 0 0, .slice none 0 0, .slice none 0 0, by (rw [HR.out]; try rfl), ?_⟩
     rw [HR.out]
     exact ⟨StAt.none _ _ _ _ _, hq⟩
   | true =>
     have hmax : ofM sa p ≤ 281474976710656 := HMX.out hm
     have HRS2 := Lib.hid (show reserveS ⟨sa, se, sp⟩ p n = if 281474976710656 - ofM sa p < n then (noneS, 9) else (⟨setM sa p (ofM sa p + n), se, sp⟩, 0) by rw [HRS.out, if_neg (by simp [hp, hm])])
     have HO := Lib.hid (of_any p (H0.out.all.ext (by decide) hx1))
     have b0 := rB1.cell (j := 0) rfl
     have HX1 := Lib.hid hx1
     clear hm hp HRS HMX hx1
     go_wp2_with fail
     refine HO.out.mono ?_
     rintro r W2 ⟨rfl, hx2⟩
     have hx02 := hx01.trans hx2
     have rB2 := rB1.ext hx2
     have rR2 := rR1.ext hx2
     have hz2 := Nat.le_trans hz1 hx2.size
     have H2 := Lib.hid ((H0.out.ext HX1.out).ext hx2)
     clear hx01 rB1 rR1 HO hx2 hz1 b0 HX1 H0
     obtain ⟨z, hz⟩ : ∃ z, ofM sa p = z := ⟨_, rfl⟩
     rw [hz] at hmax HRS2
     rw [hz]
     clear hz
     have hwr : IntKind.u64.wrap (281474976710656 - (z : Int)) = 281474976710656 - (z : Int) := by rw [wrap_u64]; omega
     by_cases hlt : 281474976710656 - z < n
     · have HR := Lib.hid (show reserveS ⟨sa, se, sp⟩ p n = (noneS, 9) by rw [HRS2.out, if_pos hlt])
       have hgt : (n : Int) > 281474976710656 - (z : Int) := by omega
       have r0 := rR2.cell (j := 0) rfl
       have r1 := rR2.cell (j := 1) rfl
       have r2 := rR2.cell (j := 2) rfl
       have f0 := rR2.frozen 0
       have f1 := rR2.frozen 1
       have f2 := rR2.frozen 2
       have HX := Lib.hid hx02
       clear hx02 rB2 rR2 H2 HRS2 hlt
       go_wp2_with fail
       (try simp only [Exit.inBlock, Exit.then])
       refine bodyPost_ret (v := .tuple #[stV (.slice none 0 0) (.slice none 0 0) (.slice none 0 0), I 9]) (by simp [results, Tryz.f26, go_sem, r0, r1, r2]) rfl ?_
       have hq := put3_ext (q := w.heap.size + 1) HX.out (by omega) (.slice none 0 0) (.slice none 0 0) (.slice none 0 0)
       refine ⟨.slice none 0 0, .slice none 0 0, .slice none 0 0, by (rw [HR.out]; try rfl), ?_⟩
       rw [HR.out]
       exact ⟨StAt.none _ _ _ _ _, hq⟩
     · have HR := Lib.hid (show reserveS ⟨sa, se, sp⟩ p n = (⟨setM sa p (z + n), se, sp⟩, 0) by rw [HRS2.out, if_neg hlt])
       have hgt : ¬ (n : Int) > 281474976710656 - (z : Int) := by omega
       have hwa : IntKind.u64.wrap ((z : Int) + (n : Int)) = ((z + n : Nat) : Int) := by rw [wrap_u64]; omega
       have b0 := rB2.cell (j := 0) rfl
       have b1 := rB2.cell (j := 1) rfl
       have b2 := rB2.cell (j := 2) rfl
       have HC := Lib.hid (copyS_any H2.out SM.out)
       clear HRS2 hlt rB2
       go_wp2_with fail
       refine HC.out.mono ?_
       rintro r W3 ⟨u1, u2, u3, rfl, hn3, hx3⟩
       obtain ⟨B1, m1, rfl, -, -⟩ := hn3.all.form
       obtain ⟨B2, m2, rfl, -, -⟩ := hn3.entries.form
       obtain ⟨B3, m3, rfl, -, -⟩ := hn3.pruned.form
       have hz3 := hx3.size
       have hxa := (Ext.refl W3).alloc (.cells #[.slice B1 sa.length m1, .slice B2 se.length m2, .slice B3 sp.length m3] 30)
       have rN := rowNew W3 30 [.slice B1 sa.length m1, .slice B2 se.length m2, .slice B3 sp.length m3]
       have HS3 := Lib.hid ((hn3.at.mono (S' := fun b => W2.heap.size ≤ b ∧ b < W3.heap.size) (fun b hb h => ⟨h, hb⟩)).ext hxa)
       have rR3 := (rR2.ext hx3).ext hxa
       have hx03 := (hx02.trans hx3).trans hxa
       have HS := Lib.hid (set_any p (z + n) (HS3.out.all) (Nat.le_trans SM.out.all (by decide)))
       have hzN := rN.lt
       clear hn3 hx3 hxa rR2 hx02 HC b0 b1 b2
       go_wp2_with fail
       generalize W3.alloc (.cells #[.slice B1 sa.length m1, .slice B2 se.length m2, .slice B3 sp.length m3] 30) = W4 at *
       refine HS.out.mono ?_
       rintro r W5 ⟨u, rfl, ho, hx5⟩
       obtain ⟨U1, un, rfl, -, -⟩ := ho.form
       have rN5 := rN.ext hx5
       have rR5 := rR3.ext hx5
       have hz5 := hx5.size
       have y0 := rN5.cell (j := 0) rfl
       have y1 := rN5.cell (j := 1) rfl
       have y2 := rN5.cell (j := 2) rfl
       have yf := rN5.frozen 0
       have hN6 := rN5.set (j := 0) (by simp) (.slice U1 (setM sa p (z + n)).length un)
       simp only [List.set_cons_zero] at hN6
       have z0 := hN6.cell (j := 0) rfl
       have z1 := hN6.cell (j := 1) rfl
       have z2 := hN6.cell (j := 2) rfl
       have rr0 := rR5.cell (j := 0) rfl
       have rr1 := rR5.cell (j := 1) rfl
       have rr2 := rR5.cell (j := 2) rfl
       have ff0 := rR5.frozen 0
       have ff1 := rR5.frozen 1
       have ff2 := rR5.frozen 2
       have rR6 := rR5.other (p := ⟨W3.heap.size, 0, none⟩) (by simp; omega) (.slice U1 (setM sa p (z + n)).length un)
       have r0 := rR6.cell (j := 0) rfl
       have r1 := rR6.cell (j := 1) rfl
       have r2 := rR6.cell (j := 2) rfl
       have f0 := rR6.frozen 0
       have f1 := rR6.frozen 1
       have f2 := rR6.frozen 2
       have HX := Lib.hid ((hx03.trans hx5).set (p := ⟨W3.heap.size, 0, none⟩) (by simp; omega) (.slice U1 (setM sa p (z + n)).length un))
       have HO := Lib.hid ho
       have HA := Lib.hid (HS3.out.ext hx5)
       clear ho rN rN5 rR3 rR5 hN6 rR6 hx03 hx5 HS HS3 H2
       go_wp2_with fail
       (try simp only [Exit.inBlock, Exit.then])
       refine bodyPost_ret (v := .tuple #[stV (.slice U1 (setM sa p (z + n)).length un) (.slice B2 se.length m2) (.slice B3 sp.length m3), I 0]) (by simp [results, Tryz.f26, go_sem, r0, r1, r2, rr0, rr1, rr2]) rfl ?_
       have hq := put3_ext (q := w.heap.size + 1) HX.out (by omega) (.slice U1 (setM sa p (z + n)).length un) (.slice B2 se.length m2) (.slice B3 sp.length m3)
       refine ⟨.slice U1 (setM sa p (z + n)).length un, .slice B2 se.length m2, .slice B3 sp.length m3, by (rw [HR.out]; try rfl), ?_⟩
       rw [HR.out]
       refine ⟨?_, hq⟩
       have hkp : ∀ b, b ≠ W3.heap.size → b ≠ w.heap.size + 1 → (put3 (W5.setCell ⟨W3.heap.size, 0, none⟩ (.slice U1 (setM sa p (z + n)).length un)) (w.heap.size + 1) (.slice U1 (setM sa p (z + n)).length un) (.slice B2 se.length m2) (.slice B3 sp.length m3)).heap[b]? = W5.heap[b]? := fun b h1 h2 =>
         (put3_heap _ _ _ _ _ b h2).trans (Below.heap_setCell _ _ _ _ h1)
       refine ⟨?_, ?_, ?_⟩
       · exact (own_slMark (HO.out.keep fun b hb _ => hkp b (by have := (HO.out.base_le hb).1; omega) (by have := (HO.out.base_le hb).1; omega))).mono (by decide) fun b _ h => by omega
       · exact (HA.out.entries.keep (by decide) fun b hb _ => hkp b (by omega) (by omega)).mono (by decide) fun b _ hb => by omega
       · exact (HA.out.pruned.keep (by decide) fun b hb _ => hkp b (by omega) (by omega)).mono (by decide) fun b _ hb => by omega
end Go.Proofs.YtdikcgmdmcfpfaaGreat
namespace Go.Proofs.YtdikcgmdmcfpfaaGreat
open Go.RowKit Go.Shelf
theorem sl_twoS {α : Type} {T : Shape α} {hk : 0 < T.k} {w : World} {S : Nat → Prop} {g : Nat} {v1 v2 : Value} {l1 l2 : List α} (h1 : Sl T w S v1 l1) (h2 : Sl T w S v2 l2) (hg : S g)
   (c0 : w.cell? ⟨g, 0, none⟩ = some v1) (c1 : w.cell? ⟨g, 1, none⟩ = some v2) : Sl (slT T hk) w S (.slice (some ⟨g, 0, none⟩) 2 2) [l1, l2] := by
 refine ⟨some ⟨g, 0, none⟩, 2, rfl, by simp, by omega, fun pre x post hl => ?_⟩
 match pre, hl with
 | [], hl =>
   simp only [List.nil_append, List.cons.injEq] at hl
   obtain ⟨rfl, -⟩ := hl
   exact ⟨g, 0, [v1], rfl, hg, ⟨v1, rfl, h1⟩, fun j u hj => by
     match j, hj with
     | 0, hj => simp at hj; subst hj; simpa using c0
     | j + 1, hj => simp at hj⟩
 | [p], hl =>
   simp only [List.cons_append, List.nil_append, List.cons.injEq] at hl
   obtain ⟨-, rfl, -⟩ := hl
   exact ⟨g, 0, [v2], rfl, hg, ⟨v2, rfl, h2⟩, fun j u hj => by
     match j, hj with
     | 0, hj => simp at hj; subst hj; simpa [slT] using c1
     | j + 1, hj => simp at hj⟩
 | p :: q :: r, hl => simp at hl
def CS (w : World) (S : Nat → Prop) (b : Nat) : Prop := S b ∧ ∃ o : Obj, w.heap[b]? = some o ∧ o.isCells = true
theorem isC_of_cell {w : World} {p : Addr} {v : Value} (h : w.cell? p = some v) : ∃ o : Obj, w.heap[p.block]? = some o ∧ o.isCells = true := by
 unfold World.cell? at h
 cases ho : w.heap[p.block]? with
 | none => rw [ho] at h; cases h
 | some o => rw [ho] at h; cases o <;> first | exact ⟨_, rfl, rfl⟩ | cases h
theorem Sl.isC {α : Type} {T : Shape α} {w : World} {S : Nat → Prop} {v : Value} {l : List α} (hk : 0 < T.k) (hrd : ∀ x vs, T.rd w S x vs → T.rd w (CS w S) x vs) (h : Sl T w S v l) : Sl T w (CS w S) v l := by
 obtain ⟨A, c, hv, h1, h2, h3⟩ := h
 refine ⟨A, c, hv, h1, h2, fun pre x post hl => ?_⟩
 obtain ⟨b, o, vs, e, hS, hr, hc⟩ := h3 pre x post hl
 refine ⟨b, o, vs, e, ⟨hS, ?_⟩, hrd x vs hr, hc⟩
 have hlen := T.len hr
 have h0 : vs[0]? = some vs[0] := by simp
 exact isC_of_cell (hc 0 _ h0)
theorem itemT_isC {w : World} {S : Nat → Prop} {x : Item} {vs : List Value} (h : itemT.rd w S x vs) : itemT.rd w (CS w S) x vs := by
 obtain ⟨v, e, h⟩ := h
 exact ⟨v, e, h.isC (by decide) fun _ _ h => h⟩
theorem entryT_isC {w : World} {S : Nat → Prop} {x : Entry} {vs : List Value} (h : entryT.rd w S x vs) : entryT.rd w (CS w S) x vs := by
 obtain ⟨v1, v2, v3, e, h1, h2, h3⟩ := h
 exact ⟨v1, v2, v3, e, h1.isC (by decide) fun _ _ h => h, h2.isC (by decide) fun _ _ h => h, h3.isC (by decide) fun _ _ h => itemT_isC h⟩
theorem RowE.kept {w w' : World} {base g : Nat} {v : Value} {l : List Entry} {row : Option Nat} (h : RowE w base g v l) (hg : w.grownBy w' row) (hr : ∀ r, row = some r → ∃ o : Obj, w.heap[r]? = some o ∧ o.isCells = false) : RowE w' base g v l := by
 obtain ⟨vss, h1, h2, h3⟩ := h
 refine ⟨vss, h1, fun i x vs hi hv => ?_, h3.kept hg hr⟩
 have a := entryT_isC (h2 i x vs hi hv)
 refine entryT.mono (entryT.keep a fun b hb hlt => hg.block b hlt fun e => ?_) fun b _ h => h.1
 obtain ⟨o, ho, hc⟩ := hr b e.symm
 obtain ⟨-, o', ho', hc'⟩ := hb
 rw [ho] at ho'
 cases ho'
 rw [hc] at hc'
 cases hc'
theorem RowIs.kept {w w' : World} {g T : Nat} {xs tl : List Value} {row : Option Nat} (h : RowIs w g T xs tl) (hg : w.grownBy w' row) (hr : ∀ r, row = some r → ∃ o : Obj, w.heap[r]? = some o ∧ o.isCells = false) : RowIs w' g T xs tl :=
 h.keep (hg.block g h.lt fun e => by
   obtain ⟨o, ho, hc⟩ := hr g e.symm
   unfold RowIs at h
   rw [h] at ho
   cases ho
   cases hc)
theorem Ext.keepsO {W W' : World} (h : Ext W W') : KeepsOthers W W' := ⟨h.size, fun b o hb _ => (h.block b (Array.getElem?_eq_some_iff.1 hb).1).trans hb⟩
structure OldK (n g : Nat) (W W' : World) : Prop where
 os : W'.os = W.os
 tape : W'.tape = W.tape
 output : W'.output = W.output
 size : n ≤ W'.heap.size
 same : ∀ b, b < n → b ≠ g → W'.heap[b]? = W.heap[b]?
theorem OldK.refl {n g : Nat} {W : World} (h : n ≤ W.heap.size) : OldK n g W W := ⟨rfl, rfl, rfl, h, fun _ _ _ => rfl⟩
theorem OldK.ext {n g : Nat} {W W' W'' : World} (h : OldK n g W W') (he : Ext W' W'') : OldK n g W W'' :=
 ⟨he.os.trans h.os, he.tape.trans h.tape, he.output.trans h.output, Nat.le_trans h.size he.size, fun b hb hg => (he.block b (by have := h.size; omega)).trans (h.same b hb hg)⟩
theorem OldK.set {n g j : Nat} {W W' : World} (h : OldK n g W W') (v : Value) : OldK n g W (W'.setCell ⟨g, j, none⟩ v) :=
 ⟨h.os, h.tape, h.output, by simpa using h.size, fun b hb hg => (Below.heap_setCell _ _ _ _ hg).trans (h.same b hb hg)⟩
theorem OldK.new {n g p j : Nat} {W W' : World} (h : OldK n g W W') (hp : n ≤ p) (v : Value) : OldK n g W (W'.setCell ⟨p, j, none⟩ v) :=
 ⟨h.os, h.tape, h.output, by simpa using h.size, fun b hb hg => (Below.heap_setCell W' ⟨p, j, none⟩ v b (show b ≠ p by omega)).trans (h.same b hb hg)⟩
theorem OldK.grew {n g : Nat} {W W' W'' : World} {v v' : Value} (h : OldK n g W W') (k : Grew W' W'' v v') (hv : ∀ b, ownBlk v b → n ≤ b) : OldK n g W W'' :=
 ⟨k.os.trans h.os, k.tape.trans h.tape, k.output.trans h.output, Nat.le_trans h.size k.size, fun b hb hg => (k.same b (by have := h.size; omega) (fun ho => by have := hv b ho; omega)).trans (h.same b hb hg)⟩
theorem OldK.low {n g : Nat} {W W' W'' : World} (h : OldK n g W W') (k : Below n W' W'') : OldK n g W W'' :=
 ⟨k.os.trans h.os, k.tape.trans h.tape, k.output.trans h.output, Nat.le_trans h.size k.size, fun b hb hg => (k.block b hb).trans (h.same b hb hg)⟩
theorem OldK.below {n g : Nat} {w W W' : World} (h : OldK n g W W') (he : Ext w W) (hn : w.heap.size ≤ n) (hg : w.heap.size ≤ g) : Ext w W' :=
 ⟨h.os.trans he.os, h.tape.trans he.tape, h.output.trans he.output, Nat.le_trans hn h.size, fun b hb => (h.same b (by omega) (by omega)).trans (he.block b hb)⟩
theorem OldK.kps {n g : Nat} {W0 W W' : World} (h : OldK n g W0 W) (h' : OldK n g W0 W') (hz : W.heap.size ≤ W'.heap.size) : KpS (fun b => b < n ∧ b ≠ g) n W W' :=
 ⟨hz, fun b hb hn => (h'.same b hn hb.2).trans (h.same b hn hb.2).symm⟩
theorem OldK.from (n g : Nat) (W0 : World) {β : Type} (B : Nat) (hB : n ≤ B) : OwnFrom B (fun (_ : β) W => OldK n g W0 W) := fun s W W' row h hg hr =>
 ⟨hg.os.trans h.os, hg.tape.trans h.tape, hg.output.trans h.output, Nat.le_trans h.size hg.size, fun b hb hne => (hg.block b (by have := h.size; omega) (fun e => by have := (hr b e.symm).1; omega)).trans (h.same b hb hne)⟩
theorem MapIs.not_row {κ ν : Type} [DecidableEq κ] {K : κ → Value} {V : ν → Value} {w : World} {b T : Nat} {L : List (κ × ν)} {xs tl : List Value} (h : MapIs K V w b L) (hr : RowIs w b T xs tl) : False := by
 obtain ⟨_, _, h, _⟩ := h
 unfold RowIs at hr
 rw [hr] at h
 cases h
theorem put7_rowJ {w : World} {q T : Nat} {e0 e : Entry} {a1 a2 a3 v1 v2 v3 : Value} (h : RowIs w q T (entL e0 a1 a2 a3) []) : RowIs (put7 w q e v1 v2 v3) q T (entL e v1 v2 v3) [] := by
 have := RowIs.set7 (X1 := []) (X2 := []) (o := 0) (by simpa using h) rfl (St e.key) v1 v2 v3 (U e.cell.1) (St e.cell.2.1) (.bool e.cell.2.2)
 simpa using this
def getE (l : List Entry) (k : Str) : Entry := (findE l k).getD noneE
def joinEs (a b : List Entry) : List Entry := (keysE a b).map fun k => joinEnt (getE a k) (getE b k)
def joinS (a b : State) : State := ⟨joinM a.all b.all, joinEs a.entries b.entries, Lib.compact (sortS (a.pruned ++ b.pruned))⟩
theorem keysL_len (a b : List Str) : (keysL a b).length ≤ a.length + b.length := by
 fun_induction keysL a b <;> simp_all <;> omega
set_option maxHeartbeats 400000 in
theorem keys_any (va vb : Value) (w : World) (ha : va.oneCell' = true) (hb : vb.oneCell' = true) :
   Calls Tryz.prog 53 #[va, vb] w fun e w' => e = .returned (.func (.func 105) #[] #[.pointer (some ⟨w.heap.size, 0, none⟩), .pointer (some ⟨w.heap.size + 1, 0, none⟩)]) ∧ w' = (w.alloc (.cells #[va] 27)).alloc (.cells #[vb] 27) := by
 go_enter Tryz.func53, Tryz.ntmps53
 go_wp2
 go_ret
 exact ⟨rfl, rfl⟩
theorem keys_stops (n : Nat) (hn : 1 ≤ n) {S : Nat → Prop} {n₀ B1 B2 : Nat} {va vb : Value} {A B : List Entry} {w : World} (hn₀ : n₀ ≤ w.heap.size) (h1 : w.cell? ⟨B1, 0, none⟩ = some va) (h2 : w.cell? ⟨B2, 0, none⟩ = some vb)
   (hS1 : S B1) (hS2 : S B2) (hSn : ∀ b, S b → b < n₀) (ha : Sl entryT w S va A) (hb : Sl entryT w S vb B) :
   SeqStopsK Fence.wide n Tryz.prog 105 #[.pointer (some ⟨B1, 0, none⟩), .pointer (some ⟨B2, 0, none⟩)] (fun x => #[St x]) (KpS S n₀) (fun ys => ys = keysE A B) (fun pre => pre <+: keysE A B) (keysE A B).length w :=
 fun l J Jx W hW hJ _ hY h0 =>
   keys1_in n l B1 B2 n₀ J Jx hn W hJ (Nat.le_trans hn₀ hW.size) hY (hW.cell (p := ⟨B1, 0, none⟩) (blk_of_cell h1) |>.trans h1) (hW.cell (p := ⟨B2, 0, none⟩) (blk_of_cell h2) |>.trans h2)
     ⟨hS1, hSn _ hS1⟩ ⟨hS2, hSn _ hS2⟩ (ha.ext (by decide) hW) (hb.ext (by decide) hW) (fun b h _ => hSn b h) h0
end Go.Proofs.YtdikcgmdmcfpfaaGreat
namespace Go.Proofs.YtdikcgmdmcfpfaaGreat
open Go.RowKit Go.Shelf
abbrev dltV (v0 v1 v2 v3 : Value) : Value := .agg #[v0, v1, v2, v3]
def lacks (base : List Mark) (e : Entry) : Bool := !coversM base e.seen
def sinceS (s : State) (base : List Mark) : State := ⟨s.all, s.entries.filter (lacks base), s.pruned⟩
abbrev put4 (w : World) (q : Nat) (v0 v1 v2 v3 : Value) : World := (((w.setCell ⟨q, 0, none⟩ v0).setCell ⟨q, 1, none⟩ v1).setCell ⟨q, 2, none⟩ v2).setCell ⟨q, 3, none⟩ v3
theorem put4_ext {w wr : World} {q : Nat} (hx : Ext w wr) (hq : w.heap.size ≤ q) (v0 v1 v2 v3 : Value) : Ext w (put4 wr q v0 v1 v2 v3) :=
 (((hx.set (p := ⟨q, 0, none⟩) hq _).set (p := ⟨q, 1, none⟩) hq _).set (p := ⟨q, 2, none⟩) hq _).set (p := ⟨q, 3, none⟩) hq _
theorem put4_heap (w : World) (q : Nat) (v0 v1 v2 v3 : Value) (b : Nat) (hb : b ≠ q) : (put4 w q v0 v1 v2 v3).heap[b]? = w.heap[b]? :=
 (((Below.heap_setCell _ _ _ b hb).trans (Below.heap_setCell _ _ _ b hb)).trans (Below.heap_setCell _ _ _ b hb)).trans (Below.heap_setCell _ _ _ b hb)
set_option maxRecDepth 100000 in
set_option maxHeartbeats 4000000 in
theorem sinceS_any {S S0 : Nat → Prop} {s : State} {v1 v2 v3 vb : Value} {base : List Mark} {w : World} (h : StAt w S s v1 v2 v3) (hb : Sl markT w S0 vb base) (sm : SmallS s) (hbl : base.length ≤ 549755813888) :
   Calls Tryz.prog 18 #[stV v1 v2 v3, vb] w fun r w' => ∃ u0 u1 u2 u3, r = .returned (dltV u0 u1 u2 u3) ∧ Own w' w.heap.size 25 2 u0 (joinM base []).length ((joinM base []).flatMap markC) ∧ StNew w' w.heap.size (sinceS s base) u1 u2 u3 ∧ Ext w w' := by
 obtain ⟨sa, se, sp⟩ := s
 obtain ⟨A1, n1, rfl, -, -⟩ := h.all.form
 obtain ⟨A2, n2, rfl, -, -⟩ := h.entries.form
 obtain ⟨A3, n3, rfl, -, -⟩ := h.pruned.form
 obtain ⟨A0, n0, rfl, -, -⟩ := hb.form
 have h' := h.entries
 have HAT := Lib.hid (fun (pre post : List Entry) (m : Entry) (wr : World) (hx : Ext w wr) (hl : se = pre ++ m :: post) => entry_at h' hx hl)
 have H := Lib.hid h
 have HB0 := Lib.hid hb
 have SM := Lib.hid sm
 have HSI := Lib.hid (show sinceS ⟨sa, se, sp⟩ base = ⟨sa, se.filter (lacks base), sp⟩ from rfl)
 have hx0 : Ext w ((w.alloc (.cells #[.slice A1 sa.length n1, .slice A2 se.length n2, .slice A3 sp.length n3] 30)).alloc (.cells #[.slice none 0 0, .slice none 0 0, .slice none 0 0, .slice none 0 0] 64)) := ((Ext.refl w).alloc _).alloc _
 have rB0 : RowIs ((w.alloc (.cells #[.slice A1 sa.length n1, .slice A2 se.length n2, .slice A3 sp.length n3] 30)).alloc (.cells #[.slice none 0 0, .slice none 0 0, .slice none 0 0, .slice none 0 0] 64)) w.heap.size 30 [.slice A1 sa.length n1, .slice A2 se.length n2, .slice A3 sp.length n3] [] := (rowNew w 30 [.slice A1 sa.length n1, .slice A2 se.length n2, .slice A3 sp.length n3]).alloc _
 have rR0 : RowIs ((w.alloc (.cells #[.slice A1 sa.length n1, .slice A2 se.length n2, .slice A3 sp.length n3] 30)).alloc (.cells #[.slice none 0 0, .slice none 0 0, .slice none 0 0, .slice none 0 0] 64)) (w.heap.size + 1) 64 [.slice none 0 0, .slice none 0 0, .slice none 0 0, .slice none 0 0] [] := by have h := rowNew (w.alloc (.cells #[.slice A1 sa.length n1, .slice A2 se.length n2, .slice A3 sp.length n3] 30)) 64 [.slice none 0 0, .slice none 0 0, .slice none 0 0, .slice none 0 0]; simp only [World.size_alloc] at h; exact h
 have hz0 : w.heap.size + 2 ≤ ((w.alloc (.cells #[.slice A1 sa.length n1, .slice A2 se.length n2, .slice A3 sp.length n3] 30)).alloc (.cells #[.slice none 0 0, .slice none 0 0, .slice none 0 0, .slice none 0 0] 64)).heap.size := by simp
 have HJ := Lib.hid (join_any (hb.ext (by decide) hx0) (Sl.nil (S := fun _ => True) (T := markT) none 0 (by decide)) (Nat.le_trans hbl (by decide)) (by decide))
 clear h h' sm hb
 go_enter Tryz.func18, Tryz.ntmps18
 go_wp2_with fail
 generalize ((w.alloc (.cells #[.slice A1 sa.length n1, .slice A2 se.length n2, .slice A3 sp.length n3] 30)).alloc (.cells #[.slice none 0 0, .slice none 0 0, .slice none 0 0, .slice none 0 0] 64)) = W0 at *
 refine HJ.out.mono ?_
 rintro r W1 ⟨v0, rfl, ho0, hx1⟩
 generalize hJB : joinM base [] = JB at *
 have HJB := Lib.hid hJB
 clear hJB HJ
 obtain ⟨B0, m0, rfl, -, -⟩ := ho0.form
 have hz1 := Nat.le_trans hz0 hx1.size
 have hx2 := (Ext.refl W1).alloc (.cells #[.slice B0 JB.length m0, .slice none 0 0, .slice none 0 0, .slice none 0 0] 64)
 have rG0 := rowNew W1 64 [.slice B0 JB.length m0, .slice none 0 0, .slice none 0 0, .slice none 0 0]
 have rB1 := (rB0.ext hx1).ext hx2
 have rR1 := (rR0.ext hx1).ext hx2
 have ho01 := (ho0.ext hx2).lower hz0
 have hxw1 := (hx0.trans hx1).trans hx2
 have b0 := rB1.cell (j := 0) rfl
 have HC := Lib.hid (clone_mark ((H.out.all.ext (by decide) hxw1)) (Nat.le_trans SM.out.all (by decide)))
 have hzz : (W1.alloc (.cells #[.slice B0 JB.length m0, .slice none 0 0, .slice none 0 0, .slice none 0 0] 64)).heap.size = W1.heap.size + 1 := by simp
 clear ho0 hx0 hx1 hx2 rB0 rR0 hz0
 go_wp2_with fail
 generalize W1.alloc (.cells #[.slice B0 JB.length m0, .slice none 0 0, .slice none 0 0, .slice none 0 0] 64) = W2 at *
 refine HC.out.mono ?_
 rintro r W3 ⟨vc1, rfl, hc1, hx3⟩
 have ho1 := (own_markT.1 hc1).lower (base' := w.heap.size + 2) (by omega)
 obtain ⟨B1, m1, rfl, -, -⟩ := ho1.form
 have hg : W1.heap.size < W3.heap.size := by have := hx3.size; omega
 have rG3 := rG0.ext hx3
 have g1f := rG3.frozen 1
 have g1c := rG3.cell (j := 1) rfl
 have rG4 := rG3.set (j := 1) (by simp) (.slice B1 sa.length m1)
 simp only [List.set_cons_succ, List.set_cons_zero] at rG4
 have hk4 : ∀ b, b ≠ W1.heap.size → (W3.setCell ⟨W1.heap.size, 1, none⟩ (.slice B1 sa.length m1)).heap[b]? = W3.heap[b]? := fun b hb => Below.heap_setCell _ _ _ _ hb
 have rB4 := (rB1.ext hx3).keep (hk4 _ (by omega))
 have rR4 := (rR1.ext hx3).keep (hk4 _ (by omega))
 have ho04 := (ho01.ext hx3).keep (w' := W3.setCell ⟨W1.heap.size, 1, none⟩ (.slice B1 sa.length m1)) fun b hb _ => hk4 b (fun e => by subst e; exact (ho01.ext hx3).apart rG3 (by decide) hb)
 have ho14 := ho1.keep (w' := W3.setCell ⟨W1.heap.size, 1, none⟩ (.slice B1 sa.length m1)) fun b hb _ => hk4 b (fun e => by subst e; exact ho1.apart rG3 (by decide) hb)
 have hxw4 := (hxw1.trans hx3).set (p := ⟨W1.heap.size, 1, none⟩) (by simp; omega) (.slice B1 sa.length m1)
 have hz4 : W1.heap.size < (W3.setCell ⟨W1.heap.size, 1, none⟩ (.slice B1 sa.length m1)).heap.size := by rw [World.size_setCell]; exact hg
 have b2 := rB4.cell (j := 2) rfl
 have HC2 := Lib.hid (clone_str ((H.out.pruned.ext (by decide) hxw4)) (Nat.le_trans SM.out.pruned (by decide)))
 clear hc1 ho1 rG3 rB1 rR1 rG0 ho01 hxw1 hx3 hk4 b0 HC hzz
 go_wp2_with fail
 generalize W3.setCell ⟨W1.heap.size, 1, none⟩ (.slice B1 sa.length m1) = W4 at *
 refine HC2.out.mono ?_
 rintro r W5 ⟨vc3, rfl, hc3, hx5⟩
 have ho3 := (OwnL.flat_iff.1 hc3).lower (base' := w.heap.size + 2) (by omega)
 obtain ⟨B3, m3, rfl, -, -⟩ := ho3.form
 have rG5 := rG4.ext hx5
 have g3f := rG5.frozen 3
 have g3c := rG5.cell (j := 3) rfl
 have rG6 := rG5.set (j := 3) (by simp) (.slice B3 sp.length m3)
 simp only [List.set_cons_succ, List.set_cons_zero] at rG6
 have hk6 : ∀ b, b ≠ W1.heap.size → (W5.setCell ⟨W1.heap.size, 3, none⟩ (.slice B3 sp.length m3)).heap[b]? = W5.heap[b]? := fun b hb => Below.heap_setCell _ _ _ _ hb
 have rB6 := (rB4.ext hx5).keep (hk6 _ (by omega))
 have rR6 := (rR4.ext hx5).keep (hk6 _ (by omega))
 have ho06 := (ho04.ext hx5).keep (w' := W5.setCell ⟨W1.heap.size, 3, none⟩ (.slice B3 sp.length m3)) fun b hb _ => hk6 b (fun e => by subst e; exact (ho04.ext hx5).apart rG5 (by decide) hb)
 have ho16 := (ho14.ext hx5).keep (w' := W5.setCell ⟨W1.heap.size, 3, none⟩ (.slice B3 sp.length m3)) fun b hb _ => hk6 b (fun e => by subst e; exact (ho14.ext hx5).apart rG5 (by decide) hb)
 have ho36 := ho3.keep (w' := W5.setCell ⟨W1.heap.size, 3, none⟩ (.slice B3 sp.length m3)) fun b hb _ => hk6 b (fun e => by subst e; exact ho3.apart rG5 (by decide) hb)
 have hxw6 := (hxw4.trans hx5).set (p := ⟨W1.heap.size, 3, none⟩) (by simp; omega) (.slice B3 sp.length m3)
 have b1 := rB6.cell (j := 1) rfl
 have HX6 := Lib.hid hxw6
 have HI6 := Lib.hid (show RowIs (W5.setCell ⟨W1.heap.size, 3, none⟩ (.slice B3 sp.length m3)) W1.heap.size 64 [.slice B0 JB.length m0, .slice B1 sa.length m1, (.slice none 0 0), .slice B3 sp.length m3] [] ∧ Own (W5.setCell ⟨W1.heap.size, 3, none⟩ (.slice B3 sp.length m3)) (w.heap.size + 2) 25 2 (.slice B0 JB.length m0) JB.length (JB.flatMap markC) ∧ Own (W5.setCell ⟨W1.heap.size, 3, none⟩ (.slice B3 sp.length m3)) (w.heap.size + 2) 25 2 (.slice B1 sa.length m1) sa.length (sa.flatMap markC) ∧ Own (W5.setCell ⟨W1.heap.size, 3, none⟩ (.slice B3 sp.length m3)) (w.heap.size + 2) 9 1 (.slice B3 sp.length m3) sp.length (sp.flatMap strC) ∧ RowE (W5.setCell ⟨W1.heap.size, 3, none⟩ (.slice B3 sp.length m3)) (w.heap.size + 2) W1.heap.size (.slice none 0 0) [] ∧ RowIs (W5.setCell ⟨W1.heap.size, 3, none⟩ (.slice B3 sp.length m3)) (w.heap.size + 1) 64 [.slice none 0 0, .slice none 0 0, .slice none 0 0, .slice none 0 0] [] from ⟨rG6, ho06, ho16, ho36, RowE.nil _ _ _ _, rR6⟩)
 generalize hgE : W1.heap.size = g at *
 clear hc3 ho3 rG4 rG5 rG6 rB4 rB6 rR4 rR6 ho04 ho06 ho14 ho16 ho36 hxw4 hxw6 hx5 hk6 b2 HC2 hgE
 go_wp2_with fail
 generalize W5.setCell ⟨g, 3, none⟩ (.slice B3 sp.length m3) = W6 at *
 go_loopw [24] (fun i wr => ∃ pre post vE, se = pre ++ post ∧ i = I pre.length ∧ Hid (RowIs wr g 64 [.slice B0 JB.length m0, .slice B1 sa.length m1, vE, .slice B3 sp.length m3] [] ∧ Own wr (w.heap.size + 2) 25 2 (.slice B0 JB.length m0) JB.length (JB.flatMap markC) ∧ Own wr (w.heap.size + 2) 25 2 (.slice B1 sa.length m1) sa.length (sa.flatMap markC) ∧ Own wr (w.heap.size + 2) 9 1 (.slice B3 sp.length m3) sp.length (sp.flatMap strC) ∧ RowE wr (w.heap.size + 2) g vE (pre.filter (lacks base)) ∧ RowIs wr (w.heap.size + 1) 64 [.slice none 0 0, .slice none 0 0, .slice none 0 0, .slice none 0 0] []) ∧ Ext w wr) (fun i _ => se.length - (intOf i).toNat)
 case atStart => exact ⟨[], se, .slice none 0 0, rfl, rfl, HI6, HX6.out⟩
 case round =>
   obtain ⟨pre, post, vE, hl, rfl, hI, hx⟩ := hrel
   cases post with
   | cons m post =>
     obtain ⟨b, o, a1, a2, a3, rfl, e0, e1, e2, e3, e4, e5, e6, hEA⟩ := HAT.out pre post m wr hx hl
     obtain ⟨C1, c1, rfl, -, -⟩ := hEA.seen.form
     obtain ⟨C2, c2, rfl, -, -⟩ := hEA.counts.form
     obtain ⟨C3, c3, rfl, -, -⟩ := hEA.items.form
     have hlt : pre.length < se.length := by rw [hl]; simp
     have HL := Lib.hid hl
     have hsm := SM.out.each m (by show m ∈ se; rw [hl]; simp)
     have hse : se.length ≤ 549755813888 := SM.out.entries
     have hpf := List.length_filter_le (lacks base) pre
     generalize hpl : pre.filter (lacks base) = pl at *
     have HPL := Lib.hid hpl
     have hxb := (Ext.refl wr).alloc (.cells #[St m.key, .slice C1 m.seen.length c1, .slice C2 m.counts.length c2, .slice C3 m.items.length c3, U m.cell.1, St m.cell.2.1, .bool m.cell.2.2] 37)
     have rb := rowNew wr 37 [St m.key, .slice C1 m.seen.length c1, .slice C2 m.counts.length c2, .slice C3 m.items.length c3, U m.cell.1, St m.cell.2.1, .bool m.cell.2.2]
     have hEAb := (hEA.ext hx).ext hxb
     have hxwb := hx.trans hxb
     have HB := Lib.hid (show RowIs (wr.alloc (.cells #[St m.key, .slice C1 m.seen.length c1, .slice C2 m.counts.length c2, .slice C3 m.items.length c3, U m.cell.1, St m.cell.2.1, .bool m.cell.2.2] 37)) g 64 [.slice B0 JB.length m0, .slice B1 sa.length m1, vE, .slice B3 sp.length m3] [] ∧ Own (wr.alloc (.cells #[St m.key, .slice C1 m.seen.length c1, .slice C2 m.counts.length c2, .slice C3 m.items.length c3, U m.cell.1, St m.cell.2.1, .bool m.cell.2.2] 37)) (w.heap.size + 2) 25 2 (.slice B0 JB.length m0) JB.length (JB.flatMap markC) ∧ Own (wr.alloc (.cells #[St m.key, .slice C1 m.seen.length c1, .slice C2 m.counts.length c2, .slice C3 m.items.length c3, U m.cell.1, St m.cell.2.1, .bool m.cell.2.2] 37)) (w.heap.size + 2) 25 2 (.slice B1 sa.length m1) sa.length (sa.flatMap markC) ∧ Own (wr.alloc (.cells #[St m.key, .slice C1 m.seen.length c1, .slice C2 m.counts.length c2, .slice C3 m.items.length c3, U m.cell.1, St m.cell.2.1, .bool m.cell.2.2] 37)) (w.heap.size + 2) 9 1 (.slice B3 sp.length m3) sp.length (sp.flatMap strC) ∧ RowE (wr.alloc (.cells #[St m.key, .slice C1 m.seen.length c1, .slice C2 m.counts.length c2, .slice C3 m.items.length c3, U m.cell.1, St m.cell.2.1, .bool m.cell.2.2] 37)) (w.heap.size + 2) g vE pl ∧ RowIs (wr.alloc (.cells #[St m.key, .slice C1 m.seen.length c1, .slice C2 m.counts.length c2, .slice C3 m.items.length c3, U m.cell.1, St m.cell.2.1, .bool m.cell.2.2] 37)) (w.heap.size + 1) 64 [.slice none 0 0, .slice none 0 0, .slice none 0 0, .slice none 0 0] [] from by obtain ⟨i1, i2, i3, i4, i5, i6⟩ := hI.out; exact ⟨i1.ext hxb, i2.ext hxb, i3.ext hxb, i4.ext hxb, i5.ext hxb, i6.ext hxb⟩)
     have q1 := rb.cell (j := 1) rfl
     have HCV := Lib.hid (covers_any ((HB0.out.ext (by decide) hx).ext (by decide) hxb) hEAb.seen (Nat.le_trans hbl (by decide)) (Nat.le_trans hsm.seen (by decide)))
     have HEAb := Lib.hid hEAb
     clear hl hpl hEA hEAb hI hx hxb
     go_wp2_with fail
     generalize wr.alloc (.cells #[St m.key, .slice C1 m.seen.length c1, .slice C2 m.counts.length c2, .slice C3 m.items.length c3, U m.cell.1, St m.cell.2.1, .bool m.cell.2.2] 37) = Wb at *
     refine HCV.out.mono ?_
     rintro r Wc ⟨rfl, hxc⟩
     have HC := Lib.hid (show RowIs Wc g 64 [.slice B0 JB.length m0, .slice B1 sa.length m1, vE, .slice B3 sp.length m3] [] ∧ Own Wc (w.heap.size + 2) 25 2 (.slice B0 JB.length m0) JB.length (JB.flatMap markC) ∧ Own Wc (w.heap.size + 2) 25 2 (.slice B1 sa.length m1) sa.length (sa.flatMap markC) ∧ Own Wc (w.heap.size + 2) 9 1 (.slice B3 sp.length m3) sp.length (sp.flatMap strC) ∧ RowE Wc (w.heap.size + 2) g vE pl ∧ RowIs Wc (w.heap.size + 1) 64 [.slice none 0 0, .slice none 0 0, .slice none 0 0, .slice none 0 0] [] from by obtain ⟨i1, i2, i3, i4, i5, i6⟩ := HB.out; exact ⟨i1.ext hxc, i2.ext hxc, i3.ext hxc, i4.ext hxc, i5.ext hxc, i6.ext hxc⟩)
     have hxwc := hxwb.trans hxc
     have rc := rb.ext hxc
     have HEAc := Lib.hid (HEAb.out.ext hxc)
     clear HB HCV HEAb hxwb rb hxc q1 e0 e1 e2 e3 e4 e5 e6
     cases hcv : coversM base m.seen with
     | true =>
       have HFL := Lib.hid (show (pre ++ [m]).filter (lacks base) = pl by rw [List.filter_append, HPL.out]; simp [lacks, hcv])
       have HX := Lib.hid hxwc
       clear hcv rc hxwc
       go_wp2_with fail
       go_roundw
       case rel => exact ⟨pre ++ [m], post, vE, by rw [HL.out]; simp, by simp, by rw [HFL.out]; exact HC, HX.out⟩
       case measure => simp [intOf]; omega
     | false =>
       have HFL := Lib.hid (show (pre ++ [m]).filter (lacks base) = pl ++ [m] by rw [List.filter_append, HPL.out]; simp [lacks, hcv])
       clear hcv
       obtain ⟨hgb, ho0b, ho1b, ho3b, hEb, hRb⟩ := HC.out
       obtain ⟨AE, cE, rfl, -, -⟩ := hEb.form
       go_wp2_with fail
       clear HC
       have hgl := hgb.lt
       have hEl : ∀ b, ownBlk (.slice AE pl.length cE) b → b < Wc.heap.size := fun b hb => (hEb.base_le hb).2
       obtain ⟨xE, hoE⟩ := hEb.own
       have hEg : ¬ ownBlk (.slice AE pl.length cE) g := hoE.apart hgb (by decide)
       have hEAb := HEAc.out
       refine wp_region_facts3 [.early (fun v _ => v = .pointer (some ⟨g, 1, none⟩)), .early (fun v _ => v = .pointer (some ⟨g, 2, none⟩)), .early (fun v _ => v = .slice AE pl.length cE), .early (fun v _ => v = entV m (.slice C1 m.seen.length c1) (.slice C2 m.counts.length c2) (.slice C3 m.items.length c3)),
         .early (fun v W => ∃ u1 u2 u3, v = entV m u1 u2 u3 ∧ EntNew W Wc.heap.size m u1 u2 u3),
         .early (fun v W => ∃ h u1 u2 u3, v = .slice (some ⟨h, 0, none⟩) 1 1 ∧ Wc.heap.size ≤ h ∧ RowIs W h 37 (entL m u1 u2 u3) [] ∧ EntNew W Wc.heap.size m u1 u2 u3),
         .move (fun v W => RowE W (w.heap.size + 2) g v (pl ++ [m])), .late (fun v _ => v = .pointer (some ⟨g, 1, none⟩)), .late (fun v _ => v = .pointer (some ⟨g, 2, none⟩))] 6 (fun W => Ext Wc W) (fun W => Moved (.slice AE pl.length cE) Wc W) Ext (MvR (.slice AE pl.length cE)) rfl (by kernel_rfl) (by kernel_rfl) ?hR ?hRq ?hJ ?hstep ?hend
       case hR =>
         simp only [List.mem_cons, List.not_mem_nil, or_false, forall_eq_or_imp, forall_eq, HF.fact]
         exact ⟨fun v _ _ h _ => h, fun v _ _ h _ => h, fun v _ _ h _ => h, fun v _ _ h _ => h, fun v _ _ h he => by obtain ⟨u1, u2, u3, e, a⟩ := h; exact ⟨u1, u2, u3, e, a.ext he⟩, fun v _ _ h he => by obtain ⟨k, u1, u2, u3, e, a, b, c⟩ := h; exact ⟨k, u1, u2, u3, e, a, b.ext he, c.ext he⟩, fun v _ _ h he => h.ext he, fun v _ _ h _ => h, fun v _ _ h _ => h⟩
       case hRq =>
         simp only [List.mem_cons, List.not_mem_nil, or_false, forall_eq_or_imp, forall_eq, HF.fact, HF.isStore]
         exact ⟨fun _ v _ _ h _ => h, fun _ v _ _ h _ => h, fun _ v _ _ h _ => h, fun _ v _ _ h _ => h, fun _ v _ _ h he => by obtain ⟨u1, u2, u3, e, a⟩ := h; exact ⟨u1, u2, u3, e, a.mvR he hEl⟩,
           fun _ v _ _ h he => by obtain ⟨k, u1, u2, u3, e, a, b, c⟩ := h; exact ⟨k, u1, u2, u3, e, a, b.mvR he (fun ho => by have := hEl k ho; omega), c.mvR he hEl⟩, fun h => (by cases h), fun _ v _ _ h _ => h, fun _ v _ _ h _ => h⟩
       case hJ => exact (Ext.refl Wc).drew
       case hstep =>
         simp only [List.length_cons, List.length_nil, Nat.reduceAdd, List.take_succ_cons, List.take_zero, stepsAll3, and_true]
         refine ⟨?_, ?_, ?_, ?_, ?_, ?_, ?_, ?_, ?_⟩
         · intro x W hj f
           have h : x 5 = .pointer (some ⟨g, 0, none⟩) := f.1
           go_wp
           exact stepQ2_ok rfl ⟨hj, Ext.refl _⟩
         · intro x W hj f
           have h : x 33 = .pointer (some ⟨g, 1, none⟩) := f.1
           go_wp
           exact stepQ2_ok rfl ⟨hj, Ext.refl _⟩
         · intro x W hj f
           have h : x 34 = .pointer (some ⟨g, 2, none⟩) := f.1
           have hc := (hgb.ext hj).cell (j := 2) rfl
           go_wp
           exact stepQ2_ok rfl ⟨hj, Ext.refl _⟩
         · intro x W hj f
           have h : x 7 = .pointer (some ⟨wr.heap.size, 0, none⟩) := f.1
           have q0 := (rc.ext hj).cell (j := 0) rfl
           have q1 := (rc.ext hj).cell (j := 1) rfl
           have q2 := (rc.ext hj).cell (j := 2) rfl
           have q3 := (rc.ext hj).cell (j := 3) rfl
           have q4 := (rc.ext hj).cell (j := 4) rfl
           have q5 := (rc.ext hj).cell (j := 5) rfl
           have q6 := (rc.ext hj).cell (j := 6) rfl
           go_wp
           exact stepQ2_ok rfl ⟨hj, Ext.refl _⟩
         · intro x W hj f
           have h : x 36 = entV m (.slice C1 m.seen.length c1) (.slice C2 m.counts.length c2) (.slice C3 m.items.length c3) := f.1
           have hs := hj.size
           have HC := Lib.hid (copyE_any (hEAb.ext hj) (Nat.le_trans hsm.seen (by decide)) (Nat.le_trans hsm.counts (by decide)) (Nat.le_trans hsm.items (by decide)) (fun it hit => Nat.le_trans (hsm.dots it hit) (by decide)))
           go_wp
           refine HC.out.mono ?_
           rintro r W2 ⟨u1, u2, u3, rfl, hn, hx2⟩
           dsimp only
           go_wp
           exact stepQ2_ok (v := entV m u1 u2 u3) ⟨u1, u2, u3, rfl, hn.lower hs⟩ ⟨hj.trans hx2, hx2⟩
         · intro x W hj f
           obtain ⟨u1, u2, u3, h, hn⟩ : ∃ u1 u2 u3, x 37 = entV m u1 u2 u3 ∧ EntNew W Wc.heap.size m u1 u2 u3 := f.1
           have hs := hj.size
           obtain ⟨D1, d1, rfl, -, -⟩ := hn.seen.form
           obtain ⟨D2, d2, rfl, -, -⟩ := hn.counts.form
           obtain ⟨D3, d3, rfl, -, -⟩ := hn.items.form
           have hrow := rowNew W 37 (entL m (.slice D1 m.seen.length d1) (.slice D2 m.counts.length d2) (.slice D3 m.items.length d3))
           have hxa := (Ext.refl W).alloc (.cells (entL m (.slice D1 m.seen.length d1) (.slice D2 m.counts.length d2) (.slice D3 m.items.length d3)).toArray 37)
           go_wp
           exact stepQ2_ok (v := .slice (some ⟨W.heap.size, 0, none⟩) 1 1) ⟨W.heap.size, _, _, _, rfl, hs, hrow, hn.ext hxa⟩ ⟨hj.trans hxa, hxa⟩
         · intro x W hj f
           have h21 : x 35 = .slice AE pl.length cE := f.1
           obtain ⟨k, u1, u2, u3, h24, hk, hrow, hn⟩ : ∃ h u1 u2 u3, x 38 = .slice (some ⟨h, 0, none⟩) 1 1 ∧ Wc.heap.size ≤ h ∧ RowIs W h 37 (entL m u1 u2 u3) [] ∧ EntNew W Wc.heap.size m u1 u2 u3 := f.2.1
           have hs := hj.size
           have hone := entL_one (hn.rd (S := fun _ => True) (fun _ _ _ => trivial))
           obtain ⟨vss, g1, g2, g3⟩ := hEb.ext hj
           refine wpList_append_Own rfl (.tmp 35) (.tmp 38) 27 rfl (w.heap.size + 2) 37 7 120 zeroEnt Tryz.underlying27 info_entry rfl (by omega) (.slice AE pl.length cE) pl.length vss.flatten (by simp [go_sem, h21]) g3 (some ⟨k, 0, none⟩) 1 1 (entL m u1 u2 u3) (by simp [go_sem, h24])
             ⟨by simp, hone, fun _ => ⟨k, 0, rfl, fun j u hj => by rw [Nat.zero_add]; exact hrow.cell hj⟩⟩ (by omega) (by omega) (by omega) ?_
           intro v' w' hown hgr
           exact stepQ2_ok (RowE.snoc g1 g2 hn hEl hgl (by omega) hown hgr) ⟨Grew.moved hj hgr, hgr.size, hgr.same⟩
         · intro x W b hj f
           have h : x 5 = .pointer (some ⟨g, 0, none⟩) := f.1
           go_wp
           exact stepQ2_ok rfl ⟨hj, Ext.refl _⟩
         · intro x W b hj f
           have h : x 40 = .pointer (some ⟨g, 1, none⟩) := f.1
           go_wp
           exact stepQ2_ok rfl ⟨hj, Ext.refl _⟩
       case hend =>
         intro x W hj f
         have h25 : RowE W (w.heap.size + 2) g (x 39) (pl ++ [m]) := f.2.2.2.2.2.2.1
         have h26 : x 41 = .pointer (some ⟨g, 2, none⟩) := f.2.2.2.2.2.2.2.2.1
         clear f
         obtain ⟨AF, cF, hF, -, -⟩ := h25.form
         rw [show (pl ++ [m]).length = pl.length + 1 by simp] at hF
         simp only [List.length_cons, List.length_nil, Nat.reduceAdd, List.take_succ_cons, List.take_zero, List.filterMap_cons, List.filterMap_nil, List.drop_succ_cons, List.drop_zero, putAll, Act.put, List.setIfInBounds_toArray, List.set_cons_succ, List.set_cons_zero, h26, hF]
         rw [hF] at h25
         have hgW := hgb.mvR hj.mv hEg
         have hRW := hRb.mvR hj.mv (hoE.apart hRb (by decide))
         have ho0W := ho0b.mvR hj.mv (ho0b.apart2 hoE (by decide))
         have ho1W := ho1b.mvR hj.mv (ho1b.apart2 hoE (by decide))
         have ho3W := ho3b.mvR hj.mv (ho3b.apart2 hoE (by decide))
         have hxW := hxwc.moved hj (fun b hb => by have := (hEb.base_le hb).1; omega)
         have hf := hgW.frozen 2
         have hc := hgW.cell (j := 2) rfl
         have hgS := hgW.set (j := 2) (by simp) (.slice AF (pl.length + 1) cF)
         simp only [List.set_cons_succ, List.set_cons_zero] at hgS
         have hkk : ∀ b, b ≠ g → (W.setCell ⟨g, 2, none⟩ (.slice AF (pl.length + 1) cF)).heap[b]? = W.heap[b]? := fun b hb => Below.heap_setCell _ _ _ _ hb
         have HI := Lib.hid (show RowIs (W.setCell ⟨g, 2, none⟩ (.slice AF (pl.length + 1) cF)) g 64 [.slice B0 JB.length m0, .slice B1 sa.length m1, (.slice AF (pl.length + 1) cF), .slice B3 sp.length m3] [] ∧ Own (W.setCell ⟨g, 2, none⟩ (.slice AF (pl.length + 1) cF)) (w.heap.size + 2) 25 2 (.slice B0 JB.length m0) JB.length (JB.flatMap markC) ∧ Own (W.setCell ⟨g, 2, none⟩ (.slice AF (pl.length + 1) cF)) (w.heap.size + 2) 25 2 (.slice B1 sa.length m1) sa.length (sa.flatMap markC) ∧ Own (W.setCell ⟨g, 2, none⟩ (.slice AF (pl.length + 1) cF)) (w.heap.size + 2) 9 1 (.slice B3 sp.length m3) sp.length (sp.flatMap strC) ∧ RowE (W.setCell ⟨g, 2, none⟩ (.slice AF (pl.length + 1) cF)) (w.heap.size + 2) g (.slice AF (pl.length + 1) cF) (pl ++ [m]) ∧ RowIs (W.setCell ⟨g, 2, none⟩ (.slice AF (pl.length + 1) cF)) (w.heap.size + 1) 64 [.slice none 0 0, .slice none 0 0, .slice none 0 0, .slice none 0 0] [] from
           ⟨hgS, ho0W.keep fun b hb _ => hkk b (fun e => by subst e; exact ho0W.apart hgW (by decide) hb), ho1W.keep fun b hb _ => hkk b (fun e => by subst e; exact ho1W.apart hgW (by decide) hb), ho3W.keep fun b hb _ => hkk b (fun e => by subst e; exact ho3W.apart hgW (by decide) hb),
             h25.set hgW (by decide), hRW.other (by simp; omega) _⟩)
         have HXW := Lib.hid (hxW.set (p := ⟨g, 2, none⟩) (by simp; omega) (.slice AF (pl.length + 1) cF))
         clear h25 hgS hgW hRW ho0W ho1W ho3W hxW hgb hRb ho0b ho1b ho3b hEb hoE hEAb rc
         go_wp
         exact ⟨⟨pre ++ [m], post, _, by rw [HL.out]; simp, by simp, by rw [HFL.out]; exact HI, HXW.out⟩, by simp [intOf]; omega⟩
   | nil =>
     rw [List.append_nil] at hl
     subst hl
     generalize hpl : se.filter (lacks base) = pl at *
     have HPL := Lib.hid hpl
     clear hpl
     obtain ⟨hg, ho0, ho1, ho3, hE, hR⟩ := hI.out
     obtain ⟨AE, cE, rfl, -, -⟩ := hE.form
     have k0 := hg.cell (j := 0) rfl
     have k1 := hg.cell (j := 1) rfl
     have k2 := hg.cell (j := 2) rfl
     have k3 := hg.cell (j := 3) rfl
     have r0 := hR.cell (j := 0) rfl
     have r1 := hR.cell (j := 1) rfl
     have r2 := hR.cell (j := 2) rfl
     have r3 := hR.cell (j := 3) rfl
     have f0 := hR.frozen 0
     have f1 := hR.frozen 1
     have f2 := hR.frozen 2
     have f3 := hR.frozen 3
     have HI := hI
     have HX := Lib.hid hx
     clear hI hg ho0 ho1 ho3 hE hR hx
     go_wp2_with fail
     (try simp only [Exit.inBlock, Exit.then])
     refine bodyPost_ret (v := dltV (.slice B0 JB.length m0) (.slice B1 sa.length m1) (.slice AE pl.length cE) (.slice B3 sp.length m3)) (by simp [results, Tryz.f18, go_sem, r0, r1, r2, r3]) rfl ?_
     obtain ⟨hg, ho0, ho1, ho3, hE, hR⟩ := HI.out
     have hk := put4_heap wr (w.heap.size + 1) (.slice B0 JB.length m0) (.slice B1 sa.length m1) (.slice AE pl.length cE) (.slice B3 sp.length m3)
     refine ⟨.slice B0 JB.length m0, .slice B1 sa.length m1, .slice AE pl.length cE, .slice B3 sp.length m3, rfl, ?_, ?_, ?_⟩
     · rw [HJB.out]
       exact (ho0.keep fun b hb _ => hk b (by have := (ho0.base_le hb).1; omega)).lower (by omega)
     · rw [HSI.out]
       refine ⟨?_, ?_, ?_⟩
       · exact (ho1.keep fun b hb _ => hk b (by have := (ho1.base_le hb).1; omega)).lower (by omega)
       · exact (OwnL.lower (OwnL.mono (OwnL.keep (w' := put4 wr (w.heap.size + 1) (.slice B0 JB.length m0) (.slice B1 sa.length m1) (.slice AE pl.length cE) (.slice B3 sp.length m3)) hE (fun b hb _ => hk b (by have := hb.1; omega)) (fun b hb _ => hk b (by have := (hE.base_le hb).1; omega))) (S' := fun b => w.heap.size ≤ b ∧ ¬ ownBlk (.slice AE pl.length cE) b) fun b _ hb => ⟨by have := hb.1; omega, hb.2.2⟩) (by omega))
       · exact (ho3.keep fun b hb _ => hk b (by have := (ho3.base_le hb).1; omega)).lower (by omega)
     · exact put4_ext HX.out (by omega) _ _ _ _
end Go.Proofs.YtdikcgmdmcfpfaaGreat
namespace Go.Proofs.YtdikcgmdmcfpfaaGreat
open Go.RowKit Go.Shelf
attribute [local go_sem] Oper.semAt_some
set_option maxRecDepth 100000 in
set_option maxHeartbeats 20000000 in
theorem joinS_any {S1 S2 : Nat → Prop} {s1 s2 : State} {a1 a2 a3 b1 b2 b3 : Value} {w : World} (h1 : StAt w S1 s1 a1 a2 a3) (h2 : StAt w S2 s2 b1 b2 b3) (sm1 : SmallS s1) (sm2 : SmallS s2) :
   Calls Tryz.prog 15 #[stV a1 a2 a3, stV b1 b2 b3] w fun r w' => ∃ u1 u2 u3, r = .returned (stV u1 u2 u3) ∧ StNew w' w.heap.size (joinS s1 s2) u1 u2 u3 ∧ Ext w w' := by
 obtain ⟨sa, se, sp⟩ := s1
 obtain ⟨ta, te, tp⟩ := s2
 obtain ⟨A1, n1, rfl, -, -⟩ := h1.all.form
 obtain ⟨A2, n2, rfl, -, -⟩ := h1.entries.form
 obtain ⟨A3, n3, rfl, -, -⟩ := h1.pruned.form
 obtain ⟨B1, m1, rfl, -, -⟩ := h2.all.form
 obtain ⟨B2, m2, rfl, -, -⟩ := h2.entries.form
 obtain ⟨B3, m3, rfl, -, -⟩ := h2.pruned.form
 have hx0 : Ext w (((w.alloc (.cells #[.slice A1 sa.length n1, .slice A2 se.length n2, .slice A3 sp.length n3] 30)).alloc (.cells #[.slice B1 ta.length m1, .slice B2 te.length m2, .slice B3 tp.length m3] 30)).alloc (.cells #[.slice none 0 0, .slice none 0 0, .slice none 0 0] 30)) := (((Ext.refl w).alloc _).alloc _).alloc _
 have rA0 : RowIs (((w.alloc (.cells #[.slice A1 sa.length n1, .slice A2 se.length n2, .slice A3 sp.length n3] 30)).alloc (.cells #[.slice B1 ta.length m1, .slice B2 te.length m2, .slice B3 tp.length m3] 30)).alloc (.cells #[.slice none 0 0, .slice none 0 0, .slice none 0 0] 30)) w.heap.size 30 [.slice A1 sa.length n1, .slice A2 se.length n2, .slice A3 sp.length n3] [] := ((rowNew w _ _).alloc _).alloc _
 have rB0 : RowIs (((w.alloc (.cells #[.slice A1 sa.length n1, .slice A2 se.length n2, .slice A3 sp.length n3] 30)).alloc (.cells #[.slice B1 ta.length m1, .slice B2 te.length m2, .slice B3 tp.length m3] 30)).alloc (.cells #[.slice none 0 0, .slice none 0 0, .slice none 0 0] 30)) (w.heap.size + 1) 30 [.slice B1 ta.length m1, .slice B2 te.length m2, .slice B3 tp.length m3] [] := by have h := rowNew (w.alloc (.cells #[.slice A1 sa.length n1, .slice A2 se.length n2, .slice A3 sp.length n3] 30)) 30 [.slice B1 ta.length m1, .slice B2 te.length m2, .slice B3 tp.length m3]; simp only [World.size_alloc] at h; exact h.alloc _
 have rR0 : RowIs (((w.alloc (.cells #[.slice A1 sa.length n1, .slice A2 se.length n2, .slice A3 sp.length n3] 30)).alloc (.cells #[.slice B1 ta.length m1, .slice B2 te.length m2, .slice B3 tp.length m3] 30)).alloc (.cells #[.slice none 0 0, .slice none 0 0, .slice none 0 0] 30)) (w.heap.size + 1 + 1) 30 [.slice none 0 0, .slice none 0 0, .slice none 0 0] [] := by have h := rowNew ((w.alloc (.cells #[.slice A1 sa.length n1, .slice A2 se.length n2, .slice A3 sp.length n3] 30)).alloc (.cells #[.slice B1 ta.length m1, .slice B2 te.length m2, .slice B3 tp.length m3] 30)) 30 [.slice none 0 0, .slice none 0 0, .slice none 0 0]; simp only [World.size_alloc] at h; exact h
 have hz0 : w.heap.size + 3 ≤ (((w.alloc (.cells #[.slice A1 sa.length n1, .slice A2 se.length n2, .slice A3 sp.length n3] 30)).alloc (.cells #[.slice B1 ta.length m1, .slice B2 te.length m2, .slice B3 tp.length m3] 30)).alloc (.cells #[.slice none 0 0, .slice none 0 0, .slice none 0 0] 30)).heap.size := by simp
 have h1' := h1.mono (S' := fun b => b < w.heap.size) (fun b hb _ => hb)
 have h2' := h2.mono (S' := fun b => b < w.heap.size) (fun b hb _ => hb)
 have H1 := Lib.hid (h1'.ext hx0)
 have H2 := Lib.hid (h2'.ext hx0)
 have SM1 := Lib.hid sm1
 have SM2 := Lib.hid sm2
 have HJ := Lib.hid (join_any H1.out.all H2.out.all (Nat.le_trans SM1.out.all (by decide)) (Nat.le_trans SM2.out.all (by decide)))
 clear h1 h2 h1' h2' sm1 sm2
 refine (callsIn_wide (n := 9)).1 ?_
 refine callsIn_of_wp_marks Tryz.func15 rfl trivial ?_ rfl
 simp only [Tryz.ntmps15, List.size_toArray, List.length_cons, List.length_nil, Nat.reduceAdd, Nat.reduceSub, Array.replicate_succ, Array.replicate_zero, List.push_toArray, List.append_toArray, List.nil_append, List.cons_append]
 refine wpIn_wide.2 ?_
 go_wp2_with fail
 generalize (((w.alloc (.cells #[.slice A1 sa.length n1, .slice A2 se.length n2, .slice A3 sp.length n3] 30)).alloc (.cells #[.slice B1 ta.length m1, .slice B2 te.length m2, .slice B3 tp.length m3] 30)).alloc (.cells #[.slice none 0 0, .slice none 0 0, .slice none 0 0] 30)) = W0 at *
 have a00 := rA0.cell (j := 0) rfl
 have b00 := rB0.cell (j := 0) rfl
 refine HJ.out.mono ?_
 rintro r W1 ⟨v1, rfl, hv1, hx1⟩
 obtain ⟨J1, j1, rfl, -, -⟩ := hv1.form
 have hx01 := hx0.trans hx1
 have hxg := (Ext.refl W1).alloc (.cells #[(.slice J1 (joinM sa ta).length j1), (.slice none 0 0), (.slice none 0 0)] 30)
 have rG2 : RowIs (W1.alloc (.cells #[(.slice J1 (joinM sa ta).length j1), (.slice none 0 0), (.slice none 0 0)] 30)) W1.heap.size 30 [(.slice J1 (joinM sa ta).length j1), (.slice none 0 0), (.slice none 0 0)] [] := rowNew W1 30 [(.slice J1 (joinM sa ta).length j1), (.slice none 0 0), (.slice none 0 0)]
 have rA2 : RowIs (W1.alloc (.cells #[(.slice J1 (joinM sa ta).length j1), (.slice none 0 0), (.slice none 0 0)] 30)) _ _ _ _ := rA0.ext (hx1.trans hxg)
 have rB2 : RowIs (W1.alloc (.cells #[(.slice J1 (joinM sa ta).length j1), (.slice none 0 0), (.slice none 0 0)] 30)) _ _ _ _ := rB0.ext (hx1.trans hxg)
 have rR2 : RowIs (W1.alloc (.cells #[(.slice J1 (joinM sa ta).length j1), (.slice none 0 0), (.slice none 0 0)] 30)) _ _ _ _ := rR0.ext (hx1.trans hxg)
 have hz1 := Nat.le_trans hz0 hx1.size
 have HX2 := Lib.hid (show Ext w (W1.alloc (.cells #[(.slice J1 (joinM sa ta).length j1), (.slice none 0 0), (.slice none 0 0)] 30)) from (hx0.trans hx1).trans hxg)
 have HA2 := Lib.hid (H1.out.ext (hx1.trans hxg))
 have HB2 := Lib.hid (H2.out.ext (hx1.trans hxg))
 have hz2 : W1.heap.size + 1 ≤ (W1.alloc (.cells #[(.slice J1 (joinM sa ta).length j1), (.slice none 0 0), (.slice none 0 0)] 30)).heap.size := by simp
 have HV2 := Lib.hid ((hv1.ext hxg).lower (base' := w.heap.size + 3) hz0)
 have HG2 := Lib.hid rG2
 clear hx0 rA0 rB0 rR0 hz0 HJ hv1 hx01 hx1 H1 H2 hxg rG2
 go_wp2_with fail
 clear a00 b00
 generalize (W1.alloc (.cells #[(.slice J1 (joinM sa ta).length j1), (.slice none 0 0), (.slice none 0 0)] 30)) = W2 at *
 have hW2 := hz2
 have hAe : ∀ W, Ext W2 W → Sl entryT W (fun b => b < w.heap.size) (.slice A2 se.length n2) se := fun W he => (HA2.out.entries.ext (by decide) he)
 have hBe : ∀ W, Ext W2 W → Sl entryT W (fun b => b < w.heap.size) (.slice B2 te.length m2) te := fun W he => (HB2.out.entries.ext (by decide) he)
 have HAE := Lib.hid hAe
 have HBE := Lib.hid hBe
 clear hAe hBe
 refine wp_region_factsA [fun v _ => v = .pointer (some ⟨w.heap.size, 1, none⟩), fun v _ => v = .slice A2 se.length n2, fun v W => ∃ m, v = .map (some m) ∧ W2.heap.size ≤ m ∧ MapIs St I W m (plF 0 [] se),
   fun v _ => v = .pointer (some ⟨w.heap.size + 1, 1, none⟩), fun v _ => v = .slice B2 te.length m2, fun v W => ∃ m, v = .map (some m) ∧ W2.heap.size ≤ m ∧ MapIs St I W m (plF 0 [] te),
   fun v W => ∃ g, v = .pointer (some ⟨g, 0, none⟩) ∧ W2.heap.size ≤ g ∧ RowIs W g 112 [.map none] [], fun v W => ∃ g, v = .pointer (some ⟨g, 0, none⟩) ∧ W2.heap.size ≤ g ∧ RowIs W g 112 [.map none] []] [6, 7] rfl (by kernel_rfl) (by kernel_rfl) ?hR ?hstep ?hend
 case hR =>
   simp only [List.mem_cons, List.not_mem_nil, or_false, forall_eq_or_imp, forall_eq]
   exact ⟨fun v _ _ h _ => h, fun v _ _ h _ => h, fun v _ _ h he => by obtain ⟨m, e, z, h⟩ := h; exact ⟨m, e, z, h.ext he⟩, fun v _ _ h _ => h, fun v _ _ h _ => h, fun v _ _ h he => by obtain ⟨m, e, z, h⟩ := h; exact ⟨m, e, z, h.ext he⟩,
     fun v _ _ h he => by obtain ⟨g, e, z, h⟩ := h; exact ⟨g, e, z, h.ext he⟩, fun v _ _ h he => by obtain ⟨g, e, z, h⟩ := h; exact ⟨g, e, z, h.ext he⟩⟩
 case hstep =>
   simp only [List.length_cons, List.length_nil, Nat.reduceAdd, List.take_succ_cons, List.take_zero, stepsAllA, and_true]
   refine ⟨?_, ?_, ?_, ?_, ?_, ?_, ?_, ?_⟩
   · intro x W he f
     have h : x 2 = .pointer (some ⟨w.heap.size, 0, none⟩) := f.1
     go_wp
     exact stepQ_ok (r := freshQ _ _ _ _) ⟨rfl, fun h => by simp at h⟩ (Ext.refl _)
   · intro x W he f
     have h : x 21 = .pointer (some ⟨w.heap.size, 1, none⟩) := f.1
     have hc := (rA2.ext he).cell (j := 1) rfl
     go_wp
     exact stepQ_ok (r := freshQ _ _ _ _) ⟨rfl, fun h => by simp at h⟩ (Ext.refl _)
   · intro x W he f
     have h : x 22 = .slice A2 se.length n2 := f.1
     have hs := he.size
     have HC := Lib.hid (places_any (HAE.out W he))
     go_wp
     refine HC.out.mono ?_
     rintro r W3 ⟨m, rfl, hm, hM, hx2⟩
     dsimp only
     go_wp
     exact stepQ_ok (v := .map (some m)) (r := freshQ _ _ _ _) ⟨⟨m, rfl, by omega, hM⟩, fun h => by simp at h⟩ hx2
   · intro x W he f
     have h : x 3 = .pointer (some ⟨w.heap.size + 1, 0, none⟩) := f.1
     go_wp
     exact stepQ_ok (r := freshQ _ _ _ _) ⟨rfl, fun h => by simp at h⟩ (Ext.refl _)
   · intro x W he f
     have h : x 24 = .pointer (some ⟨w.heap.size + 1, 1, none⟩) := f.1
     have hc := (rB2.ext he).cell (j := 1) rfl
     go_wp
     exact stepQ_ok (r := freshQ _ _ _ _) ⟨rfl, fun h => by simp at h⟩ (Ext.refl _)
   · intro x W he f
     have h : x 25 = .slice B2 te.length m2 := f.1
     have hs := he.size
     have HC := Lib.hid (places_any (HBE.out W he))
     go_wp
     refine HC.out.mono ?_
     rintro r W3 ⟨m, rfl, hm, hM, hx2⟩
     dsimp only
     go_wp
     exact stepQ_ok (v := .map (some m)) (r := freshQ _ _ _ _) ⟨⟨m, rfl, by omega, hM⟩, fun h => by simp at h⟩ hx2
   · intro x W he f
     have hs := he.size
     have hrow := rowNew W 112 [.map none]
     go_wp
     exact stepQ_ok (r := freshQ _ _ _ _) ⟨⟨W.heap.size, rfl, hs, hrow⟩, fun _ => ⟨W.heap.size, rfl, Nat.le_refl _, by simp⟩⟩ ((Ext.refl W).alloc _)
   · intro x W he f
     have hs := he.size
     have hrow := rowNew W 112 [.map none]
     go_wp
     exact stepQ_ok (r := freshQ _ _ _ _) ⟨⟨W.heap.size, rfl, hs, hrow⟩, fun _ => ⟨W.heap.size, rfl, Nat.le_refl _, by simp⟩⟩ ((Ext.refl W).alloc _)
 case hend =>
   intro x W he hap f
   obtain ⟨p1, h23, hp1, hM1⟩ : ∃ m, x 23 = .map (some m) ∧ W2.heap.size ≤ m ∧ MapIs St I W m (plF 0 [] se) := f.2.2.1
   obtain ⟨p2, h26, hp2, hM2⟩ : ∃ m, x 26 = .map (some m) ∧ W2.heap.size ≤ m ∧ MapIs St I W m (plF 0 [] te) := f.2.2.2.2.2.1
   obtain ⟨g6, h6, hg6, r6⟩ : ∃ g, x 6 = .pointer (some ⟨g, 0, none⟩) ∧ W2.heap.size ≤ g ∧ RowIs W g 112 [.map none] [] := f.2.2.2.2.2.2.1
   obtain ⟨g7, h7, hg7, r7⟩ : ∃ g, x 7 = .pointer (some ⟨g, 0, none⟩) ∧ W2.heap.size ≤ g ∧ RowIs W g 112 [.map none] [] := f.2.2.2.2.2.2.2.1
   have hne : g6 ≠ g7 := fun e => hap.1 7 (by simp) (by rw [h6, h7, e])
   clear f hap
   simp only [List.length_cons, List.length_nil, Nat.reduceAdd, List.take_succ_cons, List.take_zero, List.filterMap_cons, List.filterMap_nil, List.drop_succ_cons, List.drop_zero, putAll, Act.put, List.setIfInBounds_toArray, List.set_cons_succ, List.set_cons_zero, h23, h26, h6, h7]
   have q6 := r6.cell (j := 0) rfl
   have q7 := r7.cell (j := 0) rfl
   have qf6 := r6.frozen 0
   have qf7 := r7.frozen 0
   have hn1 : p1 ≠ g6 ∧ p1 ≠ g7 := ⟨fun e => by subst e; exact hM1.not_row r6, fun e => by subst e; exact hM1.not_row r7⟩
   have hn2 : p2 ≠ g6 ∧ p2 ≠ g7 := ⟨fun e => by subst e; exact hM2.not_row r6, fun e => by subst e; exact hM2.not_row r7⟩
   have hk : ∀ b, b ≠ g6 → b ≠ g7 → ((W.setCell ⟨g6, 0, none⟩ (.map (some p1))).setCell ⟨g7, 0, none⟩ (.map (some p2))).heap[b]? = W.heap[b]? := fun b h1 h2 => (Below.heap_setCell _ _ _ _ h2).trans (Below.heap_setCell _ _ _ _ h1)
   have r63 : RowIs ((W.setCell ⟨g6, 0, none⟩ (.map (some p1))).setCell ⟨g7, 0, none⟩ (.map (some p2))) g6 112 [.map (some p1)] [] := by have h := (r6.set (j := 0) (by simp) (.map (some p1))).other (p := ⟨g7, 0, none⟩) (by simpa using hne.symm) (.map (some p2)); simpa using h
   have r73 : RowIs ((W.setCell ⟨g6, 0, none⟩ (.map (some p1))).setCell ⟨g7, 0, none⟩ (.map (some p2))) g7 112 [.map (some p2)] [] := by have h := (r7.other (p := ⟨g6, 0, none⟩) (by simpa using hne) (.map (some p1))).set (j := 0) (by simp) (.map (some p2)); simpa using h
   have hx3 : Ext W2 ((W.setCell ⟨g6, 0, none⟩ (.map (some p1))).setCell ⟨g7, 0, none⟩ (.map (some p2))) := (he.set (p := ⟨g6, 0, none⟩) hg6 _).set (p := ⟨g7, 0, none⟩) hg7 _
   have HM1 := Lib.hid (hM1.keep (w' := ((W.setCell ⟨g6, 0, none⟩ (.map (some p1))).setCell ⟨g7, 0, none⟩ (.map (some p2)))) (hk _ hn1.1 hn1.2))
   have HM2 := Lib.hid (hM2.keep (w' := ((W.setCell ⟨g6, 0, none⟩ (.map (some p1))).setCell ⟨g7, 0, none⟩ (.map (some p2)))) (hk _ hn2.1 hn2.2))
   have hz3 : ((W.setCell ⟨g6, 0, none⟩ (.map (some p1))).setCell ⟨g7, 0, none⟩ (.map (some p2))).heap.size ≤ W.heap.size ∧ W.heap.size ≤ ((W.setCell ⟨g6, 0, none⟩ (.map (some p1))).setCell ⟨g7, 0, none⟩ (.map (some p2))).heap.size := by simp
   have hgl6 := r6.lt
   have hgl7 := r7.lt
   have hpl1 := hM1.lt
   have hpl2 := hM2.lt
   have hez := he.size
   clear hM1 hM2 hk r6 r7 he hn1 hn2
   have rA3 := rA2.ext hx3
   have rB3 := rB2.ext hx3
   have rR3 := rR2.ext hx3
   have HG3 := Lib.hid (HG2.out.ext hx3)
   have HV3 := Lib.hid (HV2.out.ext hx3)
   have HX3 := Lib.hid (HX2.out.trans hx3)
   have HA3 := Lib.hid (HA2.out.ext hx3)
   have HB3 := Lib.hid (HB2.out.ext hx3)
   clear rA2 rB2 rR2 hx3 HG2 HV2 HX2 HA2 HB2 HAE HBE
   have b1 := rB3.cell (j := 1) rfl
   have a1 := rA3.cell (j := 1) rfl
   go_wp
   clear q6 q7 qf6 qf7
   go_wp2_with fail
   generalize ((W.setCell ⟨g6, 0, none⟩ (.map (some p1))).setCell ⟨g7, 0, none⟩ (.map (some p2))) = W3 at *
   have HK := Lib.hid (keys_any (.slice A2 se.length n2) (.slice B2 te.length m2) W3 rfl rfl)
   refine HK.out.mono ?_
   rintro r w4 ⟨rfl, rfl⟩
   have hx4 : Ext W3 ((W3.alloc (.cells #[.slice A2 se.length n2] 27)).alloc (.cells #[.slice B2 te.length m2] 27)) := ((Ext.refl W3).alloc _).alloc _
   have k1 : ((W3.alloc (.cells #[.slice A2 se.length n2] 27)).alloc (.cells #[.slice B2 te.length m2] 27)).cell? ⟨W3.heap.size, 0, none⟩ = some (.slice A2 se.length n2) := by simp [go_sem]
   have k2 : ((W3.alloc (.cells #[.slice A2 se.length n2] 27)).alloc (.cells #[.slice B2 te.length m2] 27)).cell? ⟨W3.heap.size + 1, 0, none⟩ = some (.slice B2 te.length m2) := by simp [go_sem]
   have hz4 : ((W3.alloc (.cells #[.slice A2 se.length n2] 27)).alloc (.cells #[.slice B2 te.length m2] 27)).heap.size ≤ W3.heap.size + 2 ∧ W3.heap.size + 2 ≤ ((W3.alloc (.cells #[.slice A2 se.length n2] 27)).alloc (.cells #[.slice B2 te.length m2] 27)).heap.size := by simp
   clear a1 b1
   go_wp2_with fail
   generalize (W3.alloc (.cells #[.slice A2 se.length n2] 27)).alloc (.cells #[.slice B2 te.length m2] 27) = W4 at *
   skip
   have rA4 := rA3.ext hx4
   have rB4 := rB3.ext hx4
   have rR4 := rR3.ext hx4
   have HG4 := Lib.hid (HG3.out.ext hx4)
   have HV4 := Lib.hid (HV3.out.ext hx4)
   have HX4 := Lib.hid (HX3.out.trans hx4)
   have HA4 := Lib.hid (HA3.out.ext hx4)
   have HB4 := Lib.hid (HB3.out.ext hx4)
   have HM14 := Lib.hid (HM1.out.ext hx4)
   have HM24 := Lib.hid (HM2.out.ext hx4)
   have r64 := r63.ext hx4
   have r74 := r73.ext hx4
   have rG4 := HG4.out
   clear rA3 rB3 rR3 hx4 HG3 HV3 HX3 HA3 HB3 HM1 HM2 r63 r73
   have hkl := keysL_len (se.map (·.key)) (te.map (·.key))
   rw [List.length_map, List.length_map] at hkl
   have hse : se.length ≤ 549755813888 := SM1.out.entries
   have hte : te.length ≤ 549755813888 := SM2.out.entries
   refine (wpIn_wide (n := 9)).1 ?_
   refine wpIn_rangeFunc_ownG rfl (by omega) (gf := 105) (lb := #[.pointer (some ⟨W3.heap.size, 0, none⟩), .pointer (some ⟨W3.heap.size + 1, 0, none⟩)]) rfl trivial (enters_of Tryz.func105 (by kernel_rfl) rfl)
     (keys_stops 8 (by omega) (w := W4) (n₀ := W4.heap.size) (S := fun b => b < W4.heap.size ∧ b ≠ W1.heap.size) (Nat.le_refl _) k1 k2 ⟨by omega, by omega⟩ ⟨by omega, by omega⟩ (fun b h => h.1)
       (HA4.out.entries.mono (by decide) fun b hb h => ⟨hb, by omega⟩) (HB4.out.entries.mono (by decide) fun b hb h => ⟨hb, by omega⟩))
     (fun h k => h.trans k) (KpS.put (Nat.le_refl _)) (Below.refl _ _) (fun _ => rfl)
     (fun pre W => ∃ vE, RowIs W W1.heap.size 30 [(.slice J1 (joinM sa ta).length j1), vE, (.slice none 0 0)] [] ∧ RowE W W4.heap.size W1.heap.size vE (pre.map fun k => joinEnt (getE se k) (getE te k)) ∧ OldK W4.heap.size W1.heap.size W4 W)
     (fun _ _ _ => False)
     (fun s W W' row ⟨vE, h1, h2, h3⟩ hg hr => ⟨vE, h1.kept hg (fun r e => (hr r e).2), h2.kept hg (fun r e => (hr r e).2), OldK.from _ _ _ _ (Nat.le_refl _) () W W' row h3 hg hr⟩)
     (fun _ _ _ _ _ hs _ _ => hs)
     ⟨_, HG4.out, RowE.nil _ _ _ _, OldK.refl (Nat.le_refl _)⟩
     ?a1 ?assign ?body ?done ?stop
   case stop =>
     rintro D c pre W _ _ h _
     exact h.elim
   case assign =>
     intro l x W K hK
     gi_wp2
     exact hK
   case body =>
     rintro l pre x W ⟨vE, hS, hE, hO⟩ hlt
     have hOs := hO.size
     have hgl1 : W1.heap.size < W4.heap.size := by omega
     have rA := rA4.keep (hO.same w.heap.size (by omega) (by omega))
     have rB := rB4.keep (hO.same (w.heap.size + 1) (by omega) (by omega))
     have r6 := r64.keep (hO.same g6 (by omega) (by omega))
     have r7 := r74.keep (hO.same g7 (by omega) (by omega))
     have M1 := HM14.out.keep (hO.same p1 (by omega) (by omega))
     have M2 := HM24.out.keep (hO.same p2 (by omega) (by omega))
     have EA := HA4.out.entries.keep (by decide) (w' := W) (fun b hb h2 => hO.same b (by omega) (by omega))
     have EB := HB4.out.entries.keep (by decide) (w' := W) (fun b hb h2 => hO.same b (by omega) (by omega))
     have hEf := hE.form
     rw [List.length_map] at hEf
     obtain ⟨AE, cE, rfl, -, -⟩ := hEf
     have hlt2 : pre.length ≤ 1099511627776 := Nat.le_trans (Nat.le_of_lt hlt) (Nat.le_trans hkl (by omega))
     have hxb : Ext W ((W.alloc (.cells #[St [], .slice none 0 0, .slice none 0 0, .slice none 0 0, .int .u64 0, St [], .bool false] 37)).alloc (.cells #[St [], .slice none 0 0, .slice none 0 0, .slice none 0 0, .int .u64 0, St [], .bool false] 37)) := ((Ext.refl W).alloc _).alloc _
     have r9 : RowIs ((W.alloc (.cells #[St [], .slice none 0 0, .slice none 0 0, .slice none 0 0, .int .u64 0, St [], .bool false] 37)).alloc (.cells #[St [], .slice none 0 0, .slice none 0 0, .slice none 0 0, .int .u64 0, St [], .bool false] 37)) W.heap.size 37 [St [], .slice none 0 0, .slice none 0 0, .slice none 0 0, .int .u64 0, St [], .bool false] [] := (rowNew W 37 [St [], .slice none 0 0, .slice none 0 0, .slice none 0 0, .int .u64 0, St [], .bool false]).alloc _
     have r10 : RowIs ((W.alloc (.cells #[St [], .slice none 0 0, .slice none 0 0, .slice none 0 0, .int .u64 0, St [], .bool false] 37)).alloc (.cells #[St [], .slice none 0 0, .slice none 0 0, .slice none 0 0, .int .u64 0, St [], .bool false] 37)) (W.heap.size + 1) 37 [St [], .slice none 0 0, .slice none 0 0, .slice none 0 0, .int .u64 0, St [], .bool false] [] := by have h := rowNew (W.alloc (.cells #[St [], .slice none 0 0, .slice none 0 0, .slice none 0 0, .int .u64 0, St [], .bool false] 37)) 37 [St [], .slice none 0 0, .slice none 0 0, .slice none 0 0, .int .u64 0, St [], .bool false]; rw [World.size_alloc] at h; exact h
     have hzb : ((W.alloc (.cells #[St [], .slice none 0 0, .slice none 0 0, .slice none 0 0, .int .u64 0, St [], .bool false] 37)).alloc (.cells #[St [], .slice none 0 0, .slice none 0 0, .slice none 0 0, .int .u64 0, St [], .bool false] 37)).heap.size ≤ W.heap.size + 2 ∧ W.heap.size + 2 ≤ ((W.alloc (.cells #[St [], .slice none 0 0, .slice none 0 0, .slice none 0 0, .int .u64 0, St [], .bool false] 37)).alloc (.cells #[St [], .slice none 0 0, .slice none 0 0, .slice none 0 0, .int .u64 0, St [], .bool false] 37)).heap.size := by simp
     skip
     have hspa := findE_split se x
     have hspb := findE_split te x
     have HSx := Lib.hid hS
     have HEx := Lib.hid hE
     have HOx := Lib.hid hO
     have HR := Lib.hid (show _ ∧ _ ∧ _ ∧ _ ∧ _ ∧ _ from ⟨r6, r7, rA, rB, M1, M2⟩)
     clear hS hE hO r6 r7 rA rB M1 M2
     refine wpIn_block (wpIn_seq_k ?_)
     intro K5 hK5
     have HK5 := Lib.hid hK5
     clear hK5
     gi_wp2_with fail
     refine HK5.out _ _ ?_
     clear HK5 K5
     generalize ((W.alloc (.cells #[St [], .slice none 0 0, .slice none 0 0, .slice none 0 0, .int .u64 0, St [], .bool false] 37)).alloc (.cells #[St [], .slice none 0 0, .slice none 0 0, .slice none 0 0, .int .u64 0, St [], .bool false] 37)) = Wb at *
     have q6 := (HR.out.1.ext hxb).cell (j := 0) rfl
     have qa := (HR.out.2.2.1.ext hxb).cell (j := 1) rfl
     have hlk1 := (run_lookup_MapIs (P := Tryz.prog) (z := 0) Tryz.underlying112 keyOkS zeroI (HR.out.2.2.2.2.1.ext hxb) x).2
     rw [lookL_mem, show ∀ L : List (Str × Int), getL 0 L x = (lookL L x).getD 0 from fun _ => rfl, plF_lookup se 0 [] x] at hlk1
     simp only [show lookL ([] : List (Str × Int)) x = none from rfl, Nat.zero_add] at hlk1
     have HEA := Lib.hid (fun (pre post : List Entry) (m : Entry) (hl : se = pre ++ m :: post) => entry_at EA hxb hl)
     clear EA
     refine wpIn_seq_k ?_
     intro K6 hK6
     have HK6 := Lib.hid hK6
     clear hK6
     cases hfa0 : se.findIdx? (fun e => decide (e.key = x)) with
     | none =>
       rw [hfa0] at hlk1 hspa
       simp only at hspa
       simp only [Option.map_none, Option.getD_none, Option.isSome_none] at hlk1
       have HEd1 := Lib.hid (show getE se x = noneE from by unfold getE; rw [hspa]; rfl)
       clear hspa hfa0
       gi_wp2_with fail
       refine HK6.out _ _ ?_
       clear HK6 K6 q6 qa hlk1 HEA
       have hsm1 := small_none
       have HAc := Lib.hid (EntAt.none W (fun b => b < w.heap.size) none none none)
       have r10c := r10
       have r9c := r9
       have hxc := hxb
       clear r9 r10 hxb
       obtain ⟨Wc, rfl⟩ : ∃ Wc, Wc = Wb := ⟨_, rfl⟩
       refine wpIn_seq_k ?_
       intro K9 hK9
       have HK9 := Lib.hid hK9
       clear hK9
       have q7 := (HR.out.2.1.ext hxc).cell (j := 0) rfl
       have qb := (HR.out.2.2.2.1.ext hxc).cell (j := 1) rfl
       have hlk2 := (run_lookup_MapIs (P := Tryz.prog) (z := 0) Tryz.underlying112 keyOkS zeroI (HR.out.2.2.2.2.2.ext hxc) x).2
       rw [lookL_mem, show ∀ L : List (Str × Int), getL 0 L x = (lookL L x).getD 0 from fun _ => rfl, plF_lookup te 0 [] x] at hlk2
       simp only [show lookL ([] : List (Str × Int)) x = none from rfl, Nat.zero_add] at hlk2
       have HEB := Lib.hid (fun (pre post : List Entry) (m : Entry) (hl : te = pre ++ m :: post) => entry_at EB hxc hl)
       clear EB
       cases hfb0 : te.findIdx? (fun e => decide (e.key = x)) with
       | none =>
         rw [hfb0] at hlk2 hspb
         simp only at hspb
         simp only [Option.map_none, Option.getD_none, Option.isSome_none] at hlk2
         have HEd2 := Lib.hid (show getE te x = noneE from by unfold getE; rw [hspb]; rfl)
         clear hspb hfb0
         gi_wp2_with fail
         refine HK9.out _ _ ?_
         clear HK9 K9 q7 qb hlk2 HEB
         have HBd := EntAt.none W (fun b => b < w.heap.size) none none none
         have hsm2 := small_none
         have r10d := r10c
         have r9d := r9c
         have hxd := hxc
         clear r9c r10c hxc
         obtain ⟨Wd, rfl⟩ : ∃ Wd, Wd = Wc := ⟨_, rfl⟩
         have rS := HSx.out.ext hxd
         have hEd := HEx.out.ext hxd
         have HAd := Lib.hid (HAc.out.ext hxd)
         have HBd2 := Lib.hid (HBd.ext hxd)
         have hgl := rS.lt
         have hxz := hxd.size
         obtain ⟨J, hJ⟩ : ∃ J, J = joinEnt noneE noneE := ⟨_, rfl⟩
         have HJe := Lib.hid hJ
         refine wpIn_region_factsA [fun v _ => v = .pointer (some ⟨W1.heap.size, 1, none⟩), fun v _ => v = .slice AE pre.length cE, fun v _ => v = entV noneE (.slice none 0 0) (.slice none 0 0) (.slice none 0 0), fun v _ => v = entV noneE (.slice none 0 0) (.slice none 0 0) (.slice none 0 0),
           fun v W' => ∃ u1 u2 u3, v = entV J u1 u2 u3 ∧ EntNew W' Wd.heap.size J u1 u2 u3, fun v W' => ∃ h u1 u2 u3, v = .slice (some ⟨h, 0, none⟩) 1 1 ∧ Wd.heap.size ≤ h ∧ RowIs W' h 37 (entL J u1 u2 u3) [] ∧ EntNew W' Wd.heap.size J u1 u2 u3] []
           rfl (by rintro ⟨a, w, h⟩; exact h) (by intro o ho c; simp only [List.mem_cons, List.not_mem_nil, or_false] at ho; rcases ho with rfl | rfl | rfl | rfl | rfl | rfl | rfl | rfl | rfl <;> (intro h; cases h)) (by kernel_rfl) (by kernel_rfl) ?hR ?hstep ?hend
         case hR =>
           simp only [List.mem_cons, List.not_mem_nil, or_false, forall_eq_or_imp, forall_eq]
           exact ⟨fun v _ _ h _ => h, fun v _ _ h _ => h, fun v _ _ h _ => h, fun v _ _ h _ => h, fun v _ _ h he => by obtain ⟨u1, u2, u3, e, z⟩ := h; exact ⟨u1, u2, u3, e, z.ext he⟩, fun v _ _ h he => by obtain ⟨k, u1, u2, u3, e, z, b, c⟩ := h; exact ⟨k, u1, u2, u3, e, z, b.ext he, c.ext he⟩⟩
         case hstep =>
           simp only [List.length_cons, List.length_nil, Nat.reduceAdd, List.take_succ_cons, List.take_zero, stepsAllA, and_true]
           refine ⟨?_, ?_, ?_, ?_, ?_, ?_⟩
           · intro x' W' he f
             have h : x' 5 = .pointer (some ⟨W1.heap.size, 0, none⟩) := f.1
             go_wp
             exact stepQ_ok (r := freshQ _ _ _ _) ⟨rfl, fun h => by simp at h⟩ (Ext.refl _)
           · intro x' W' he f
             have h : x' 57 = .pointer (some ⟨W1.heap.size, 1, none⟩) := f.1
             have hc := (rS.ext he).cell (j := 1) rfl
             go_wp
             exact stepQ_ok (r := freshQ _ _ _ _) ⟨rfl, fun h => by simp at h⟩ (Ext.refl _)
           · intro x' W' he f
             have h : x' 9 = .pointer (some ⟨W.heap.size, 0, none⟩) := f.1
             have c0 := (r9d.ext he).cell (j := 0) rfl
             have c1 := (r9d.ext he).cell (j := 1) rfl
             have c2 := (r9d.ext he).cell (j := 2) rfl
             have c3 := (r9d.ext he).cell (j := 3) rfl
             have c4 := (r9d.ext he).cell (j := 4) rfl
             have c5 := (r9d.ext he).cell (j := 5) rfl
             have c6 := (r9d.ext he).cell (j := 6) rfl
             go_wp
             exact stepQ_ok (r := freshQ _ _ _ _) ⟨rfl, fun h => by simp at h⟩ (Ext.refl _)
           · intro x' W' he f
             have h : x' 10 = .pointer (some ⟨W.heap.size + 1, 0, none⟩) := f.1
             have c0 := (r10d.ext he).cell (j := 0) rfl
             have c1 := (r10d.ext he).cell (j := 1) rfl
             have c2 := (r10d.ext he).cell (j := 2) rfl
             have c3 := (r10d.ext he).cell (j := 3) rfl
             have c4 := (r10d.ext he).cell (j := 4) rfl
             have c5 := (r10d.ext he).cell (j := 5) rfl
             have c6 := (r10d.ext he).cell (j := 6) rfl
             go_wp
             exact stepQ_ok (r := freshQ _ _ _ _) ⟨rfl, fun h => by simp at h⟩ (Ext.refl _)
           · intro x' W' he f
             have h59 : x' 59 = entV noneE (.slice none 0 0) (.slice none 0 0) (.slice none 0 0) := f.1
             have h60 : x' 60 = entV noneE (.slice none 0 0) (.slice none 0 0) (.slice none 0 0) := f.2.1
             have hs := he.size
             have HC := Lib.hid (joinE_any (HAd.out.ext he) (HBd2.out.ext he) hsm1 hsm2)
             rw [← hJ] at HC
             clear hJ
             go_wp
             refine HC.out.mono ?_
             rintro r W6 ⟨u1, u2, u3, rfl, hn, hx2⟩
             dsimp only
             go_wp
             exact stepQ_ok (v := entV J u1 u2 u3) (r := freshQ _ _ _ _) ⟨⟨u1, u2, u3, rfl, hn.lower hs⟩, fun h => by simp at h⟩ hx2
           · intro x' W' he f
             obtain ⟨u1, u2, u3, h, hn⟩ : ∃ u1 u2 u3, x' 61 = entV J u1 u2 u3 ∧ EntNew W' Wd.heap.size J u1 u2 u3 := f.1
             have hs := he.size
             obtain ⟨D1, d1, rfl, -, -⟩ := hn.seen.form
             obtain ⟨D2, d2, rfl, -, -⟩ := hn.counts.form
             obtain ⟨D3, d3, rfl, -, -⟩ := hn.items.form
             have hrow := rowNew W' 37 (entL J (.slice D1 J.seen.length d1) (.slice D2 J.counts.length d2) (.slice D3 J.items.length d3))
             have hxa := (Ext.refl W').alloc (.cells (entL J (.slice D1 J.seen.length d1) (.slice D2 J.counts.length d2) (.slice D3 J.items.length d3)).toArray 37)
             clear hJ
             go_wp
             exact stepQ_ok (v := .slice (some ⟨W'.heap.size, 0, none⟩) 1 1) (r := freshQ _ _ _ _) ⟨⟨W'.heap.size, _, _, _, rfl, hs, hrow, hn.ext hxa⟩, fun h => by simp at h⟩ hxa
         case hend =>
           intro x' W' he hap f
           have h58 : x' 58 = .slice AE pre.length cE := f.2.1
           obtain ⟨k, u1, u2, u3, h62, hk, hrow, hn⟩ : ∃ h u1 u2 u3, x' 62 = .slice (some ⟨h, 0, none⟩) 1 1 ∧ Wd.heap.size ≤ h ∧ RowIs W' h 37 (entL J u1 u2 u3) [] ∧ EntNew W' Wd.heap.size J u1 u2 u3 := f.2.2.2.2.2.1
           clear f hap hJ
           have hs := he.size
           simp only [List.length_cons, List.length_nil, Nat.reduceAdd, List.take_succ_cons, List.take_zero, List.filterMap_cons, List.filterMap_nil, List.drop_succ_cons, List.drop_zero, putAll, Act.put, List.setIfInBounds_toArray, List.set_cons_succ, List.set_cons_zero, h58, h62]
           have hone := entL_one (hn.rd (S := fun _ => True) (fun _ _ _ => trivial))
           have hEl : ∀ b, ownBlk (.slice AE pre.length cE) b → b < Wd.heap.size := fun b hb => (hEd.base_le hb).2
           have hEb : ∀ b, ownBlk (.slice AE pre.length cE) b → W4.heap.size ≤ b := fun b hb => (hEd.base_le hb).1
           obtain ⟨L0, hL0⟩ : ∃ L0, L0 = pre.map (fun k => joinEnt (getE se k) (getE te k)) := ⟨_, rfl⟩
           have hlen : L0.length = pre.length := by rw [hL0, List.length_map]
           have hEd2 := hEd.ext he
           rw [← hL0] at hEd2
           obtain ⟨vss, y1, y2, y3⟩ := hEd2
           rw [hlen] at y3
           have rSe := rS.ext he
           have hnS : ¬ ownBlk (.slice AE pre.length cE) W1.heap.size := fun hb => by have := hEb _ hb; omega
           have HL := Lib.hid (show (pre ++ [x]).map (fun k => joinEnt (getE se k) (getE te k)) = L0 ++ [J] from by rw [List.map_append, ← hL0]; simp only [List.map_cons, List.map_nil, HEd1.out, HEd2.out, HJe.out])
           have HS2 := Lib.hid (show _ ∧ _ from ⟨y1, y2⟩)
           have HNN := Lib.hid hn
           clear y1 y2 hL0 HEd1 HEd2
           refine wpList_append_Own rfl (.tmp 58) (.tmp 62) 27 rfl W4.heap.size 37 7 120 zeroEnt Tryz.underlying27 info_entry rfl (by omega) (.slice AE pre.length cE) pre.length vss.flatten (by simp [go_sem]) y3 (some ⟨k, 0, none⟩) 1 1 (entL J u1 u2 u3) (by simp [go_sem])
             ⟨by simp, hone, fun _ => ⟨k, 0, rfl, fun j u hj => by rw [Nat.zero_add]; exact hrow.cell hj⟩⟩ (by omega) (by omega) (by omega) ?_
           intro v' w' hown hgr
           have hE2 : RowE w' W4.heap.size W1.heap.size v' (L0 ++ [J]) := RowE.snoc HS2.out.1 HS2.out.2 HNN.out hEl hgl (by omega) (by rw [hlen]; exact hown) hgr
           have hF := hE2.form
           rw [show (L0 ++ [J]).length = pre.length + 1 by rw [List.length_append, hlen]; rfl] at hF
           obtain ⟨AF, cF, rfl, -, -⟩ := hF
           have rSw := rSe.keep (hgr.same _ rSe.lt hnS)
           have hc := rSw.cell (j := 1) rfl
           have hf := rSw.frozen 1
           have rS2 := rSw.set (j := 1) (by simp) (.slice AF (pre.length + 1) cF)
           simp only [List.set_cons_succ, List.set_cons_zero] at rS2
           have hO2 := ((HOx.out.ext (hxd.trans he)).grew hgr hEb).set (j := 1) (.slice AF (pre.length + 1) cF)
           have hko := ((hxd.trans he).keepsO.trans (hgr.keeps y3)).trans (KeepsOthers.setCell w' ⟨W1.heap.size, 1, none⟩ (.slice AF (pre.length + 1) cF))
           have hE3 := hE2.set (j := 1) (u := .slice AF (pre.length + 1) cF) rSw (by decide)
           have HF := Lib.hid (show _ ∧ _ ∧ _ ∧ _ from ⟨rS2, hO2, hko, hE3⟩)
           clear rS2 hO2 hko hE3 hE2 hgr hown HS2 HNN hn hrow y3 rSe rSw hEd rS hone r9d r10d HAd HBd2 HBd
           go_wp
           obtain ⟨rS2, hO2, hko, hE3⟩ := HF.out
           exact ⟨hko.from _, HOx.out.kps hO2 hko.size, _, rS2, by rw [HL.out]; exact hE3, hO2⟩
       | some jb =>
         rw [hfb0] at hlk2 hspb
         obtain ⟨preb, mb, postb, hlb, hjb, hkb, hfb⟩ := hspb
         simp only [Option.map_some, Option.getD_some, Option.isSome_some] at hlk2
         obtain ⟨bb, ob, wb1, wb2, wb3, e, eb0, eb1, eb2, eb3, eb4, eb5, eb6, hEBb⟩ := HEB.out preb postb mb hlb
         subst e
         obtain ⟨Cb1, cb1, rfl, -, -⟩ := hEBb.seen.form
         obtain ⟨Cb2, cb2, rfl, -, -⟩ := hEBb.counts.form
         obtain ⟨Cb3, cb3, rfl, -, -⟩ := hEBb.items.form
         have hltb : preb.length < te.length := by rw [hlb]; simp
         have hmb : mb ∈ te := by rw [hlb]; simp
         subst hjb
         have HEd2 := Lib.hid (show getE te x = mb from by unfold getE; rw [hfb]; rfl)
         have hsm2 := SM2.out.each mb hmb
         have sb0 := r10c.cell (j := 0) rfl
         have sb1 := r10c.cell (j := 1) rfl
         have sb2 := r10c.cell (j := 2) rfl
         have sb3 := r10c.cell (j := 3) rfl
         have sb4 := r10c.cell (j := 4) rfl
         have sb5 := r10c.cell (j := 5) rfl
         have sb6 := r10c.cell (j := 6) rfl
         have fb0 := r10c.frozen 0
         have fb1 := r10c.frozen 1
         have fb2 := r10c.frozen 2
         have fb3 := r10c.frozen 3
         have fb4 := r10c.frozen 4
         have fb5 := r10c.frozen 5
         have fb6 := r10c.frozen 6
         have r10d : RowIs ((((((((Wc).setCell ⟨W.heap.size + 1, 0, none⟩ (St mb.key)).setCell ⟨W.heap.size + 1, 1, none⟩ (.slice Cb1 mb.seen.length cb1)).setCell ⟨W.heap.size + 1, 2, none⟩ (.slice Cb2 mb.counts.length cb2)).setCell ⟨W.heap.size + 1, 3, none⟩ (.slice Cb3 mb.items.length cb3)).setCell ⟨W.heap.size + 1, 4, none⟩ (U mb.cell.1)).setCell ⟨W.heap.size + 1, 5, none⟩ (St mb.cell.2.1)).setCell ⟨W.heap.size + 1, 6, none⟩ (.bool mb.cell.2.2)) _ _ _ _ := put7_rowJ (e0 := noneE) (a1 := .slice none 0 0) (a2 := .slice none 0 0) (a3 := .slice none 0 0) (e := mb) (v1 := (.slice Cb1 mb.seen.length cb1)) (v2 := (.slice Cb2 mb.counts.length cb2)) (v3 := (.slice Cb3 mb.items.length cb3)) r10c
         have r9d : RowIs ((((((((Wc).setCell ⟨W.heap.size + 1, 0, none⟩ (St mb.key)).setCell ⟨W.heap.size + 1, 1, none⟩ (.slice Cb1 mb.seen.length cb1)).setCell ⟨W.heap.size + 1, 2, none⟩ (.slice Cb2 mb.counts.length cb2)).setCell ⟨W.heap.size + 1, 3, none⟩ (.slice Cb3 mb.items.length cb3)).setCell ⟨W.heap.size + 1, 4, none⟩ (U mb.cell.1)).setCell ⟨W.heap.size + 1, 5, none⟩ (St mb.cell.2.1)).setCell ⟨W.heap.size + 1, 6, none⟩ (.bool mb.cell.2.2)) _ _ _ _ := r9c.keep (put7_heap _ _ mb (.slice Cb1 mb.seen.length cb1) (.slice Cb2 mb.counts.length cb2) (.slice Cb3 mb.items.length cb3) _ (by omega))
         have hxd : Ext W ((((((((Wc).setCell ⟨W.heap.size + 1, 0, none⟩ (St mb.key)).setCell ⟨W.heap.size + 1, 1, none⟩ (.slice Cb1 mb.seen.length cb1)).setCell ⟨W.heap.size + 1, 2, none⟩ (.slice Cb2 mb.counts.length cb2)).setCell ⟨W.heap.size + 1, 3, none⟩ (.slice Cb3 mb.items.length cb3)).setCell ⟨W.heap.size + 1, 4, none⟩ (U mb.cell.1)).setCell ⟨W.heap.size + 1, 5, none⟩ (St mb.cell.2.1)).setCell ⟨W.heap.size + 1, 6, none⟩ (.bool mb.cell.2.2)) := put7_ext hxc (by omega) mb _ _ _
         have HBd := hEBb
         skip
         have HR9 := Lib.hid (show _ ∧ _ ∧ _ ∧ _ from ⟨r9d, r10d, hxd, HBd⟩)
         clear hlb hkb hfb0 hfb hEBb r9c r10c hxc r9d r10d hxd HBd HEB
         gi_wp2_with fail
         refine HK9.out _ _ ?_
         clear HK9 K9 q7 qb hlk2 eb0 eb1 eb2 eb3 eb4 eb5 eb6 sb0 sb1 sb2 sb3 sb4 sb5 sb6 fb0 fb1 fb2 fb3 fb4 fb5 fb6
         generalize ((((((((Wc).setCell ⟨W.heap.size + 1, 0, none⟩ (St mb.key)).setCell ⟨W.heap.size + 1, 1, none⟩ (.slice Cb1 mb.seen.length cb1)).setCell ⟨W.heap.size + 1, 2, none⟩ (.slice Cb2 mb.counts.length cb2)).setCell ⟨W.heap.size + 1, 3, none⟩ (.slice Cb3 mb.items.length cb3)).setCell ⟨W.heap.size + 1, 4, none⟩ (U mb.cell.1)).setCell ⟨W.heap.size + 1, 5, none⟩ (St mb.cell.2.1)).setCell ⟨W.heap.size + 1, 6, none⟩ (.bool mb.cell.2.2)) = Wd at *
         obtain ⟨r9d, r10d, hxd, HBd⟩ := HR9.out
         clear HR9
         have rS := HSx.out.ext hxd
         have hEd := HEx.out.ext hxd
         have HAd := Lib.hid (HAc.out.ext hxd)
         have HBd2 := Lib.hid (HBd.ext hxd)
         have hgl := rS.lt
         have hxz := hxd.size
         obtain ⟨J, hJ⟩ : ∃ J, J = joinEnt noneE mb := ⟨_, rfl⟩
         have HJe := Lib.hid hJ
         refine wpIn_region_factsA [fun v _ => v = .pointer (some ⟨W1.heap.size, 1, none⟩), fun v _ => v = .slice AE pre.length cE, fun v _ => v = entV noneE (.slice none 0 0) (.slice none 0 0) (.slice none 0 0), fun v _ => v = entV mb (.slice Cb1 mb.seen.length cb1) (.slice Cb2 mb.counts.length cb2) (.slice Cb3 mb.items.length cb3),
           fun v W' => ∃ u1 u2 u3, v = entV J u1 u2 u3 ∧ EntNew W' Wd.heap.size J u1 u2 u3, fun v W' => ∃ h u1 u2 u3, v = .slice (some ⟨h, 0, none⟩) 1 1 ∧ Wd.heap.size ≤ h ∧ RowIs W' h 37 (entL J u1 u2 u3) [] ∧ EntNew W' Wd.heap.size J u1 u2 u3] []
           rfl (by rintro ⟨a, w, h⟩; exact h) (by intro o ho c; simp only [List.mem_cons, List.not_mem_nil, or_false] at ho; rcases ho with rfl | rfl | rfl | rfl | rfl | rfl | rfl | rfl | rfl <;> (intro h; cases h)) (by kernel_rfl) (by kernel_rfl) ?hR ?hstep ?hend
         case hR =>
           simp only [List.mem_cons, List.not_mem_nil, or_false, forall_eq_or_imp, forall_eq]
           exact ⟨fun v _ _ h _ => h, fun v _ _ h _ => h, fun v _ _ h _ => h, fun v _ _ h _ => h, fun v _ _ h he => by obtain ⟨u1, u2, u3, e, z⟩ := h; exact ⟨u1, u2, u3, e, z.ext he⟩, fun v _ _ h he => by obtain ⟨k, u1, u2, u3, e, z, b, c⟩ := h; exact ⟨k, u1, u2, u3, e, z, b.ext he, c.ext he⟩⟩
         case hstep =>
           simp only [List.length_cons, List.length_nil, Nat.reduceAdd, List.take_succ_cons, List.take_zero, stepsAllA, and_true]
           refine ⟨?_, ?_, ?_, ?_, ?_, ?_⟩
           · intro x' W' he f
             have h : x' 5 = .pointer (some ⟨W1.heap.size, 0, none⟩) := f.1
             go_wp
             exact stepQ_ok (r := freshQ _ _ _ _) ⟨rfl, fun h => by simp at h⟩ (Ext.refl _)
           · intro x' W' he f
             have h : x' 57 = .pointer (some ⟨W1.heap.size, 1, none⟩) := f.1
             have hc := (rS.ext he).cell (j := 1) rfl
             go_wp
             exact stepQ_ok (r := freshQ _ _ _ _) ⟨rfl, fun h => by simp at h⟩ (Ext.refl _)
           · intro x' W' he f
             have h : x' 9 = .pointer (some ⟨W.heap.size, 0, none⟩) := f.1
             have c0 := (r9d.ext he).cell (j := 0) rfl
             have c1 := (r9d.ext he).cell (j := 1) rfl
             have c2 := (r9d.ext he).cell (j := 2) rfl
             have c3 := (r9d.ext he).cell (j := 3) rfl
             have c4 := (r9d.ext he).cell (j := 4) rfl
             have c5 := (r9d.ext he).cell (j := 5) rfl
             have c6 := (r9d.ext he).cell (j := 6) rfl
             go_wp
             exact stepQ_ok (r := freshQ _ _ _ _) ⟨rfl, fun h => by simp at h⟩ (Ext.refl _)
           · intro x' W' he f
             have h : x' 10 = .pointer (some ⟨W.heap.size + 1, 0, none⟩) := f.1
             have c0 := (r10d.ext he).cell (j := 0) rfl
             have c1 := (r10d.ext he).cell (j := 1) rfl
             have c2 := (r10d.ext he).cell (j := 2) rfl
             have c3 := (r10d.ext he).cell (j := 3) rfl
             have c4 := (r10d.ext he).cell (j := 4) rfl
             have c5 := (r10d.ext he).cell (j := 5) rfl
             have c6 := (r10d.ext he).cell (j := 6) rfl
             go_wp
             exact stepQ_ok (r := freshQ _ _ _ _) ⟨rfl, fun h => by simp at h⟩ (Ext.refl _)
           · intro x' W' he f
             have h59 : x' 59 = entV noneE (.slice none 0 0) (.slice none 0 0) (.slice none 0 0) := f.1
             have h60 : x' 60 = entV mb (.slice Cb1 mb.seen.length cb1) (.slice Cb2 mb.counts.length cb2) (.slice Cb3 mb.items.length cb3) := f.2.1
             have hs := he.size
             have HC := Lib.hid (joinE_any (HAd.out.ext he) (HBd2.out.ext he) hsm1 hsm2)
             rw [← hJ] at HC
             clear hJ
             go_wp
             refine HC.out.mono ?_
             rintro r W6 ⟨u1, u2, u3, rfl, hn, hx2⟩
             dsimp only
             go_wp
             exact stepQ_ok (v := entV J u1 u2 u3) (r := freshQ _ _ _ _) ⟨⟨u1, u2, u3, rfl, hn.lower hs⟩, fun h => by simp at h⟩ hx2
           · intro x' W' he f
             obtain ⟨u1, u2, u3, h, hn⟩ : ∃ u1 u2 u3, x' 61 = entV J u1 u2 u3 ∧ EntNew W' Wd.heap.size J u1 u2 u3 := f.1
             have hs := he.size
             obtain ⟨D1, d1, rfl, -, -⟩ := hn.seen.form
             obtain ⟨D2, d2, rfl, -, -⟩ := hn.counts.form
             obtain ⟨D3, d3, rfl, -, -⟩ := hn.items.form
             have hrow := rowNew W' 37 (entL J (.slice D1 J.seen.length d1) (.slice D2 J.counts.length d2) (.slice D3 J.items.length d3))
             have hxa := (Ext.refl W').alloc (.cells (entL J (.slice D1 J.seen.length d1) (.slice D2 J.counts.length d2) (.slice D3 J.items.length d3)).toArray 37)
             clear hJ
             go_wp
             exact stepQ_ok (v := .slice (some ⟨W'.heap.size, 0, none⟩) 1 1) (r := freshQ _ _ _ _) ⟨⟨W'.heap.size, _, _, _, rfl, hs, hrow, hn.ext hxa⟩, fun h => by simp at h⟩ hxa
         case hend =>
           intro x' W' he hap f
           have h58 : x' 58 = .slice AE pre.length cE := f.2.1
           obtain ⟨k, u1, u2, u3, h62, hk, hrow, hn⟩ : ∃ h u1 u2 u3, x' 62 = .slice (some ⟨h, 0, none⟩) 1 1 ∧ Wd.heap.size ≤ h ∧ RowIs W' h 37 (entL J u1 u2 u3) [] ∧ EntNew W' Wd.heap.size J u1 u2 u3 := f.2.2.2.2.2.1
           clear f hap hJ
           have hs := he.size
           simp only [List.length_cons, List.length_nil, Nat.reduceAdd, List.take_succ_cons, List.take_zero, List.filterMap_cons, List.filterMap_nil, List.drop_succ_cons, List.drop_zero, putAll, Act.put, List.setIfInBounds_toArray, List.set_cons_succ, List.set_cons_zero, h58, h62]
           have hone := entL_one (hn.rd (S := fun _ => True) (fun _ _ _ => trivial))
           have hEl : ∀ b, ownBlk (.slice AE pre.length cE) b → b < Wd.heap.size := fun b hb => (hEd.base_le hb).2
           have hEb : ∀ b, ownBlk (.slice AE pre.length cE) b → W4.heap.size ≤ b := fun b hb => (hEd.base_le hb).1
           obtain ⟨L0, hL0⟩ : ∃ L0, L0 = pre.map (fun k => joinEnt (getE se k) (getE te k)) := ⟨_, rfl⟩
           have hlen : L0.length = pre.length := by rw [hL0, List.length_map]
           have hEd2 := hEd.ext he
           rw [← hL0] at hEd2
           obtain ⟨vss, y1, y2, y3⟩ := hEd2
           rw [hlen] at y3
           have rSe := rS.ext he
           have hnS : ¬ ownBlk (.slice AE pre.length cE) W1.heap.size := fun hb => by have := hEb _ hb; omega
           have HL := Lib.hid (show (pre ++ [x]).map (fun k => joinEnt (getE se k) (getE te k)) = L0 ++ [J] from by rw [List.map_append, ← hL0]; simp only [List.map_cons, List.map_nil, HEd1.out, HEd2.out, HJe.out])
           have HS2 := Lib.hid (show _ ∧ _ from ⟨y1, y2⟩)
           have HNN := Lib.hid hn
           clear y1 y2 hL0 HEd1 HEd2
           refine wpList_append_Own rfl (.tmp 58) (.tmp 62) 27 rfl W4.heap.size 37 7 120 zeroEnt Tryz.underlying27 info_entry rfl (by omega) (.slice AE pre.length cE) pre.length vss.flatten (by simp [go_sem]) y3 (some ⟨k, 0, none⟩) 1 1 (entL J u1 u2 u3) (by simp [go_sem])
             ⟨by simp, hone, fun _ => ⟨k, 0, rfl, fun j u hj => by rw [Nat.zero_add]; exact hrow.cell hj⟩⟩ (by omega) (by omega) (by omega) ?_
           intro v' w' hown hgr
           have hE2 : RowE w' W4.heap.size W1.heap.size v' (L0 ++ [J]) := RowE.snoc HS2.out.1 HS2.out.2 HNN.out hEl hgl (by omega) (by rw [hlen]; exact hown) hgr
           have hF := hE2.form
           rw [show (L0 ++ [J]).length = pre.length + 1 by rw [List.length_append, hlen]; rfl] at hF
           obtain ⟨AF, cF, rfl, -, -⟩ := hF
           have rSw := rSe.keep (hgr.same _ rSe.lt hnS)
           have hc := rSw.cell (j := 1) rfl
           have hf := rSw.frozen 1
           have rS2 := rSw.set (j := 1) (by simp) (.slice AF (pre.length + 1) cF)
           simp only [List.set_cons_succ, List.set_cons_zero] at rS2
           have hO2 := ((HOx.out.ext (hxd.trans he)).grew hgr hEb).set (j := 1) (.slice AF (pre.length + 1) cF)
           have hko := ((hxd.trans he).keepsO.trans (hgr.keeps y3)).trans (KeepsOthers.setCell w' ⟨W1.heap.size, 1, none⟩ (.slice AF (pre.length + 1) cF))
           have hE3 := hE2.set (j := 1) (u := .slice AF (pre.length + 1) cF) rSw (by decide)
           have HF := Lib.hid (show _ ∧ _ ∧ _ ∧ _ from ⟨rS2, hO2, hko, hE3⟩)
           clear rS2 hO2 hko hE3 hE2 hgr hown HS2 HNN hn hrow y3 rSe rSw hEd rS hone r9d r10d HAd HBd2 HBd
           go_wp
           obtain ⟨rS2, hO2, hko, hE3⟩ := HF.out
           exact ⟨hko.from _, HOx.out.kps hO2 hko.size, _, rS2, by rw [HL.out]; exact hE3, hO2⟩
     | some ja =>
       rw [hfa0] at hlk1 hspa
       obtain ⟨prea, ma, posta, hla, hja, hka, hfa⟩ := hspa
       simp only [Option.map_some, Option.getD_some, Option.isSome_some] at hlk1
       obtain ⟨ba, oa, wa1, wa2, wa3, e, ea0, ea1, ea2, ea3, ea4, ea5, ea6, hEAa⟩ := HEA.out prea posta ma hla
       subst e
       obtain ⟨Ca1, ca1, rfl, -, -⟩ := hEAa.seen.form
       obtain ⟨Ca2, ca2, rfl, -, -⟩ := hEAa.counts.form
       obtain ⟨Ca3, ca3, rfl, -, -⟩ := hEAa.items.form
       have hlta : prea.length < se.length := by rw [hla]; simp
       have hma : ma ∈ se := by rw [hla]; simp
       subst hja
       have HEd1 := Lib.hid (show getE se x = ma from by unfold getE; rw [hfa]; rfl)
       have hsm1 := SM1.out.each ma hma
       have sa0 := r9.cell (j := 0) rfl
       have sa1 := r9.cell (j := 1) rfl
       have sa2 := r9.cell (j := 2) rfl
       have sa3 := r9.cell (j := 3) rfl
       have sa4 := r9.cell (j := 4) rfl
       have sa5 := r9.cell (j := 5) rfl
       have sa6 := r9.cell (j := 6) rfl
       have fa0 := r9.frozen 0
       have fa1 := r9.frozen 1
       have fa2 := r9.frozen 2
       have fa3 := r9.frozen 3
       have fa4 := r9.frozen 4
       have fa5 := r9.frozen 5
       have fa6 := r9.frozen 6
       have r9c : RowIs ((((((((Wb).setCell ⟨W.heap.size, 0, none⟩ (St ma.key)).setCell ⟨W.heap.size, 1, none⟩ (.slice Ca1 ma.seen.length ca1)).setCell ⟨W.heap.size, 2, none⟩ (.slice Ca2 ma.counts.length ca2)).setCell ⟨W.heap.size, 3, none⟩ (.slice Ca3 ma.items.length ca3)).setCell ⟨W.heap.size, 4, none⟩ (U ma.cell.1)).setCell ⟨W.heap.size, 5, none⟩ (St ma.cell.2.1)).setCell ⟨W.heap.size, 6, none⟩ (.bool ma.cell.2.2)) _ _ _ _ := put7_rowJ (e0 := noneE) (a1 := .slice none 0 0) (a2 := .slice none 0 0) (a3 := .slice none 0 0) (e := ma) (v1 := (.slice Ca1 ma.seen.length ca1)) (v2 := (.slice Ca2 ma.counts.length ca2)) (v3 := (.slice Ca3 ma.items.length ca3)) r9
       have r10c : RowIs ((((((((Wb).setCell ⟨W.heap.size, 0, none⟩ (St ma.key)).setCell ⟨W.heap.size, 1, none⟩ (.slice Ca1 ma.seen.length ca1)).setCell ⟨W.heap.size, 2, none⟩ (.slice Ca2 ma.counts.length ca2)).setCell ⟨W.heap.size, 3, none⟩ (.slice Ca3 ma.items.length ca3)).setCell ⟨W.heap.size, 4, none⟩ (U ma.cell.1)).setCell ⟨W.heap.size, 5, none⟩ (St ma.cell.2.1)).setCell ⟨W.heap.size, 6, none⟩ (.bool ma.cell.2.2)) _ _ _ _ := r10.keep (put7_heap _ _ ma (.slice Ca1 ma.seen.length ca1) (.slice Ca2 ma.counts.length ca2) (.slice Ca3 ma.items.length ca3) _ (by omega))
       have hxc : Ext W ((((((((Wb).setCell ⟨W.heap.size, 0, none⟩ (St ma.key)).setCell ⟨W.heap.size, 1, none⟩ (.slice Ca1 ma.seen.length ca1)).setCell ⟨W.heap.size, 2, none⟩ (.slice Ca2 ma.counts.length ca2)).setCell ⟨W.heap.size, 3, none⟩ (.slice Ca3 ma.items.length ca3)).setCell ⟨W.heap.size, 4, none⟩ (U ma.cell.1)).setCell ⟨W.heap.size, 5, none⟩ (St ma.cell.2.1)).setCell ⟨W.heap.size, 6, none⟩ (.bool ma.cell.2.2)) := put7_ext hxb (by omega) ma _ _ _
       have HAc := Lib.hid hEAa
       have HR6 := Lib.hid (show _ ∧ _ ∧ _ from ⟨r9c, r10c, hxc⟩)
       clear hla hka hfa0 hfa hEAa r9c r10c hxc r9 r10 HEA
       gi_wp2_with fail
       refine HK6.out _ _ ?_
       clear HK6 K6 q6 qa hlk1 ea0 ea1 ea2 ea3 ea4 ea5 ea6 sa0 sa1 sa2 sa3 sa4 sa5 sa6 fa0 fa1 fa2 fa3 fa4 fa5 fa6
       generalize ((((((((Wb).setCell ⟨W.heap.size, 0, none⟩ (St ma.key)).setCell ⟨W.heap.size, 1, none⟩ (.slice Ca1 ma.seen.length ca1)).setCell ⟨W.heap.size, 2, none⟩ (.slice Ca2 ma.counts.length ca2)).setCell ⟨W.heap.size, 3, none⟩ (.slice Ca3 ma.items.length ca3)).setCell ⟨W.heap.size, 4, none⟩ (U ma.cell.1)).setCell ⟨W.heap.size, 5, none⟩ (St ma.cell.2.1)).setCell ⟨W.heap.size, 6, none⟩ (.bool ma.cell.2.2)) = Wc at *
       obtain ⟨r9c, r10c, hxc⟩ := HR6.out
       clear HR6
       refine wpIn_seq_k ?_
       intro K9 hK9
       have HK9 := Lib.hid hK9
       clear hK9
       have q7 := (HR.out.2.1.ext hxc).cell (j := 0) rfl
       have qb := (HR.out.2.2.2.1.ext hxc).cell (j := 1) rfl
       have hlk2 := (run_lookup_MapIs (P := Tryz.prog) (z := 0) Tryz.underlying112 keyOkS zeroI (HR.out.2.2.2.2.2.ext hxc) x).2
       rw [lookL_mem, show ∀ L : List (Str × Int), getL 0 L x = (lookL L x).getD 0 from fun _ => rfl, plF_lookup te 0 [] x] at hlk2
       simp only [show lookL ([] : List (Str × Int)) x = none from rfl, Nat.zero_add] at hlk2
       have HEB := Lib.hid (fun (pre post : List Entry) (m : Entry) (hl : te = pre ++ m :: post) => entry_at EB hxc hl)
       clear EB
       cases hfb0 : te.findIdx? (fun e => decide (e.key = x)) with
       | none =>
         rw [hfb0] at hlk2 hspb
         simp only at hspb
         simp only [Option.map_none, Option.getD_none, Option.isSome_none] at hlk2
         have HEd2 := Lib.hid (show getE te x = noneE from by unfold getE; rw [hspb]; rfl)
         clear hspb hfb0
         gi_wp2_with fail
         refine HK9.out _ _ ?_
         clear HK9 K9 q7 qb hlk2 HEB
         have HBd := EntAt.none W (fun b => b < w.heap.size) none none none
         have hsm2 := small_none
         have r10d := r10c
         have r9d := r9c
         have hxd := hxc
         clear r9c r10c hxc
         obtain ⟨Wd, rfl⟩ : ∃ Wd, Wd = Wc := ⟨_, rfl⟩
         have rS := HSx.out.ext hxd
         have hEd := HEx.out.ext hxd
         have HAd := Lib.hid (HAc.out.ext hxd)
         have HBd2 := Lib.hid (HBd.ext hxd)
         have hgl := rS.lt
         have hxz := hxd.size
         obtain ⟨J, hJ⟩ : ∃ J, J = joinEnt ma noneE := ⟨_, rfl⟩
         have HJe := Lib.hid hJ
         refine wpIn_region_factsA [fun v _ => v = .pointer (some ⟨W1.heap.size, 1, none⟩), fun v _ => v = .slice AE pre.length cE, fun v _ => v = entV ma (.slice Ca1 ma.seen.length ca1) (.slice Ca2 ma.counts.length ca2) (.slice Ca3 ma.items.length ca3), fun v _ => v = entV noneE (.slice none 0 0) (.slice none 0 0) (.slice none 0 0),
           fun v W' => ∃ u1 u2 u3, v = entV J u1 u2 u3 ∧ EntNew W' Wd.heap.size J u1 u2 u3, fun v W' => ∃ h u1 u2 u3, v = .slice (some ⟨h, 0, none⟩) 1 1 ∧ Wd.heap.size ≤ h ∧ RowIs W' h 37 (entL J u1 u2 u3) [] ∧ EntNew W' Wd.heap.size J u1 u2 u3] []
           rfl (by rintro ⟨a, w, h⟩; exact h) (by intro o ho c; simp only [List.mem_cons, List.not_mem_nil, or_false] at ho; rcases ho with rfl | rfl | rfl | rfl | rfl | rfl | rfl | rfl | rfl <;> (intro h; cases h)) (by kernel_rfl) (by kernel_rfl) ?hR ?hstep ?hend
         case hR =>
           simp only [List.mem_cons, List.not_mem_nil, or_false, forall_eq_or_imp, forall_eq]
           exact ⟨fun v _ _ h _ => h, fun v _ _ h _ => h, fun v _ _ h _ => h, fun v _ _ h _ => h, fun v _ _ h he => by obtain ⟨u1, u2, u3, e, z⟩ := h; exact ⟨u1, u2, u3, e, z.ext he⟩, fun v _ _ h he => by obtain ⟨k, u1, u2, u3, e, z, b, c⟩ := h; exact ⟨k, u1, u2, u3, e, z, b.ext he, c.ext he⟩⟩
         case hstep =>
           simp only [List.length_cons, List.length_nil, Nat.reduceAdd, List.take_succ_cons, List.take_zero, stepsAllA, and_true]
           refine ⟨?_, ?_, ?_, ?_, ?_, ?_⟩
           · intro x' W' he f
             have h : x' 5 = .pointer (some ⟨W1.heap.size, 0, none⟩) := f.1
             go_wp
             exact stepQ_ok (r := freshQ _ _ _ _) ⟨rfl, fun h => by simp at h⟩ (Ext.refl _)
           · intro x' W' he f
             have h : x' 57 = .pointer (some ⟨W1.heap.size, 1, none⟩) := f.1
             have hc := (rS.ext he).cell (j := 1) rfl
             go_wp
             exact stepQ_ok (r := freshQ _ _ _ _) ⟨rfl, fun h => by simp at h⟩ (Ext.refl _)
           · intro x' W' he f
             have h : x' 9 = .pointer (some ⟨W.heap.size, 0, none⟩) := f.1
             have c0 := (r9d.ext he).cell (j := 0) rfl
             have c1 := (r9d.ext he).cell (j := 1) rfl
             have c2 := (r9d.ext he).cell (j := 2) rfl
             have c3 := (r9d.ext he).cell (j := 3) rfl
             have c4 := (r9d.ext he).cell (j := 4) rfl
             have c5 := (r9d.ext he).cell (j := 5) rfl
             have c6 := (r9d.ext he).cell (j := 6) rfl
             go_wp
             exact stepQ_ok (r := freshQ _ _ _ _) ⟨rfl, fun h => by simp at h⟩ (Ext.refl _)
           · intro x' W' he f
             have h : x' 10 = .pointer (some ⟨W.heap.size + 1, 0, none⟩) := f.1
             have c0 := (r10d.ext he).cell (j := 0) rfl
             have c1 := (r10d.ext he).cell (j := 1) rfl
             have c2 := (r10d.ext he).cell (j := 2) rfl
             have c3 := (r10d.ext he).cell (j := 3) rfl
             have c4 := (r10d.ext he).cell (j := 4) rfl
             have c5 := (r10d.ext he).cell (j := 5) rfl
             have c6 := (r10d.ext he).cell (j := 6) rfl
             go_wp
             exact stepQ_ok (r := freshQ _ _ _ _) ⟨rfl, fun h => by simp at h⟩ (Ext.refl _)
           · intro x' W' he f
             have h59 : x' 59 = entV ma (.slice Ca1 ma.seen.length ca1) (.slice Ca2 ma.counts.length ca2) (.slice Ca3 ma.items.length ca3) := f.1
             have h60 : x' 60 = entV noneE (.slice none 0 0) (.slice none 0 0) (.slice none 0 0) := f.2.1
             have hs := he.size
             have HC := Lib.hid (joinE_any (HAd.out.ext he) (HBd2.out.ext he) hsm1 hsm2)
             rw [← hJ] at HC
             clear hJ
             go_wp
             refine HC.out.mono ?_
             rintro r W6 ⟨u1, u2, u3, rfl, hn, hx2⟩
             dsimp only
             go_wp
             exact stepQ_ok (v := entV J u1 u2 u3) (r := freshQ _ _ _ _) ⟨⟨u1, u2, u3, rfl, hn.lower hs⟩, fun h => by simp at h⟩ hx2
           · intro x' W' he f
             obtain ⟨u1, u2, u3, h, hn⟩ : ∃ u1 u2 u3, x' 61 = entV J u1 u2 u3 ∧ EntNew W' Wd.heap.size J u1 u2 u3 := f.1
             have hs := he.size
             obtain ⟨D1, d1, rfl, -, -⟩ := hn.seen.form
             obtain ⟨D2, d2, rfl, -, -⟩ := hn.counts.form
             obtain ⟨D3, d3, rfl, -, -⟩ := hn.items.form
             have hrow := rowNew W' 37 (entL J (.slice D1 J.seen.length d1) (.slice D2 J.counts.length d2) (.slice D3 J.items.length d3))
             have hxa := (Ext.refl W').alloc (.cells (entL J (.slice D1 J.seen.length d1) (.slice D2 J.counts.length d2) (.slice D3 J.items.length d3)).toArray 37)
             clear hJ
             go_wp
             exact stepQ_ok (v := .slice (some ⟨W'.heap.size, 0, none⟩) 1 1) (r := freshQ _ _ _ _) ⟨⟨W'.heap.size, _, _, _, rfl, hs, hrow, hn.ext hxa⟩, fun h => by simp at h⟩ hxa
         case hend =>
           intro x' W' he hap f
           have h58 : x' 58 = .slice AE pre.length cE := f.2.1
           obtain ⟨k, u1, u2, u3, h62, hk, hrow, hn⟩ : ∃ h u1 u2 u3, x' 62 = .slice (some ⟨h, 0, none⟩) 1 1 ∧ Wd.heap.size ≤ h ∧ RowIs W' h 37 (entL J u1 u2 u3) [] ∧ EntNew W' Wd.heap.size J u1 u2 u3 := f.2.2.2.2.2.1
           clear f hap hJ
           have hs := he.size
           simp only [List.length_cons, List.length_nil, Nat.reduceAdd, List.take_succ_cons, List.take_zero, List.filterMap_cons, List.filterMap_nil, List.drop_succ_cons, List.drop_zero, putAll, Act.put, List.setIfInBounds_toArray, List.set_cons_succ, List.set_cons_zero, h58, h62]
           have hone := entL_one (hn.rd (S := fun _ => True) (fun _ _ _ => trivial))
           have hEl : ∀ b, ownBlk (.slice AE pre.length cE) b → b < Wd.heap.size := fun b hb => (hEd.base_le hb).2
           have hEb : ∀ b, ownBlk (.slice AE pre.length cE) b → W4.heap.size ≤ b := fun b hb => (hEd.base_le hb).1
           obtain ⟨L0, hL0⟩ : ∃ L0, L0 = pre.map (fun k => joinEnt (getE se k) (getE te k)) := ⟨_, rfl⟩
           have hlen : L0.length = pre.length := by rw [hL0, List.length_map]
           have hEd2 := hEd.ext he
           rw [← hL0] at hEd2
           obtain ⟨vss, y1, y2, y3⟩ := hEd2
           rw [hlen] at y3
           have rSe := rS.ext he
           have hnS : ¬ ownBlk (.slice AE pre.length cE) W1.heap.size := fun hb => by have := hEb _ hb; omega
           have HL := Lib.hid (show (pre ++ [x]).map (fun k => joinEnt (getE se k) (getE te k)) = L0 ++ [J] from by rw [List.map_append, ← hL0]; simp only [List.map_cons, List.map_nil, HEd1.out, HEd2.out, HJe.out])
           have HS2 := Lib.hid (show _ ∧ _ from ⟨y1, y2⟩)
           have HNN := Lib.hid hn
           clear y1 y2 hL0 HEd1 HEd2
           refine wpList_append_Own rfl (.tmp 58) (.tmp 62) 27 rfl W4.heap.size 37 7 120 zeroEnt Tryz.underlying27 info_entry rfl (by omega) (.slice AE pre.length cE) pre.length vss.flatten (by simp [go_sem]) y3 (some ⟨k, 0, none⟩) 1 1 (entL J u1 u2 u3) (by simp [go_sem])
             ⟨by simp, hone, fun _ => ⟨k, 0, rfl, fun j u hj => by rw [Nat.zero_add]; exact hrow.cell hj⟩⟩ (by omega) (by omega) (by omega) ?_
           intro v' w' hown hgr
           have hE2 : RowE w' W4.heap.size W1.heap.size v' (L0 ++ [J]) := RowE.snoc HS2.out.1 HS2.out.2 HNN.out hEl hgl (by omega) (by rw [hlen]; exact hown) hgr
           have hF := hE2.form
           rw [show (L0 ++ [J]).length = pre.length + 1 by rw [List.length_append, hlen]; rfl] at hF
           obtain ⟨AF, cF, rfl, -, -⟩ := hF
           have rSw := rSe.keep (hgr.same _ rSe.lt hnS)
           have hc := rSw.cell (j := 1) rfl
           have hf := rSw.frozen 1
           have rS2 := rSw.set (j := 1) (by simp) (.slice AF (pre.length + 1) cF)
           simp only [List.set_cons_succ, List.set_cons_zero] at rS2
           have hO2 := ((HOx.out.ext (hxd.trans he)).grew hgr hEb).set (j := 1) (.slice AF (pre.length + 1) cF)
           have hko := ((hxd.trans he).keepsO.trans (hgr.keeps y3)).trans (KeepsOthers.setCell w' ⟨W1.heap.size, 1, none⟩ (.slice AF (pre.length + 1) cF))
           have hE3 := hE2.set (j := 1) (u := .slice AF (pre.length + 1) cF) rSw (by decide)
           have HF := Lib.hid (show _ ∧ _ ∧ _ ∧ _ from ⟨rS2, hO2, hko, hE3⟩)
           clear rS2 hO2 hko hE3 hE2 hgr hown HS2 HNN hn hrow y3 rSe rSw hEd rS hone r9d r10d HAd HBd2 HBd
           go_wp
           obtain ⟨rS2, hO2, hko, hE3⟩ := HF.out
           exact ⟨hko.from _, HOx.out.kps hO2 hko.size, _, rS2, by rw [HL.out]; exact hE3, hO2⟩
       | some jb =>
         rw [hfb0] at hlk2 hspb
         obtain ⟨preb, mb, postb, hlb, hjb, hkb, hfb⟩ := hspb
         simp only [Option.map_some, Option.getD_some, Option.isSome_some] at hlk2
         obtain ⟨bb, ob, wb1, wb2, wb3, e, eb0, eb1, eb2, eb3, eb4, eb5, eb6, hEBb⟩ := HEB.out preb postb mb hlb
         subst e
         obtain ⟨Cb1, cb1, rfl, -, -⟩ := hEBb.seen.form
         obtain ⟨Cb2, cb2, rfl, -, -⟩ := hEBb.counts.form
         obtain ⟨Cb3, cb3, rfl, -, -⟩ := hEBb.items.form
         have hltb : preb.length < te.length := by rw [hlb]; simp
         have hmb : mb ∈ te := by rw [hlb]; simp
         subst hjb
         have HEd2 := Lib.hid (show getE te x = mb from by unfold getE; rw [hfb]; rfl)
         have hsm2 := SM2.out.each mb hmb
         have sb0 := r10c.cell (j := 0) rfl
         have sb1 := r10c.cell (j := 1) rfl
         have sb2 := r10c.cell (j := 2) rfl
         have sb3 := r10c.cell (j := 3) rfl
         have sb4 := r10c.cell (j := 4) rfl
         have sb5 := r10c.cell (j := 5) rfl
         have sb6 := r10c.cell (j := 6) rfl
         have fb0 := r10c.frozen 0
         have fb1 := r10c.frozen 1
         have fb2 := r10c.frozen 2
         have fb3 := r10c.frozen 3
         have fb4 := r10c.frozen 4
         have fb5 := r10c.frozen 5
         have fb6 := r10c.frozen 6
         have r10d : RowIs ((((((((Wc).setCell ⟨W.heap.size + 1, 0, none⟩ (St mb.key)).setCell ⟨W.heap.size + 1, 1, none⟩ (.slice Cb1 mb.seen.length cb1)).setCell ⟨W.heap.size + 1, 2, none⟩ (.slice Cb2 mb.counts.length cb2)).setCell ⟨W.heap.size + 1, 3, none⟩ (.slice Cb3 mb.items.length cb3)).setCell ⟨W.heap.size + 1, 4, none⟩ (U mb.cell.1)).setCell ⟨W.heap.size + 1, 5, none⟩ (St mb.cell.2.1)).setCell ⟨W.heap.size + 1, 6, none⟩ (.bool mb.cell.2.2)) _ _ _ _ := put7_rowJ (e0 := noneE) (a1 := .slice none 0 0) (a2 := .slice none 0 0) (a3 := .slice none 0 0) (e := mb) (v1 := (.slice Cb1 mb.seen.length cb1)) (v2 := (.slice Cb2 mb.counts.length cb2)) (v3 := (.slice Cb3 mb.items.length cb3)) r10c
         have r9d : RowIs ((((((((Wc).setCell ⟨W.heap.size + 1, 0, none⟩ (St mb.key)).setCell ⟨W.heap.size + 1, 1, none⟩ (.slice Cb1 mb.seen.length cb1)).setCell ⟨W.heap.size + 1, 2, none⟩ (.slice Cb2 mb.counts.length cb2)).setCell ⟨W.heap.size + 1, 3, none⟩ (.slice Cb3 mb.items.length cb3)).setCell ⟨W.heap.size + 1, 4, none⟩ (U mb.cell.1)).setCell ⟨W.heap.size + 1, 5, none⟩ (St mb.cell.2.1)).setCell ⟨W.heap.size + 1, 6, none⟩ (.bool mb.cell.2.2)) _ _ _ _ := r9c.keep (put7_heap _ _ mb (.slice Cb1 mb.seen.length cb1) (.slice Cb2 mb.counts.length cb2) (.slice Cb3 mb.items.length cb3) _ (by omega))
         have hxd : Ext W ((((((((Wc).setCell ⟨W.heap.size + 1, 0, none⟩ (St mb.key)).setCell ⟨W.heap.size + 1, 1, none⟩ (.slice Cb1 mb.seen.length cb1)).setCell ⟨W.heap.size + 1, 2, none⟩ (.slice Cb2 mb.counts.length cb2)).setCell ⟨W.heap.size + 1, 3, none⟩ (.slice Cb3 mb.items.length cb3)).setCell ⟨W.heap.size + 1, 4, none⟩ (U mb.cell.1)).setCell ⟨W.heap.size + 1, 5, none⟩ (St mb.cell.2.1)).setCell ⟨W.heap.size + 1, 6, none⟩ (.bool mb.cell.2.2)) := put7_ext hxc (by omega) mb _ _ _
         have HBd := hEBb
         skip
         have HR9 := Lib.hid (show _ ∧ _ ∧ _ ∧ _ from ⟨r9d, r10d, hxd, HBd⟩)
         clear hlb hkb hfb0 hfb hEBb r9c r10c hxc r9d r10d hxd HBd HEB
         gi_wp2_with fail
         refine HK9.out _ _ ?_
         clear HK9 K9 q7 qb hlk2 eb0 eb1 eb2 eb3 eb4 eb5 eb6 sb0 sb1 sb2 sb3 sb4 sb5 sb6 fb0 fb1 fb2 fb3 fb4 fb5 fb6
         generalize ((((((((Wc).setCell ⟨W.heap.size + 1, 0, none⟩ (St mb.key)).setCell ⟨W.heap.size + 1, 1, none⟩ (.slice Cb1 mb.seen.length cb1)).setCell ⟨W.heap.size + 1, 2, none⟩ (.slice Cb2 mb.counts.length cb2)).setCell ⟨W.heap.size + 1, 3, none⟩ (.slice Cb3 mb.items.length cb3)).setCell ⟨W.heap.size + 1, 4, none⟩ (U mb.cell.1)).setCell ⟨W.heap.size + 1, 5, none⟩ (St mb.cell.2.1)).setCell ⟨W.heap.size + 1, 6, none⟩ (.bool mb.cell.2.2)) = Wd at *
         obtain ⟨r9d, r10d, hxd, HBd⟩ := HR9.out
         clear HR9
         have rS := HSx.out.ext hxd
         have hEd := HEx.out.ext hxd
         have HAd := Lib.hid (HAc.out.ext hxd)
         have HBd2 := Lib.hid (HBd.ext hxd)
         have hgl := rS.lt
         have hxz := hxd.size
         obtain ⟨J, hJ⟩ : ∃ J, J = joinEnt ma mb := ⟨_, rfl⟩
         have HJe := Lib.hid hJ
         refine wpIn_region_factsA [fun v _ => v = .pointer (some ⟨W1.heap.size, 1, none⟩), fun v _ => v = .slice AE pre.length cE, fun v _ => v = entV ma (.slice Ca1 ma.seen.length ca1) (.slice Ca2 ma.counts.length ca2) (.slice Ca3 ma.items.length ca3), fun v _ => v = entV mb (.slice Cb1 mb.seen.length cb1) (.slice Cb2 mb.counts.length cb2) (.slice Cb3 mb.items.length cb3),
           fun v W' => ∃ u1 u2 u3, v = entV J u1 u2 u3 ∧ EntNew W' Wd.heap.size J u1 u2 u3, fun v W' => ∃ h u1 u2 u3, v = .slice (some ⟨h, 0, none⟩) 1 1 ∧ Wd.heap.size ≤ h ∧ RowIs W' h 37 (entL J u1 u2 u3) [] ∧ EntNew W' Wd.heap.size J u1 u2 u3] []
           rfl (by rintro ⟨a, w, h⟩; exact h) (by intro o ho c; simp only [List.mem_cons, List.not_mem_nil, or_false] at ho; rcases ho with rfl | rfl | rfl | rfl | rfl | rfl | rfl | rfl | rfl <;> (intro h; cases h)) (by kernel_rfl) (by kernel_rfl) ?hR ?hstep ?hend
         case hR =>
           simp only [List.mem_cons, List.not_mem_nil, or_false, forall_eq_or_imp, forall_eq]
           exact ⟨fun v _ _ h _ => h, fun v _ _ h _ => h, fun v _ _ h _ => h, fun v _ _ h _ => h, fun v _ _ h he => by obtain ⟨u1, u2, u3, e, z⟩ := h; exact ⟨u1, u2, u3, e, z.ext he⟩, fun v _ _ h he => by obtain ⟨k, u1, u2, u3, e, z, b, c⟩ := h; exact ⟨k, u1, u2, u3, e, z, b.ext he, c.ext he⟩⟩
         case hstep =>
           simp only [List.length_cons, List.length_nil, Nat.reduceAdd, List.take_succ_cons, List.take_zero, stepsAllA, and_true]
           refine ⟨?_, ?_, ?_, ?_, ?_, ?_⟩
           · intro x' W' he f
             have h : x' 5 = .pointer (some ⟨W1.heap.size, 0, none⟩) := f.1
             go_wp
             exact stepQ_ok (r := freshQ _ _ _ _) ⟨rfl, fun h => by simp at h⟩ (Ext.refl _)
           · intro x' W' he f
             have h : x' 57 = .pointer (some ⟨W1.heap.size, 1, none⟩) := f.1
             have hc := (rS.ext he).cell (j := 1) rfl
             go_wp
             exact stepQ_ok (r := freshQ _ _ _ _) ⟨rfl, fun h => by simp at h⟩ (Ext.refl _)
           · intro x' W' he f
             have h : x' 9 = .pointer (some ⟨W.heap.size, 0, none⟩) := f.1
             have c0 := (r9d.ext he).cell (j := 0) rfl
             have c1 := (r9d.ext he).cell (j := 1) rfl
             have c2 := (r9d.ext he).cell (j := 2) rfl
             have c3 := (r9d.ext he).cell (j := 3) rfl
             have c4 := (r9d.ext he).cell (j := 4) rfl
             have c5 := (r9d.ext he).cell (j := 5) rfl
             have c6 := (r9d.ext he).cell (j := 6) rfl
             go_wp
             exact stepQ_ok (r := freshQ _ _ _ _) ⟨rfl, fun h => by simp at h⟩ (Ext.refl _)
           · intro x' W' he f
             have h : x' 10 = .pointer (some ⟨W.heap.size + 1, 0, none⟩) := f.1
             have c0 := (r10d.ext he).cell (j := 0) rfl
             have c1 := (r10d.ext he).cell (j := 1) rfl
             have c2 := (r10d.ext he).cell (j := 2) rfl
             have c3 := (r10d.ext he).cell (j := 3) rfl
             have c4 := (r10d.ext he).cell (j := 4) rfl
             have c5 := (r10d.ext he).cell (j := 5) rfl
             have c6 := (r10d.ext he).cell (j := 6) rfl
             go_wp
             exact stepQ_ok (r := freshQ _ _ _ _) ⟨rfl, fun h => by simp at h⟩ (Ext.refl _)
           · intro x' W' he f
             have h59 : x' 59 = entV ma (.slice Ca1 ma.seen.length ca1) (.slice Ca2 ma.counts.length ca2) (.slice Ca3 ma.items.length ca3) := f.1
             have h60 : x' 60 = entV mb (.slice Cb1 mb.seen.length cb1) (.slice Cb2 mb.counts.length cb2) (.slice Cb3 mb.items.length cb3) := f.2.1
             have hs := he.size
             have HC := Lib.hid (joinE_any (HAd.out.ext he) (HBd2.out.ext he) hsm1 hsm2)
             rw [← hJ] at HC
             clear hJ
             go_wp
             refine HC.out.mono ?_
             rintro r W6 ⟨u1, u2, u3, rfl, hn, hx2⟩
             dsimp only
             go_wp
             exact stepQ_ok (v := entV J u1 u2 u3) (r := freshQ _ _ _ _) ⟨⟨u1, u2, u3, rfl, hn.lower hs⟩, fun h => by simp at h⟩ hx2
           · intro x' W' he f
             obtain ⟨u1, u2, u3, h, hn⟩ : ∃ u1 u2 u3, x' 61 = entV J u1 u2 u3 ∧ EntNew W' Wd.heap.size J u1 u2 u3 := f.1
             have hs := he.size
             obtain ⟨D1, d1, rfl, -, -⟩ := hn.seen.form
             obtain ⟨D2, d2, rfl, -, -⟩ := hn.counts.form
             obtain ⟨D3, d3, rfl, -, -⟩ := hn.items.form
             have hrow := rowNew W' 37 (entL J (.slice D1 J.seen.length d1) (.slice D2 J.counts.length d2) (.slice D3 J.items.length d3))
             have hxa := (Ext.refl W').alloc (.cells (entL J (.slice D1 J.seen.length d1) (.slice D2 J.counts.length d2) (.slice D3 J.items.length d3)).toArray 37)
             clear hJ
             go_wp
             exact stepQ_ok (v := .slice (some ⟨W'.heap.size, 0, none⟩) 1 1) (r := freshQ _ _ _ _) ⟨⟨W'.heap.size, _, _, _, rfl, hs, hrow, hn.ext hxa⟩, fun h => by simp at h⟩ hxa
         case hend =>
           intro x' W' he hap f
           have h58 : x' 58 = .slice AE pre.length cE := f.2.1
           obtain ⟨k, u1, u2, u3, h62, hk, hrow, hn⟩ : ∃ h u1 u2 u3, x' 62 = .slice (some ⟨h, 0, none⟩) 1 1 ∧ Wd.heap.size ≤ h ∧ RowIs W' h 37 (entL J u1 u2 u3) [] ∧ EntNew W' Wd.heap.size J u1 u2 u3 := f.2.2.2.2.2.1
           clear f hap hJ
           have hs := he.size
           simp only [List.length_cons, List.length_nil, Nat.reduceAdd, List.take_succ_cons, List.take_zero, List.filterMap_cons, List.filterMap_nil, List.drop_succ_cons, List.drop_zero, putAll, Act.put, List.setIfInBounds_toArray, List.set_cons_succ, List.set_cons_zero, h58, h62]
           have hone := entL_one (hn.rd (S := fun _ => True) (fun _ _ _ => trivial))
           have hEl : ∀ b, ownBlk (.slice AE pre.length cE) b → b < Wd.heap.size := fun b hb => (hEd.base_le hb).2
           have hEb : ∀ b, ownBlk (.slice AE pre.length cE) b → W4.heap.size ≤ b := fun b hb => (hEd.base_le hb).1
           obtain ⟨L0, hL0⟩ : ∃ L0, L0 = pre.map (fun k => joinEnt (getE se k) (getE te k)) := ⟨_, rfl⟩
           have hlen : L0.length = pre.length := by rw [hL0, List.length_map]
           have hEd2 := hEd.ext he
           rw [← hL0] at hEd2
           obtain ⟨vss, y1, y2, y3⟩ := hEd2
           rw [hlen] at y3
           have rSe := rS.ext he
           have hnS : ¬ ownBlk (.slice AE pre.length cE) W1.heap.size := fun hb => by have := hEb _ hb; omega
           have HL := Lib.hid (show (pre ++ [x]).map (fun k => joinEnt (getE se k) (getE te k)) = L0 ++ [J] from by rw [List.map_append, ← hL0]; simp only [List.map_cons, List.map_nil, HEd1.out, HEd2.out, HJe.out])
           have HS2 := Lib.hid (show _ ∧ _ from ⟨y1, y2⟩)
           have HNN := Lib.hid hn
           clear y1 y2 hL0 HEd1 HEd2
           refine wpList_append_Own rfl (.tmp 58) (.tmp 62) 27 rfl W4.heap.size 37 7 120 zeroEnt Tryz.underlying27 info_entry rfl (by omega) (.slice AE pre.length cE) pre.length vss.flatten (by simp [go_sem]) y3 (some ⟨k, 0, none⟩) 1 1 (entL J u1 u2 u3) (by simp [go_sem])
             ⟨by simp, hone, fun _ => ⟨k, 0, rfl, fun j u hj => by rw [Nat.zero_add]; exact hrow.cell hj⟩⟩ (by omega) (by omega) (by omega) ?_
           intro v' w' hown hgr
           have hE2 : RowE w' W4.heap.size W1.heap.size v' (L0 ++ [J]) := RowE.snoc HS2.out.1 HS2.out.2 HNN.out hEl hgl (by omega) (by rw [hlen]; exact hown) hgr
           have hF := hE2.form
           rw [show (L0 ++ [J]).length = pre.length + 1 by rw [List.length_append, hlen]; rfl] at hF
           obtain ⟨AF, cF, rfl, -, -⟩ := hF
           have rSw := rSe.keep (hgr.same _ rSe.lt hnS)
           have hc := rSw.cell (j := 1) rfl
           have hf := rSw.frozen 1
           have rS2 := rSw.set (j := 1) (by simp) (.slice AF (pre.length + 1) cF)
           simp only [List.set_cons_succ, List.set_cons_zero] at rS2
           have hO2 := ((HOx.out.ext (hxd.trans he)).grew hgr hEb).set (j := 1) (.slice AF (pre.length + 1) cF)
           have hko := ((hxd.trans he).keepsO.trans (hgr.keeps y3)).trans (KeepsOthers.setCell w' ⟨W1.heap.size, 1, none⟩ (.slice AF (pre.length + 1) cF))
           have hE3 := hE2.set (j := 1) (u := .slice AF (pre.length + 1) cF) rSw (by decide)
           have HF := Lib.hid (show _ ∧ _ ∧ _ ∧ _ from ⟨rS2, hO2, hko, hE3⟩)
           clear rS2 hO2 hko hE3 hE2 hgr hown HS2 HNN hn hrow y3 rSe rSw hEd rS hone r9d r10d HAd HBd2 HBd
           go_wp
           obtain ⟨rS2, hO2, hko, hE3⟩ := HF.out
           exact ⟨hko.from _, HOx.out.kps hO2 hko.size, _, rS2, by rw [HL.out]; exact hE3, hO2⟩
   case done =>
     rintro D ys W hD rfl ⟨vE, hS, hE, hO⟩ hK
     have hOs := hO.size
     have hEf := hE.form
     rw [List.length_map] at hEf
     obtain ⟨AE, cE, rfl, -, -⟩ := hEf
     have rA := rA4.keep (hO.same w.heap.size (by omega) (by omega))
     have rB := rB4.keep (hO.same (w.heap.size + 1) (by omega) (by omega))
     have rR := rR4.keep (hO.same (w.heap.size + 1 + 1) (by omega) (by omega))
     have hV := HV4.out.keep (w' := W) (fun b hb hlt => hO.same b hlt (fun e => HV4.out.apart rG4 (by decide) (by rw [← e]; exact hb)))
     have PA := HA4.out.pruned.keep (by decide) (w' := W) (fun b hb h2 => hO.same b (by omega) (by omega))
     have PB := HB4.out.pruned.keep (by decide) (w' := W) (fun b hb h2 => hO.same b (by omega) (by omega))
     have hXw : Ext w W := hO.below HX4.out (by omega) (by omega)
     have HKD := Lib.hid hK
     clear hK
     have qa := rA.cell (j := 2) rfl
     have qb := rB.cell (j := 2) rfl
     have hxc : Ext W (W.alloc (.cells #[.slice A3 sp.length n3, .slice B3 tp.length m3] 28)) := (Ext.refl W).alloc _
     have rC := rowNew W 28 [.slice A3 sp.length n3, .slice B3 tp.length m3]
     have hlen : [sp, tp].flatten.length ≤ 1099511627776 := by have := SM1.out.pruned; have := SM2.out.pruned; simp at *; omega
     have HC := Lib.hid (concatS_any (sl_twoS (hk := by decide) (S := fun b => b ≤ W.heap.size) ((PA.mono (by decide) fun b _ h => by omega).ext (by decide) hxc) ((PB.mono (by decide) fun b _ h => by omega).ext (by decide) hxc) (Nat.le_refl _) (rC.cell (j := 0) rfl) (rC.cell (j := 1) rfl)) hlen)
     have HSx := Lib.hid hS
     have HEx := Lib.hid hE
     have HOx := Lib.hid hO
     have HXw := Lib.hid hXw
     have HVx := Lib.hid hV
     clear hS hE hO hXw hV PA PB rC
     dsimp only [Exit.inBlock, Exit.then]
     go_wp2_with fail
     refine HC.out.mono ?_
     rintro r W5 ⟨vP, rfl, hP, hx5⟩
     obtain ⟨P1, pn, rfl, -, -⟩ := hP.form
     have hx05 := hxc.trans hx5
     have hg5 : W1.heap.size < W.heap.size := by omega
     have hP5 := hP.lower (base' := W.heap.size) (by simp)
     obtain ⟨LP, hLP⟩ : ∃ LP, LP = [sp, tp].flatten := ⟨_, rfl⟩
     have HLP := Lib.hid hLP
     rw [← hLP] at hP5 hlen ⊢
     clear hLP hP HC hx5 hxc
     have rS5 := HSx.out.ext hx05
     have s52 := rS5.cell (j := 2) rfl
     have sf52 := rS5.frozen 2
     have rS6 := rS5.set (j := 2) (by simp) (.slice P1 LP.length pn)
     simp only [List.set_cons_succ, List.set_cons_zero] at rS6
     have hP6 := hP5.keep (w' := W5.setCell ⟨W1.heap.size, 2, none⟩ (.slice P1 LP.length pn)) (fun b hb _ => Below.heap_setCell _ _ _ _ (fun e => hP5.apart rS5 (by decide) (by have e2 : b = W1.heap.size := e; rw [← e2]; exact hb)))
     have HK6 := Lib.hid (((OldK.refl (n := W.heap.size) (g := W1.heap.size) (Nat.le_refl _)).ext hx05).set (j := 2) (.slice P1 LP.length pn))
     have HSO := Lib.hid (sortS_any hP6 hlen)
     have c62 := rS6.cell (j := 2) rfl
     have hz6 := HK6.out.size
     have HS6 := Lib.hid rS6
     clear rS5 rS6 hP5 hP6 hx05 qa qb
     go_wp2_with fail
     clear s52 sf52
     generalize W5.setCell ⟨W1.heap.size, 2, none⟩ (.slice P1 LP.length pn) = W6 at *
     refine HSO.out.mono ?_
     rintro r W7 ⟨rfl, hP7, hb7⟩
     have hlS := sortS_len LP
     have rS7 := HS6.out.keep (hb7.block _ hg5)
     have HK7 := Lib.hid (HK6.out.low hb7)
     have HCO := compactS_any hP7 (by omega)
     have HCP := Lib.hid HCO
     have c72 := rS7.cell (j := 2) rfl
     have cf72 := rS7.frozen 2
     have HS7 := Lib.hid rS7
     clear HS6 HK6 HSO hP7 hb7 c62 rS7 hlS HCO
     go_wp2_with fail
     refine HCP.out.mono ?_
     rintro r W8 ⟨vC, rfl, hP8, hb8⟩
     obtain ⟨LC, hLC⟩ : ∃ LC, LC = Lib.compact (sortS LP) := ⟨_, rfl⟩
     have HLC := Lib.hid hLC
     rw [← hLC] at hP8
     obtain ⟨C1, cn, rfl, -, -⟩ := hP8.form
     have rS8 := HS7.out.keep (hb8.block _ hg5)
     have HK8 := HK7.out.low hb8
     have s82 := rS8.cell (j := 2) rfl
     have s80 := rS8.cell (j := 0) rfl
     have s81 := rS8.cell (j := 1) rfl
     have sf82 := rS8.frozen 2
     have hkr := HK8.same (w.heap.size + 1 + 1) (by omega) (by omega)
     have rR8 := rR.keep hkr
     have t0 := rR8.cell (j := 0) rfl
     have t1 := rR8.cell (j := 1) rfl
     have t2 := rR8.cell (j := 2) rfl
     have tf0 := rR8.frozen 0
     have tf1 := rR8.frozen 1
     have tf2 := rR8.frozen 2
     have rS9 := rS8.set (j := 2) (by simp) (.slice C1 LC.length cn)
     simp only [List.set_cons_succ, List.set_cons_zero] at rS9
     have hP9 := hP8.keep (w' := W8.setCell ⟨W1.heap.size, 2, none⟩ (.slice C1 LC.length cn)) (fun b hb _ => Below.heap_setCell _ _ _ _ (fun e => hP8.apart rS8 (by decide) (by have e2 : b = W1.heap.size := e; rw [← e2]; exact hb)))
     have HK9 := Lib.hid (HK8.set (j := 2) (.slice C1 LC.length cn))
     have HP9 := Lib.hid hP9
     have hneR : ¬ (w.heap.size + 1 + 1 = W1.heap.size) := by omega
     have hneR2 : ¬ (W1.heap.size = w.heap.size + 1 + 1) := by omega
     clear hLC hP8 hb8 rS8 HK8 hkr rR8 rS9 hP9 HCP HS7 HK7 c72
     go_wp2_with fail
     generalize W8.setCell ⟨W1.heap.size, 2, none⟩ (.slice C1 LC.length cn) = W9 at *
     have hDl : D < W.heap.size := (Array.getElem?_eq_some_iff.1 HKD.out).1
     obtain ⟨vG, hvG⟩ : ∃ v, v = Value.slice J1 (joinM sa ta).length j1 := ⟨_, rfl⟩
     obtain ⟨vE, hvE⟩ : ∃ v, v = Value.slice AE (keysE se te).length cE := ⟨_, rfl⟩
     obtain ⟨vC, hvC⟩ : ∃ v, v = Value.slice C1 LC.length cn := ⟨_, rfl⟩
     have hK2 : (put3 W9 (w.heap.size + 1 + 1) vG vE vC).heap[D]? = some (.deferred (some [])) := (put3_heap _ _ _ _ _ _ (by omega)).trans ((HK9.out.same D hDl (by omega)).trans HKD.out)
     have hsame : ∀ b, b < W.heap.size → b ≠ W1.heap.size → b ≠ w.heap.size + 1 + 1 → (put3 W9 (w.heap.size + 1 + 1) vG vE vC).heap[b]? = W.heap[b]? := fun b h1 h2 h3 => (put3_heap _ _ _ _ _ _ h3).trans (HK9.out.same b h1 h2)
     have hxP : Ext w (put3 W9 (w.heap.size + 1 + 1) vG vE vC) := put3_ext (HK9.out.below HXw.out (by omega) (by omega)) (by omega) _ _ _
     have rRP : RowIs (put3 W9 (w.heap.size + 1 + 1) vG vE vC) (w.heap.size + 1 + 1) 30 [vG, vE, vC] [] := by have h := (((rR.keep (HK9.out.same (w.heap.size + 1 + 1) (by omega) (by omega))).set (j := 0) (by simp) vG).set (j := 1) (by simp) vE).set (j := 2) (by simp) vC; simpa using h
     have hg := grownBy_putObj' (put3 W9 (w.heap.size + 1 + 1) vG vE vC) D (.deferred none)
     have hr : ∀ r, (some D : Option Nat) = some r → ∃ o : Obj, (put3 W9 (w.heap.size + 1 + 1) vG vE vC).heap[r]? = some o ∧ o.isCells = false := fun r e => by cases e; exact ⟨_, hK2, rfl⟩
     have rRF := rRP.kept hg hr
     have o1 := (HVx.out.keep (w' := put3 W9 (w.heap.size + 1 + 1) vG vE vC) (fun b hb hlt => hsame b hlt (fun e => HVx.out.apart HSx.out (by decide) (by rw [← e]; exact hb)) (by have := (HVx.out.base_le hb).1; omega))).kept hg hr
     have o2 := (HEx.out.keep (w' := put3 W9 (w.heap.size + 1 + 1) vG vE vC) (fun b hb hlt hor => hsame b hlt (by omega) (by omega))).kept hg hr
     have o3 := (HP9.out.keep (w' := put3 W9 (w.heap.size + 1 + 1) vG vE vC) (fun b hb hlt => put3_heap _ _ _ _ _ _ (by have := (HP9.out.base_le hb).1; omega))).kept hg hr
     have o4 : Ext w ((put3 W9 (w.heap.size + 1 + 1) vG vE vC).putObj D (.deferred none)) := Below.trans hxP (belowK_b (w := w) (Nat.le_refl _) _ D _ _ (by omega) hK2 rfl rfl)
     have hpr : Lib.compact (sortS (sp ++ tp)) = LC := by rw [HLC.out, HLP.out]; simp
     have q0 := rRF.cell (j := 0) rfl
     have q1 := rRF.cell (j := 1) rfl
     have q2 := rRF.cell (j := 2) rfl
     have hwW4 : w.heap.size ≤ W4.heap.size := by omega
     have hwW : w.heap.size ≤ W.heap.size := by omega
     rw [← hvG] at o1
     rw [← hvE] at o2
     rw [← hvC] at o3
     rw [← hvG, ← hvE, ← hvC]
     clear hvG hvE hvC hsame hxP rRP hg hr
     refine ⟨by simp, .inl ⟨_, _, rfl, run_takeDeferred hK2, ?_⟩⟩
     refine ⟨stV vG vE vC, ?_, vG, vE, vC, rfl, ⟨?_, ?_, ?_⟩, o4⟩
     · simp [results, Tryz.f15, go_sem, q0, q1, q2]
     · exact o1.lower (base' := w.heap.size) (Nat.le_add_right _ _)
     · exact OwnL.lower (OwnL.mono o2 (S' := fun b => w.heap.size ≤ b ∧ ¬ ownBlk vE b) fun b _ hb => ⟨Nat.le_trans hwW4 hb.1, hb.2.2⟩) hwW4
     · show Own _ _ _ _ _ (Lib.compact (sortS (sp ++ tp))).length ((Lib.compact (sortS (sp ++ tp))).flatMap strC); rw [hpr]; exact o3.lower (base' := w.heap.size) hwW
end Go.Proofs.YtdikcgmdmcfpfaaGreat
