/- Contracts of the functions that the statement goes through, with their plain words: Package entry: Update: the ways that go on. Printed by gen_update.py. Package state: Reserve. One entry put in its place in a row of entries: over another one, or between two. -/
import Derived.Test.YtdikcgmdmcfpfaaGreatSf11
namespace Go.Proofs.YtdikcgmdmcfpfaaGreat
open Go.RowKit Go.Shelf


set_option maxRecDepth 100000 in
set_option maxHeartbeats 1000000 in
theorem upd_haseq {S : Nat → Prop} {ek : Str} {es : List Mark} {ec : List Count} {ei : List Item} {x1 : Nat} {x2 : Str} {x3 : Bool} {A1 A2 A3 : Option Addr} {n1 n2 n3 : Nat} {w : World} (dO : Nat) (k : Str) (n : Int) (tx : Str) (d1 : Str) (dn : Nat) (h : EntAt w S ⟨ek, es, ec, ei, (x1, x2, x3)⟩ (.slice A1 es.length n1) (.slice A2 ec.length n2) (.slice A3 ei.length n3)) (hk : keyS k = true) (he : ek = k) (hd : (d1 == []) = false) (h2 : ¬ (dn : Int) < 1) (h3 : ¬ (dn : Int) > 281474976710656) (hh : hasM es (d1, dn) = true) :
    Calls Tryz.prog 42 #[.agg #[St ek, .slice A1 es.length n1, .slice A2 ec.length n2, .slice A3 ei.length n3, U x1, St x2, .bool x3], .agg #[K8 dO, St k, I n, St tx], .agg #[St d1, U dn]] w fun r w' => r = .returned (.tuple #[entV noneE (.slice none 0 0) (.slice none 0 0) (.slice none 0 0), I 2]) ∧ Ext w w' := by
  subst he
  obtain ⟨W0, hW0⟩ : ∃ W0, W0 = (((w.alloc (.cells #[St ek, .slice A1 es.length n1, .slice A2 ec.length n2, .slice A3 ei.length n3, U x1, St x2, .bool x3] 37)).alloc (.cells #[K8 dO, St ek, I n, St tx] 42)).alloc (.cells #[St d1, U dn] 97)).alloc (.cells #[St [], .slice none 0 0, .slice none 0 0, .slice none 0 0, .int .u64 0, St [], .bool false] 37) := ⟨_, rfl⟩
  have hx0 : Ext w W0 := by rw [hW0]; exact ((((Ext.refl w).alloc _).alloc _).alloc _).alloc _
  have hz0 : W0.heap.size = w.heap.size + 1 + 1 + 1 + 1 := by rw [hW0]; simp
  have rE0 : RowIs W0 w.heap.size 37 [St ek, .slice A1 es.length n1, .slice A2 ec.length n2, .slice A3 ei.length n3, U x1, St x2, .bool x3] [] := by rw [hW0]; exact (((rowNew w _ _).alloc _).alloc _).alloc _
  have rO0 : RowIs W0 (w.heap.size + 1) 42 [K8 dO, St ek, I n, St tx] [] := by rw [hW0]; have h := rowNew (w.alloc (.cells #[St ek, .slice A1 es.length n1, .slice A2 ec.length n2, .slice A3 ei.length n3, U x1, St x2, .bool x3] 37)) 42 [K8 dO, St ek, I n, St tx]; simp only [World.size_alloc] at h; exact (h.alloc _).alloc _
  have rD0 : RowIs W0 (w.heap.size + 1 + 1) 97 [St d1, U dn] [] := by rw [hW0]; have h := rowNew ((w.alloc (.cells #[St ek, .slice A1 es.length n1, .slice A2 ec.length n2, .slice A3 ei.length n3, U x1, St x2, .bool x3] 37)).alloc (.cells #[K8 dO, St ek, I n, St tx] 42)) 97 [St d1, U dn]; simp only [World.size_alloc] at h; exact h.alloc _
  have rR0 : RowIs W0 (w.heap.size + 1 + 1 + 1) 37 [St [], .slice none 0 0, .slice none 0 0, .slice none 0 0, .int .u64 0, St [], .bool false] [] := by rw [hW0]; have h := rowNew (((w.alloc (.cells #[St ek, .slice A1 es.length n1, .slice A2 ec.length n2, .slice A3 ei.length n3, U x1, St x2, .bool x3] 37)).alloc (.cells #[K8 dO, St ek, I n, St tx] 42)).alloc (.cells #[St d1, U dn] 97)) 37 [St [], .slice none 0 0, .slice none 0 0, .slice none 0 0, .int .u64 0, St [], .bool false]; simp only [World.size_alloc] at h; exact h
  have H1 := Lib.hid (key_any ek W0)
  have HE := Lib.hid h
  rw [hW0] at H1
  clear h
  go_enter Tryz.func42, Tryz.ntmps42
  go_wp2_with fail
  refine H1.out.mono ?_
  rintro r V ⟨rfl, hx1⟩
  obtain ⟨hx1, hzz, rE, rO, rD, rR⟩ : Ext w V ∧ w.heap.size + 4 ≤ V.heap.size ∧ RowIs V w.heap.size 37 [St ek, .slice A1 es.length n1, .slice A2 ec.length n2, .slice A3 ei.length n3, U x1, St x2, .bool x3] [] ∧ RowIs V (w.heap.size + 1) 42 [K8 dO, St ek, I n, St tx] [] ∧ RowIs V (w.heap.size + 1 + 1) 97 [St d1, U dn] [] ∧ RowIs V (w.heap.size + 1 + 1 + 1) 37 [St [], .slice none 0 0, .slice none 0 0, .slice none 0 0, .int .u64 0, St [], .bool false] [] := by
    have H0 : Ext W0 V := by rw [hW0]; exact hx1
    exact ⟨hx0.trans H0, by have := H0.size; omega, rE0.ext H0, rO0.ext H0, rD0.ext H0, rR0.ext H0⟩
  clear hx0 hz0 rE0 rO0 rD0 rR0 H1 hW0
  rw [hk]
  have HH := Lib.hid (has_any (d1, dn) (HE.out.seen.ext (by decide) hx1))
  have e0 := rE.cell (j := 0) rfl
  have e1 := rE.cell (j := 1) rfl
  have e2 := rE.cell (j := 2) rfl
  have e3 := rE.cell (j := 3) rfl
  have e4 := rE.cell (j := 4) rfl
  have e5 := rE.cell (j := 5) rfl
  have e6 := rE.cell (j := 6) rfl
  have o0 := rO.cell (j := 0) rfl
  have o1 := rO.cell (j := 1) rfl
  have o2 := rO.cell (j := 2) rfl
  have o3 := rO.cell (j := 3) rfl
  have dc0 := rD.cell (j := 0) rfl
  have dc1 := rD.cell (j := 1) rfl
  go_wp2_with fail
  refine HH.out.mono ?_
  rintro r V3 ⟨rfl, hx3⟩
  rw [hh]
  obtain ⟨hx1, hzz, rE, rO, rD, rR⟩ : Ext w V3 ∧ w.heap.size + 4 ≤ V3.heap.size ∧ RowIs V3 w.heap.size 37 [St ek, .slice A1 es.length n1, .slice A2 ec.length n2, .slice A3 ei.length n3, U x1, St x2, .bool x3] [] ∧ RowIs V3 (w.heap.size + 1) 42 [K8 dO, St ek, I n, St tx] [] ∧ RowIs V3 (w.heap.size + 1 + 1) 97 [St d1, U dn] [] ∧ RowIs V3 (w.heap.size + 1 + 1 + 1) 37 [St [], .slice none 0 0, .slice none 0 0, .slice none 0 0, .int .u64 0, St [], .bool false] [] := ⟨hx1.trans hx3, by have := hx3.size; omega, rE.ext hx3, rO.ext hx3, rD.ext hx3, rR.ext hx3⟩
  clear hx3
  have r0 := rR.cell (j := 0) rfl
  have r1 := rR.cell (j := 1) rfl
  have r2 := rR.cell (j := 2) rfl
  have r3 := rR.cell (j := 3) rfl
  have r4 := rR.cell (j := 4) rfl
  have r5 := rR.cell (j := 5) rfl
  have r6 := rR.cell (j := 6) rfl
  have f0 := rR.frozen 0
  have f1 := rR.frozen 1
  have f2 := rR.frozen 2
  have f3 := rR.frozen 3
  have f4 := rR.frozen 4
  have f5 := rR.frozen 5
  have f6 := rR.frozen 6
  have HX := Lib.hid hx1
  clear hx1 rR
  go_wp2_with fail
  (try simp only [Exit.inBlock, Exit.then])
  refine bodyPost_ret (v := .tuple #[entV noneE (.slice none 0 0) (.slice none 0 0) (.slice none 0 0), I 2]) (by simp [results, Tryz.f42, go_sem, entV, entC, noneE, r0, r1, r2, r3, r4, r5, r6]) rfl ?_
  have hp := put7_ext (q := w.heap.size + 1 + 1 + 1) HX.out (by omega) noneE (.slice none 0 0) (.slice none 0 0) (.slice none 0 0)
  exact ⟨rfl, hp⟩

set_option maxRecDepth 100000 in
set_option maxHeartbeats 1000000 in
theorem upd_hasnone {S : Nat → Prop} {ek : Str} {es : List Mark} {ec : List Count} {ei : List Item} {x1 : Nat} {x2 : Str} {x3 : Bool} {A1 A2 A3 : Option Addr} {n1 n2 n3 : Nat} {w : World} (dO : Nat) (k : Str) (n : Int) (tx : Str) (d1 : Str) (dn : Nat) (h : EntAt w S ⟨ek, es, ec, ei, (x1, x2, x3)⟩ (.slice A1 es.length n1) (.slice A2 ec.length n2) (.slice A3 ei.length n3)) (hk : keyS k = true) (hne : (ek == k) = false) (hs : sameE ⟨ek, es, ec, ei, (x1, x2, x3)⟩ noneE = true) (hd : (d1 == []) = false) (h2 : ¬ (dn : Int) < 1) (h3 : ¬ (dn : Int) > 281474976710656) (hh : hasM es (d1, dn) = true) :
    Calls Tryz.prog 42 #[.agg #[St ek, .slice A1 es.length n1, .slice A2 ec.length n2, .slice A3 ei.length n3, U x1, St x2, .bool x3], .agg #[K8 dO, St k, I n, St tx], .agg #[St d1, U dn]] w fun r w' => r = .returned (.tuple #[entV noneE (.slice none 0 0) (.slice none 0 0) (.slice none 0 0), I 2]) ∧ Ext w w' := by
  obtain ⟨W0, hW0⟩ : ∃ W0, W0 = (((w.alloc (.cells #[St ek, .slice A1 es.length n1, .slice A2 ec.length n2, .slice A3 ei.length n3, U x1, St x2, .bool x3] 37)).alloc (.cells #[K8 dO, St k, I n, St tx] 42)).alloc (.cells #[St d1, U dn] 97)).alloc (.cells #[St [], .slice none 0 0, .slice none 0 0, .slice none 0 0, .int .u64 0, St [], .bool false] 37) := ⟨_, rfl⟩
  have hx0 : Ext w W0 := by rw [hW0]; exact ((((Ext.refl w).alloc _).alloc _).alloc _).alloc _
  have hz0 : W0.heap.size = w.heap.size + 1 + 1 + 1 + 1 := by rw [hW0]; simp
  have rE0 : RowIs W0 w.heap.size 37 [St ek, .slice A1 es.length n1, .slice A2 ec.length n2, .slice A3 ei.length n3, U x1, St x2, .bool x3] [] := by rw [hW0]; exact (((rowNew w _ _).alloc _).alloc _).alloc _
  have rO0 : RowIs W0 (w.heap.size + 1) 42 [K8 dO, St k, I n, St tx] [] := by rw [hW0]; have h := rowNew (w.alloc (.cells #[St ek, .slice A1 es.length n1, .slice A2 ec.length n2, .slice A3 ei.length n3, U x1, St x2, .bool x3] 37)) 42 [K8 dO, St k, I n, St tx]; simp only [World.size_alloc] at h; exact (h.alloc _).alloc _
  have rD0 : RowIs W0 (w.heap.size + 1 + 1) 97 [St d1, U dn] [] := by rw [hW0]; have h := rowNew ((w.alloc (.cells #[St ek, .slice A1 es.length n1, .slice A2 ec.length n2, .slice A3 ei.length n3, U x1, St x2, .bool x3] 37)).alloc (.cells #[K8 dO, St k, I n, St tx] 42)) 97 [St d1, U dn]; simp only [World.size_alloc] at h; exact h.alloc _
  have rR0 : RowIs W0 (w.heap.size + 1 + 1 + 1) 37 [St [], .slice none 0 0, .slice none 0 0, .slice none 0 0, .int .u64 0, St [], .bool false] [] := by rw [hW0]; have h := rowNew (((w.alloc (.cells #[St ek, .slice A1 es.length n1, .slice A2 ec.length n2, .slice A3 ei.length n3, U x1, St x2, .bool x3] 37)).alloc (.cells #[K8 dO, St k, I n, St tx] 42)).alloc (.cells #[St d1, U dn] 97)) 37 [St [], .slice none 0 0, .slice none 0 0, .slice none 0 0, .int .u64 0, St [], .bool false]; simp only [World.size_alloc] at h; exact h
  have H1 := Lib.hid (key_any k W0)
  have HE := Lib.hid h
  rw [hW0] at H1
  clear h
  go_enter Tryz.func42, Tryz.ntmps42
  go_wp2_with fail
  refine H1.out.mono ?_
  rintro r V ⟨rfl, hx1⟩
  obtain ⟨hx1, hzz, rE, rO, rD, rR⟩ : Ext w V ∧ w.heap.size + 4 ≤ V.heap.size ∧ RowIs V w.heap.size 37 [St ek, .slice A1 es.length n1, .slice A2 ec.length n2, .slice A3 ei.length n3, U x1, St x2, .bool x3] [] ∧ RowIs V (w.heap.size + 1) 42 [K8 dO, St k, I n, St tx] [] ∧ RowIs V (w.heap.size + 1 + 1) 97 [St d1, U dn] [] ∧ RowIs V (w.heap.size + 1 + 1 + 1) 37 [St [], .slice none 0 0, .slice none 0 0, .slice none 0 0, .int .u64 0, St [], .bool false] [] := by
    have H0 : Ext W0 V := by rw [hW0]; exact hx1
    exact ⟨hx0.trans H0, by have := H0.size; omega, rE0.ext H0, rO0.ext H0, rD0.ext H0, rR0.ext H0⟩
  clear hx0 hz0 rE0 rO0 rD0 rR0 H1 hW0
  rw [hk]
  have HN := Lib.hid (noneE_any (HE.out.ext hx1))
  have e0 := rE.cell (j := 0) rfl
  have e1 := rE.cell (j := 1) rfl
  have e2 := rE.cell (j := 2) rfl
  have e3 := rE.cell (j := 3) rfl
  have e4 := rE.cell (j := 4) rfl
  have e5 := rE.cell (j := 5) rfl
  have e6 := rE.cell (j := 6) rfl
  have o0 := rO.cell (j := 0) rfl
  have o1 := rO.cell (j := 1) rfl
  have o2 := rO.cell (j := 2) rfl
  have o3 := rO.cell (j := 3) rfl
  go_wp2_with fail
  refine HN.out.mono ?_
  rintro r V2 ⟨rfl, hx2⟩
  rw [hs]
  obtain ⟨hx1, hzz, rE, rO, rD, rR⟩ : Ext w V2 ∧ w.heap.size + 4 ≤ V2.heap.size ∧ RowIs V2 w.heap.size 37 [St ek, .slice A1 es.length n1, .slice A2 ec.length n2, .slice A3 ei.length n3, U x1, St x2, .bool x3] [] ∧ RowIs V2 (w.heap.size + 1) 42 [K8 dO, St k, I n, St tx] [] ∧ RowIs V2 (w.heap.size + 1 + 1) 97 [St d1, U dn] [] ∧ RowIs V2 (w.heap.size + 1 + 1 + 1) 37 [St [], .slice none 0 0, .slice none 0 0, .slice none 0 0, .int .u64 0, St [], .bool false] [] := ⟨hx1.trans hx2, by have := hx2.size; omega, rE.ext hx2, rO.ext hx2, rD.ext hx2, rR.ext hx2⟩
  clear hx2 e0 e1 e2 e3 e4 e5 e6 o0 o1 o2 o3 HN
  have HH := Lib.hid (has_any (d1, dn) (HE.out.seen.ext (by decide) hx1))
  have e0 := rE.cell (j := 0) rfl
  have e1 := rE.cell (j := 1) rfl
  have e2 := rE.cell (j := 2) rfl
  have e3 := rE.cell (j := 3) rfl
  have e4 := rE.cell (j := 4) rfl
  have e5 := rE.cell (j := 5) rfl
  have e6 := rE.cell (j := 6) rfl
  have o0 := rO.cell (j := 0) rfl
  have o1 := rO.cell (j := 1) rfl
  have o2 := rO.cell (j := 2) rfl
  have o3 := rO.cell (j := 3) rfl
  have dc0 := rD.cell (j := 0) rfl
  have dc1 := rD.cell (j := 1) rfl
  go_wp2_with fail
  refine HH.out.mono ?_
  rintro r V3 ⟨rfl, hx3⟩
  rw [hh]
  obtain ⟨hx1, hzz, rE, rO, rD, rR⟩ : Ext w V3 ∧ w.heap.size + 4 ≤ V3.heap.size ∧ RowIs V3 w.heap.size 37 [St ek, .slice A1 es.length n1, .slice A2 ec.length n2, .slice A3 ei.length n3, U x1, St x2, .bool x3] [] ∧ RowIs V3 (w.heap.size + 1) 42 [K8 dO, St k, I n, St tx] [] ∧ RowIs V3 (w.heap.size + 1 + 1) 97 [St d1, U dn] [] ∧ RowIs V3 (w.heap.size + 1 + 1 + 1) 37 [St [], .slice none 0 0, .slice none 0 0, .slice none 0 0, .int .u64 0, St [], .bool false] [] := ⟨hx1.trans hx3, by have := hx3.size; omega, rE.ext hx3, rO.ext hx3, rD.ext hx3, rR.ext hx3⟩
  clear hx3
  have r0 := rR.cell (j := 0) rfl
  have r1 := rR.cell (j := 1) rfl
  have r2 := rR.cell (j := 2) rfl
  have r3 := rR.cell (j := 3) rfl
  have r4 := rR.cell (j := 4) rfl
  have r5 := rR.cell (j := 5) rfl
  have r6 := rR.cell (j := 6) rfl
  have f0 := rR.frozen 0
  have f1 := rR.frozen 1
  have f2 := rR.frozen 2
  have f3 := rR.frozen 3
  have f4 := rR.frozen 4
  have f5 := rR.frozen 5
  have f6 := rR.frozen 6
  have HX := Lib.hid hx1
  clear hx1 rR
  go_wp2_with fail
  (try simp only [Exit.inBlock, Exit.then])
  refine bodyPost_ret (v := .tuple #[entV noneE (.slice none 0 0) (.slice none 0 0) (.slice none 0 0), I 2]) (by simp [results, Tryz.f42, go_sem, entV, entC, noneE, r0, r1, r2, r3, r4, r5, r6]) rfl ?_
  have hp := put7_ext (q := w.heap.size + 1 + 1 + 1) HX.out (by omega) noneE (.slice none 0 0) (.slice none 0 0) (.slice none 0 0)
  exact ⟨rfl, hp⟩

set_option maxRecDepth 100000 in
set_option maxHeartbeats 3000000 in
theorem upd_okeq {S : Nat → Prop} {ek : Str} {es : List Mark} {ec : List Count} {ei : List Item} {x1 : Nat} {x2 : Str} {x3 : Bool} {A1 A2 A3 : Option Addr} {n1 n2 n3 : Nat} {w : World} (dO : Nat) (k : Str) (n : Int) (tx : Str) (d1 : Str) (dn : Nat) (h : EntAt w S ⟨ek, es, ec, ei, (x1, x2, x3)⟩ (.slice A1 es.length n1) (.slice A2 ec.length n2) (.slice A3 ei.length n3)) (hk : keyS k = true) (he : ek = k) (hd : (d1 == []) = false) (h2 : 1 ≤ (dn : Int)) (h3 : (dn : Int) ≤ 281474976710656) (hh : hasM es (d1, dn) = false) (sm : SmallE ⟨ek, es, ec, ei, (x1, x2, x3)⟩) (hn1 : -9223372036854775808 ≤ n) (hn2 : n ≤ 9223372036854775807) :
    Calls Tryz.prog 42 #[.agg #[St ek, .slice A1 es.length n1, .slice A2 ec.length n2, .slice A3 ei.length n3, U x1, St x2, .bool x3], .agg #[K8 dO, St k, I n, St tx], .agg #[St d1, U dn]] w fun r w' => ∃ u1 u2 u3, r = .returned (.tuple #[entV (restE ⟨k, es, ec, ei, (x1, x2, x3)⟩ (dO, k, n, tx) (d1, dn)).1 u1 u2 u3, I (restE ⟨k, es, ec, ei, (x1, x2, x3)⟩ (dO, k, n, tx) (d1, dn)).2]) ∧ EntAt w' (fun b => w.heap.size ≤ b) (restE ⟨k, es, ec, ei, (x1, x2, x3)⟩ (dO, k, n, tx) (d1, dn)).1 u1 u2 u3 ∧ Ext w w' := by
  subst he
  obtain ⟨W0, hW0⟩ : ∃ W0, W0 = (((w.alloc (.cells #[St ek, .slice A1 es.length n1, .slice A2 ec.length n2, .slice A3 ei.length n3, U x1, St x2, .bool x3] 37)).alloc (.cells #[K8 dO, St ek, I n, St tx] 42)).alloc (.cells #[St d1, U dn] 97)).alloc (.cells #[St [], .slice none 0 0, .slice none 0 0, .slice none 0 0, .int .u64 0, St [], .bool false] 37) := ⟨_, rfl⟩
  have hx0 : Ext w W0 := by rw [hW0]; exact ((((Ext.refl w).alloc _).alloc _).alloc _).alloc _
  have hz0 : W0.heap.size = w.heap.size + 1 + 1 + 1 + 1 := by rw [hW0]; simp
  have rE0 : RowIs W0 w.heap.size 37 [St ek, .slice A1 es.length n1, .slice A2 ec.length n2, .slice A3 ei.length n3, U x1, St x2, .bool x3] [] := by rw [hW0]; exact (((rowNew w _ _).alloc _).alloc _).alloc _
  have rO0 : RowIs W0 (w.heap.size + 1) 42 [K8 dO, St ek, I n, St tx] [] := by rw [hW0]; have h := rowNew (w.alloc (.cells #[St ek, .slice A1 es.length n1, .slice A2 ec.length n2, .slice A3 ei.length n3, U x1, St x2, .bool x3] 37)) 42 [K8 dO, St ek, I n, St tx]; simp only [World.size_alloc] at h; exact (h.alloc _).alloc _
  have rD0 : RowIs W0 (w.heap.size + 1 + 1) 97 [St d1, U dn] [] := by rw [hW0]; have h := rowNew ((w.alloc (.cells #[St ek, .slice A1 es.length n1, .slice A2 ec.length n2, .slice A3 ei.length n3, U x1, St x2, .bool x3] 37)).alloc (.cells #[K8 dO, St ek, I n, St tx] 42)) 97 [St d1, U dn]; simp only [World.size_alloc] at h; exact h.alloc _
  have rR0 : RowIs W0 (w.heap.size + 1 + 1 + 1) 37 [St [], .slice none 0 0, .slice none 0 0, .slice none 0 0, .int .u64 0, St [], .bool false] [] := by rw [hW0]; have h := rowNew (((w.alloc (.cells #[St ek, .slice A1 es.length n1, .slice A2 ec.length n2, .slice A3 ei.length n3, U x1, St x2, .bool x3] 37)).alloc (.cells #[K8 dO, St ek, I n, St tx] 42)).alloc (.cells #[St d1, U dn] 97)) 37 [St [], .slice none 0 0, .slice none 0 0, .slice none 0 0, .int .u64 0, St [], .bool false]; simp only [World.size_alloc] at h; exact h
  have H1 := Lib.hid (key_any ek W0)
  have HE := Lib.hid h
  rw [hW0] at H1
  clear h
  go_enter Tryz.func42, Tryz.ntmps42
  go_wp2_with fail
  refine H1.out.mono ?_
  rintro r V ⟨rfl, hx1⟩
  obtain ⟨hx1, hzz, rE, rO, rD, rR⟩ : Ext w V ∧ w.heap.size + 4 ≤ V.heap.size ∧ RowIs V w.heap.size 37 [St ek, .slice A1 es.length n1, .slice A2 ec.length n2, .slice A3 ei.length n3, U x1, St x2, .bool x3] [] ∧ RowIs V (w.heap.size + 1) 42 [K8 dO, St ek, I n, St tx] [] ∧ RowIs V (w.heap.size + 1 + 1) 97 [St d1, U dn] [] ∧ RowIs V (w.heap.size + 1 + 1 + 1) 37 [St [], .slice none 0 0, .slice none 0 0, .slice none 0 0, .int .u64 0, St [], .bool false] [] := by
    have H0 : Ext W0 V := by rw [hW0]; exact hx1
    exact ⟨hx0.trans H0, by have := H0.size; omega, rE0.ext H0, rO0.ext H0, rD0.ext H0, rR0.ext H0⟩
  clear hx0 hz0 rE0 rO0 rD0 rR0 H1 hW0
  rw [hk]
  have HH := Lib.hid (has_any (d1, dn) (HE.out.seen.ext (by decide) hx1))
  have e0 := rE.cell (j := 0) rfl
  have e1 := rE.cell (j := 1) rfl
  have e2 := rE.cell (j := 2) rfl
  have e3 := rE.cell (j := 3) rfl
  have e4 := rE.cell (j := 4) rfl
  have e5 := rE.cell (j := 5) rfl
  have e6 := rE.cell (j := 6) rfl
  have o0 := rO.cell (j := 0) rfl
  have o1 := rO.cell (j := 1) rfl
  have o2 := rO.cell (j := 2) rfl
  have o3 := rO.cell (j := 3) rfl
  have dc0 := rD.cell (j := 0) rfl
  have dc1 := rD.cell (j := 1) rfl
  go_wp2_with fail
  all_goals (try (exfalso; omega))
  refine HH.out.mono ?_
  rintro r V3 ⟨rfl, hx3⟩
  rw [hh]
  obtain ⟨hx1, hzz, rE, rO, rD, rR⟩ : Ext w V3 ∧ w.heap.size + 4 ≤ V3.heap.size ∧ RowIs V3 w.heap.size 37 [St ek, .slice A1 es.length n1, .slice A2 ec.length n2, .slice A3 ei.length n3, U x1, St x2, .bool x3] [] ∧ RowIs V3 (w.heap.size + 1) 42 [K8 dO, St ek, I n, St tx] [] ∧ RowIs V3 (w.heap.size + 1 + 1) 97 [St d1, U dn] [] ∧ RowIs V3 (w.heap.size + 1 + 1 + 1) 37 [St [], .slice none 0 0, .slice none 0 0, .slice none 0 0, .int .u64 0, St [], .bool false] [] := ⟨hx1.trans hx3, by have := hx3.size; omega, rE.ext hx3, rO.ext hx3, rD.ext hx3, rR.ext hx3⟩
  clear hx3 HH
  have HCP := Lib.hid (copyE_any (HE.out.ext hx1) (Nat.le_trans sm.seen (by decide)) (Nat.le_trans sm.counts (by decide)) (Nat.le_trans sm.items (by decide)) (fun it hit => Nat.le_trans (sm.dots it hit) (by omega)))
  have p0 := rE.cell (j := 0) rfl
  have p1 := rE.cell (j := 1) rfl
  have p2 := rE.cell (j := 2) rfl
  have p3 := rE.cell (j := 3) rfl
  have p4 := rE.cell (j := 4) rfl
  have p5 := rE.cell (j := 5) rfl
  have p6 := rE.cell (j := 6) rfl
  go_wp2_with fail
  refine HCP.out.mono ?_
  rintro r V4 ⟨u1, u2, u3, rfl, hu, hx4⟩
  have hzb := hx4.size
  obtain ⟨hx1, hzz, rE, rO, rD, rR⟩ : Ext w V4 ∧ w.heap.size + 4 ≤ V4.heap.size ∧ RowIs V4 w.heap.size 37 [St ek, .slice A1 es.length n1, .slice A2 ec.length n2, .slice A3 ei.length n3, U x1, St x2, .bool x3] [] ∧ RowIs V4 (w.heap.size + 1) 42 [K8 dO, St ek, I n, St tx] [] ∧ RowIs V4 (w.heap.size + 1 + 1) 97 [St d1, U dn] [] ∧ RowIs V4 (w.heap.size + 1 + 1 + 1) 37 [St [], .slice none 0 0, .slice none 0 0, .slice none 0 0, .int .u64 0, St [], .bool false] [] := ⟨hx1.trans hx4, by have := hx4.size; omega, rE.ext hx4, rO.ext hx4, rD.ext hx4, rR.ext hx4⟩
  obtain ⟨B1, m1, rfl, -, -⟩ := hu.seen.form
  obtain ⟨B2, m2, rfl, -, -⟩ := hu.counts.form
  obtain ⟨B3, m3, rfl, -, -⟩ := hu.items.form
  have HU := Lib.hid (show EntAt V4 (fun b => V3.heap.size ≤ b ∧ b < V4.heap.size) ⟨ek, es, ec, ei, (x1, x2, x3)⟩ (.slice B1 es.length m1) (.slice B2 ec.length m2) (.slice B3 ei.length m3) from (show EntAt V4 (fun b => V3.heap.size ≤ b) ⟨ek, es, ec, ei, (x1, x2, x3)⟩ _ _ _ from ⟨hu.at.seen, hu.at.counts, hu.at.items⟩).mono fun b hb h => ⟨h, hb⟩)
  clear hx4 hu HCP
  have hlt1 : w.heap.size + 1 < V4.heap.size := by omega
  have q0 := rO.cell (j := 0) rfl
  have q1 := rO.cell (j := 1) rfl
  have q2 := rO.cell (j := 2) rfl
  have q3 := rO.cell (j := 3) rfl
  go_wp2_with fail
  have rN := rowNew V4 37 [St ek, .slice B1 es.length m1, .slice B2 ec.length m2, .slice B3 ei.length m3, U x1, St x2, .bool x3]
  have hxa := (Ext.refl V4).alloc (.cells #[St ek, .slice B1 es.length m1, .slice B2 ec.length m2, .slice B3 ei.length m3, U x1, St x2, .bool x3] 37)
  have rO4 := rO.ext hxa
  have rD4 := rD.ext hxa
  have rR4 := rR.ext hxa
  have HU4 := Lib.hid (HU.out.ext hxa)
  have hx4 := hx1.trans hxa
  have hzn := rN.lt
  generalize hW4 : V4.alloc (.cells #[St ek, .slice B1 es.length m1, .slice B2 ec.length m2, .slice B3 ei.length m3, U x1, St x2, .bool x3] 37) = W4 at *
  have hv4 := hxa.size
  clear hW4 rO rD rR rE hx1 hxa HU q0 q1 q2 q3
  refine wp_region_facts [fun v _ => v = opV (dO, ek, n, tx),
    fun v _ => v = dotV (d1, dn),
    fun v W2 => ∃ B m, W4.heap.size ≤ B ∧ B + 6 ≤ W2.heap.size ∧ UpdAt W2 B V4.heap.size n tx (d1, dn) m ∧ v = .map (some m),
    fun v _ => v = .pointer (some ⟨w.heap.size + 1, 1, none⟩),
    fun v _ => v = St ek,
    fun v _ => v = K8 (kindS ek),
    fun v W2 => ∃ B m, W4.heap.size ≤ B ∧ B + 6 ≤ W2.heap.size ∧ UpdAt W2 B V4.heap.size n tx (d1, dn) m ∧ InnerIs W2 B (kindS ek) v,
    fun v _ => v = .pointer (some ⟨w.heap.size + 1, 0, none⟩),
    fun v _ => v = K8 dO,
    fun v W2 => ∃ B m, W4.heap.size ≤ B ∧ B + 6 ≤ W2.heap.size ∧ UpdAt W2 B V4.heap.size n tx (d1, dn) m ∧ v = .tuple #[(cloOf B (kindS ek) dO).getD .nilFunc, .bool (cloOf B (kindS ek) dO).isSome],
    fun v W2 => ∃ B m, W4.heap.size ≤ B ∧ B + 6 ≤ W2.heap.size ∧ UpdAt W2 B V4.heap.size n tx (d1, dn) m ∧ v = .tuple #[(cloOf B (kindS ek) dO).getD .nilFunc, .bool (cloOf B (kindS ek) dO).isSome],
    fun v W2 => ∃ B m, W4.heap.size ≤ B ∧ B + 6 ≤ W2.heap.size ∧ UpdAt W2 B V4.heap.size n tx (d1, dn) m ∧ v = (cloOf B (kindS ek) dO).getD .nilFunc,
    fun v _ => v = .bool (doE (kindS ek) ⟨ek, es, ec, ei, (x1, x2, x3)⟩ (dO, ek, n, tx) (d1, dn)).isSome,
    fun v W2 => ∃ B m, W4.heap.size ≤ B ∧ B + 6 ≤ W2.heap.size ∧ UpdAt W2 B V4.heap.size n tx (d1, dn) m ∧ v = (cloOf B (kindS ek) dO).getD .nilFunc] rfl (by kernel_rfl) ?hR ?hstep ?hend
  case hR =>
    simp only [List.mem_cons, List.not_mem_nil, or_false, forall_eq_or_imp, forall_eq]
    exact ⟨fun v _ _ h _ => h, fun v _ _ h _ => h, fun v _ _ h he => by obtain ⟨B, m, h1, h2, h3, h4⟩ := h; exact ⟨B, m, h1, Nat.le_trans h2 he.size, h3.ext he, h4⟩, fun v _ _ h _ => h, fun v _ _ h _ => h, fun v _ _ h _ => h, fun v _ _ h he => by obtain ⟨B, m, h1, h2, h3, h4⟩ := h; exact ⟨B, m, h1, Nat.le_trans h2 he.size, h3.ext he, h4.ext he⟩, fun v _ _ h _ => h, fun v _ _ h _ => h, fun v _ _ h he => by obtain ⟨B, m, h1, h2, h3, h4⟩ := h; exact ⟨B, m, h1, Nat.le_trans h2 he.size, h3.ext he, h4⟩, fun v _ _ h he => by obtain ⟨B, m, h1, h2, h3, h4⟩ := h; exact ⟨B, m, h1, Nat.le_trans h2 he.size, h3.ext he, h4⟩, fun v _ _ h he => by obtain ⟨B, m, h1, h2, h3, h4⟩ := h; exact ⟨B, m, h1, Nat.le_trans h2 he.size, h3.ext he, h4⟩, fun v _ _ h _ => h, fun v _ _ h he => by obtain ⟨B, m, h1, h2, h3, h4⟩ := h; exact ⟨B, m, h1, Nat.le_trans h2 he.size, h3.ext he, h4⟩⟩
  case hstep =>
    simp only [List.length_cons, List.length_nil, Nat.reduceAdd, List.take_succ_cons, List.take_zero, stepsAll, and_true]
    refine ⟨?_, ?_, ?_, ?_, ?_, ?_, ?_, ?_, ?_, ?_, ?_, ?_, ?_, ?_⟩
    · intro x W he f
      have h : x 4 = .pointer (some ⟨w.heap.size + 1, 0, none⟩) := f.1
      have q0 := (rO4.ext he).cell (j := 0) rfl
      have q1 := (rO4.ext he).cell (j := 1) rfl
      have q2 := (rO4.ext he).cell (j := 2) rfl
      have q3 := (rO4.ext he).cell (j := 3) rfl
      go_wp
      exact stepQ_ok rfl (Ext.refl _)
    · intro x W he f
      have h : x 5 = .pointer (some ⟨w.heap.size + 1 + 1, 0, none⟩) := f.1
      have q0 := (rD4.ext he).cell (j := 0) rfl
      have q1 := (rD4.ext he).cell (j := 1) rfl
      go_wp
      exact stepQ_ok rfl (Ext.refl _)
    · intro x W he f
      have h8 : x 8 = .pointer (some ⟨V4.heap.size, 0, none⟩) := f.1
      have h54 : x 54 = opV (dO, ek, n, tx) := f.2.1
      have h55 : x 55 = dotV (d1, dn) := f.2.2.1
      have hs := he.size
      have HC := Lib.hid (updates_any (W := W) (E := V4.heap.size) ek dO n tx (d1, dn))
      go_wp
      refine HC.out.mono ?_
      rintro r W2 ⟨m, rfl, hU, hz, hx2⟩
      dsimp only
      go_wp
      exact stepQ_ok (v := .map (some m)) ⟨W.heap.size, m, hs, hz, hU, rfl⟩ hx2
    · intro x W he f
      have h : x 4 = .pointer (some ⟨w.heap.size + 1, 0, none⟩) := f.1
      go_wp
      exact stepQ_ok rfl (Ext.refl _)
    · intro x W he f
      have h : x 57 = .pointer (some ⟨w.heap.size + 1, 1, none⟩) := f.1
      have q1 := (rO4.ext he).cell (j := 1) rfl
      go_wp
      exact stepQ_ok rfl (Ext.refl _)
    · intro x W he f
      have h : x 58 = St ek := f.1
      have HC := Lib.hid (kind_any ek W)
      go_wp
      refine HC.out.mono ?_
      rintro r W2 ⟨rfl, hx2⟩
      dsimp only
      go_wp
      exact stepQ_ok rfl hx2
    · intro x W he f
      obtain ⟨B, m, b1, b2, hU, h⟩ : ∃ B m, W4.heap.size ≤ B ∧ B + 6 ≤ W.heap.size ∧ UpdAt W B V4.heap.size n tx (d1, dn) m ∧ x 56 = .map (some m) := f.1
      have h59 : x 59 = K8 (kindS ek) := f.2.1
      obtain ⟨u, hu1, hu2⟩ := upd_look hU (kindS ek)
      have hl := hu1 W (Ext.refl _)
      go_wp
      exact stepQ_ok (v := u) ⟨B, m, b1, b2, hU, hu2⟩ (Ext.refl _)
    · intro x W he f
      have h : x 4 = .pointer (some ⟨w.heap.size + 1, 0, none⟩) := f.1
      go_wp
      exact stepQ_ok rfl (Ext.refl _)
    · intro x W he f
      have h : x 61 = .pointer (some ⟨w.heap.size + 1, 0, none⟩) := f.1
      have q0 := (rO4.ext he).cell (j := 0) rfl
      go_wp
      exact stepQ_ok rfl (Ext.refl _)
    · intro x W he f
      obtain ⟨B, m, b1, b2, hU, hI⟩ : ∃ B m, W4.heap.size ≤ B ∧ B + 6 ≤ W.heap.size ∧ UpdAt W B V4.heap.size n tx (d1, dn) m ∧ InnerIs W B (kindS ek) (x 60) := f.1
      have h62 : x 62 = K8 dO := f.2.1
      have hl := hI W (Ext.refl _) dO
      go_wp
      exact stepQ_ok ⟨B, m, b1, b2, hU, rfl⟩ (Ext.refl _)
    · intro x W he f
      obtain ⟨B, m, b1, b2, hU, h⟩ : ∃ B m, W4.heap.size ≤ B ∧ B + 6 ≤ W.heap.size ∧ UpdAt W B V4.heap.size n tx (d1, dn) m ∧ x 63 = .tuple #[(cloOf B (kindS ek) dO).getD .nilFunc, .bool (cloOf B (kindS ek) dO).isSome] := f.1
      go_wp
      exact stepQ_ok ⟨B, m, b1, b2, hU, rfl⟩ (Ext.refl _)
    · intro x W he f
      obtain ⟨B, m, b1, b2, hU, h⟩ : ∃ B m, W4.heap.size ≤ B ∧ B + 6 ≤ W.heap.size ∧ UpdAt W B V4.heap.size n tx (d1, dn) m ∧ x 53 = .tuple #[(cloOf B (kindS ek) dO).getD .nilFunc, .bool (cloOf B (kindS ek) dO).isSome] := f.1
      go_wp
      exact stepQ_ok ⟨B, m, b1, b2, hU, rfl⟩ (Ext.refl _)
    · intro x W he f
      obtain ⟨B, m, b1, b2, hU, h⟩ : ∃ B m, W4.heap.size ≤ B ∧ B + 6 ≤ W.heap.size ∧ UpdAt W B V4.heap.size n tx (d1, dn) m ∧ x 53 = .tuple #[(cloOf B (kindS ek) dO).getD .nilFunc, .bool (cloOf B (kindS ek) dO).isSome] := f.1
      rw [cloOf_some B (kindS ek) ⟨ek, es, ec, ei, (x1, x2, x3)⟩ (dO, ek, n, tx) (d1, dn)] at h
      go_wp
      exact stepQ_ok rfl (Ext.refl _)
    · intro x W he f
      obtain ⟨B, m, b1, b2, hU, h⟩ : ∃ B m, W4.heap.size ≤ B ∧ B + 6 ≤ W.heap.size ∧ UpdAt W B V4.heap.size n tx (d1, dn) m ∧ x 64 = (cloOf B (kindS ek) dO).getD .nilFunc := f.1
      go_wp
      first | exact stepQ_ok ⟨B, m, b1, b2, hU, rfl⟩ (Ext.refl _) | exact stepQ_ok ⟨B, m, b1, b2, hU, h⟩ (Ext.refl _)
  case hend =>
    intro x W he f
    obtain ⟨B, m, hB1, hB2, hU, h9⟩ : ∃ B m, W4.heap.size ≤ B ∧ B + 6 ≤ W.heap.size ∧ UpdAt W B V4.heap.size n tx (d1, dn) m ∧ x 9 = (cloOf B (kindS ek) dO).getD .nilFunc := f.2.2.2.2.2.2.2.2.2.2.2.2.2.1
    have h65 : x 65 = .bool (doE (kindS ek) ⟨ek, es, ec, ei, (x1, x2, x3)⟩ (dO, ek, n, tx) (d1, dn)).isSome := f.2.2.2.2.2.2.2.2.2.2.2.2.1
    clear f
    have hx5 := hx4.trans he
    have rN5 := rN.ext he
    have rD5 := rD4.ext he
    have rR := rR4.ext he
    have HU5 := Lib.hid (HU4.out.ext he)
    have HRE := Lib.hid (show restE ⟨ek, es, ec, ei, (x1, x2, x3)⟩ (dO, ek, n, tx) (d1, dn) = match (doE (kindS ek) ⟨ek, es, ec, ei, (x1, x2, x3)⟩ (dO, ek, n, tx) (d1, dn)) with | none => (noneE, 150) | some p => if p.2 = 0 then ({ p.1 with seen := setM p.1.seen d1 dn }, 0) else (noneE, p.2) from rfl)
    have HDO := do_any (kk := kindS ek) (o := (dO, ek, n, tx)) (d := (d1, dn)) (e := ⟨ek, es, ec, ei, (x1, x2, x3)⟩) hU hn1 hn2 (Nat.lt_of_le_of_lt sm.counts (by decide)) (Nat.lt_of_le_of_lt sm.places (by decide)) rN5 HU5.out (fun b hb => ⟨by omega, by omega⟩) (by omega)
    have hse := @doE_seen (kindS ek) ⟨ek, es, ec, ei, (x1, x2, x3)⟩ (dO, ek, n, tx) (d1, dn)
    generalize doE (kindS ek) ⟨ek, es, ec, ei, (x1, x2, x3)⟩ (dO, ek, n, tx) (d1, dn) = Dd at *
    clear hU he rO4 rD4 rR4 HU4 rN hx4
    cases Dd with
    | none =>
      clear HDO h9 hse
      have HRE2 := Lib.hid HRE.out
      have r0 := rR.cell (j := 0) rfl
      have r1 := rR.cell (j := 1) rfl
      have r2 := rR.cell (j := 2) rfl
      have r3 := rR.cell (j := 3) rfl
      have r4 := rR.cell (j := 4) rfl
      have r5 := rR.cell (j := 5) rfl
      have r6 := rR.cell (j := 6) rfl
      have f0 := rR.frozen 0
      have f1 := rR.frozen 1
      have f2 := rR.frozen 2
      have f3 := rR.frozen 3
      have f4 := rR.frozen 4
      have f5 := rR.frozen 5
      have f6 := rR.frozen 6
      have HX := Lib.hid hx5
      simp only [Option.isSome_none] at h65
      clear rN5 rD5 HU5 HRE
      simp only [List.length_cons, List.length_nil, Nat.reduceAdd, List.take_succ_cons, List.take_zero, List.filterMap_cons, List.filterMap_nil, List.drop_succ_cons, List.drop_zero, putAll, Act.put, List.setIfInBounds_toArray, List.set_cons_succ, List.set_cons_zero, h65]
      go_wp
      go_wp2_with fail
      (try simp only [Exit.inBlock, Exit.then])
      refine bodyPost_ret (v := .tuple #[entV noneE (.slice none 0 0) (.slice none 0 0) (.slice none 0 0), I 150]) (by simp [results, Tryz.f42, go_sem, entV, entC, noneE, r0, r1, r2, r3, r4, r5, r6]) rfl ?_
      have hp := put7_ext (q := w.heap.size + 1 + 1 + 1) HX.out (by omega) noneE (.slice none 0 0) (.slice none 0 0) (.slice none 0 0)
      refine ⟨.slice none 0 0, .slice none 0 0, .slice none 0 0, by (rw [HRE2.out]; try rfl), ?_⟩
      rw [HRE2.out]
      exact ⟨EntAt.none _ _ _ _ _, hp⟩
    | some p =>
      obtain ⟨e1, err⟩ := p
      have HS1 := Lib.hid (hse rfl)
      simp only [Option.isSome_some] at h65
      cases hc : cloOf B (kindS ek) dO with
      | none => rw [hc] at HDO; exact HDO.elim
      | some c =>
        rw [hc] at HDO h9
        obtain ⟨fn, cap, rfl, hen, HCC⟩ := HDO
        simp only [Option.getD_some] at h9
        have HC := Lib.hid HCC
        clear HCC hc hse
        simp only [List.length_cons, List.length_nil, Nat.reduceAdd, List.take_succ_cons, List.take_zero, List.filterMap_cons, List.filterMap_nil, List.drop_succ_cons, List.drop_zero, putAll, Act.put, List.setIfInBounds_toArray, List.set_cons_succ, List.set_cons_zero, h65, h9]
        go_wp
        go_wp2_with fail
        refine HC.out.mono ?_
        rintro r W6 ⟨rfl, hD⟩
        obtain ⟨t2, t3, hE6, hA6, hk6⟩ := hD
        have hx6 := hx5.kept2 hk6 (by omega) (by omega)
        have rR6 := rR.keep (hk6.other _ rR.lt (by omega) (by omega))
        have rD6 := rD5.keep (hk6.other _ rD5.lt (by omega) (by omega))
        have hz6 := hk6.size
        clear HC rR rD5 rN5 HU5 hx5 hk6 hen
        by_cases herr : err = 0
        · subst herr
          have HRE2 := Lib.hid (show restE ⟨ek, es, ec, ei, (x1, x2, x3)⟩ (dO, ek, n, tx) (d1, dn) = ({ e1 with seen := setM e1.seen d1 dn }, 0) from HRE.out)
          have HS := Lib.hid (set_any d1 dn hA6.seen (by rw [HS1.out.1]; exact Nat.le_trans sm.seen (by decide)))
          obtain ⟨T2, t2n, rfl, -, -⟩ := hA6.counts.form
          obtain ⟨T3, t3n, rfl, -, -⟩ := hA6.items.form
          have k1 := hE6.cell (j := 1) rfl
          have dd0 := rD6.cell (j := 0) rfl
          have dd1 := rD6.cell (j := 1) rfl
          have HA6 := Lib.hid hA6
          clear hA6 HRE
          go_wp2_with fail
          refine HS.out.mono ?_
          rintro r W7 ⟨u, rfl, ho, hx7⟩
          obtain ⟨U1, un, rfl, -, -⟩ := ho.form
          have hE7 := hE6.ext hx7
          have rR7 := rR6.ext hx7
          have hf7 := hE7.frozen 1
          have hc7 := hE7.cell (j := 1) rfl
          have hsz7 := hx7.size
          have hE8 := hE7.set (j := 1) (by simp) (.slice U1 (setM e1.seen d1 dn).length un)
          have rR8 := rR7.other (p := ⟨V4.heap.size, 1, none⟩) (by simp; omega) (.slice U1 (setM e1.seen d1 dn).length un)
          simp only [List.set_cons_succ, List.set_cons_zero] at hE8
          have y0 := hE7.cell (j := 0) rfl
          have y1 := hE7.cell (j := 1) rfl
          have y2 := hE7.cell (j := 2) rfl
          have y3 := hE7.cell (j := 3) rfl
          have y4 := hE7.cell (j := 4) rfl
          have y5 := hE7.cell (j := 5) rfl
          have y6 := hE7.cell (j := 6) rfl
          have rr0 := rR7.cell (j := 0) rfl
          have rr1 := rR7.cell (j := 1) rfl
          have rr2 := rR7.cell (j := 2) rfl
          have rr3 := rR7.cell (j := 3) rfl
          have rr4 := rR7.cell (j := 4) rfl
          have rr5 := rR7.cell (j := 5) rfl
          have rr6 := rR7.cell (j := 6) rfl
          have ff0 := rR7.frozen 0
          have ff1 := rR7.frozen 1
          have ff2 := rR7.frozen 2
          have ff3 := rR7.frozen 3
          have ff4 := rR7.frozen 4
          have ff5 := rR7.frozen 5
          have ff6 := rR7.frozen 6
          have z0 := hE8.cell (j := 0) rfl
          have z1 := hE8.cell (j := 1) rfl
          have z2 := hE8.cell (j := 2) rfl
          have z3 := hE8.cell (j := 3) rfl
          have z4 := hE8.cell (j := 4) rfl
          have z5 := hE8.cell (j := 5) rfl
          have z6 := hE8.cell (j := 6) rfl
          have r0 := rR8.cell (j := 0) rfl
          have r1 := rR8.cell (j := 1) rfl
          have r2 := rR8.cell (j := 2) rfl
          have r3 := rR8.cell (j := 3) rfl
          have r4 := rR8.cell (j := 4) rfl
          have r5 := rR8.cell (j := 5) rfl
          have r6 := rR8.cell (j := 6) rfl
          have f0 := rR8.frozen 0
          have f1 := rR8.frozen 1
          have f2 := rR8.frozen 2
          have f3 := rR8.frozen 3
          have f4 := rR8.frozen 4
          have f5 := rR8.frozen 5
          have f6 := rR8.frozen 6
          have HX := Lib.hid (((hx6.trans hx7).set (p := ⟨V4.heap.size, 1, none⟩) (by simp; omega) (.slice U1 (setM e1.seen d1 dn).length un)))
          have HO := Lib.hid ho
          have HX7 := Lib.hid hx7
          clear hE6 hE7 hE8 rR6 rR7 rR8 rD6 ho hx7 hx6 HS k1 dd0 dd1
          go_wp2_with fail
          (try simp only [Exit.inBlock, Exit.then])
          refine bodyPost_ret (v := .tuple #[entV { e1 with seen := setM e1.seen d1 dn } (.slice U1 (setM e1.seen d1 dn).length un) (.slice T2 e1.counts.length t2n) (.slice T3 e1.items.length t3n), I 0]) (by simp [results, Tryz.f42, go_sem, entV, entC, r0, r1, r2, r3, r4, r5, r6, rr0, rr1, rr2, rr3, rr4, rr5, rr6]) rfl ?_
          have hp := put7_ext (q := w.heap.size + 1 + 1 + 1) HX.out (by omega) { e1 with seen := setM e1.seen d1 dn } (.slice U1 (setM e1.seen d1 dn).length un) (.slice T2 e1.counts.length t2n) (.slice T3 e1.items.length t3n)
          refine ⟨.slice U1 (setM e1.seen d1 dn).length un, .slice T2 e1.counts.length t2n, .slice T3 e1.items.length t3n, by (rw [HRE2.out]; try rfl), ?_⟩
          rw [HRE2.out]
          refine ⟨?_, hp⟩
          have hkp : ∀ b, b ≠ V4.heap.size → b ≠ w.heap.size + 1 + 1 + 1 → (put7 (W7.setCell ⟨V4.heap.size, 1, none⟩ (.slice U1 (setM e1.seen d1 dn).length un)) (w.heap.size + 1 + 1 + 1) { e1 with seen := setM e1.seen d1 dn } (.slice U1 (setM e1.seen d1 dn).length un) (.slice T2 e1.counts.length t2n) (.slice T3 e1.items.length t3n)).heap[b]? = W7.heap[b]? := fun b h1 h2 =>
            (put7_heap _ _ _ _ _ _ b h2).trans (Below.heap_setCell _ _ _ _ h1)
          have hA7 := HA6.out.ext HX7.out
          refine ⟨?_, ?_, ?_⟩
          · exact (own_slMark (HO.out.keep fun b hb _ => hkp b (by have := (HO.out.base_le hb).1; omega) (by have := (HO.out.base_le hb).1; omega))).mono (by decide) fun b _ h => by omega
          · exact (hA7.counts.keep (by decide) fun b hb _ => hkp b (by rcases hb with hb | hb <;> omega) (by rcases hb with hb | hb <;> omega)).mono (by decide) fun b _ hb => by rcases hb with hb | hb <;> omega
          · exact (hA7.items.keep (by decide) fun b hb _ => hkp b (by rcases hb with hb | hb <;> omega) (by rcases hb with hb | hb <;> omega)).mono (by decide) fun b _ hb => by rcases hb with hb | hb <;> omega
        · have HRE2 := Lib.hid (show restE ⟨ek, es, ec, ei, (x1, x2, x3)⟩ (dO, ek, n, tx) (d1, dn) = (noneE, err) by rw [HRE.out]; exact if_neg herr)
          have hne2 : ((err : Int) == 0) = false := neI (by omega)
          have r0 := rR6.cell (j := 0) rfl
          have r1 := rR6.cell (j := 1) rfl
          have r2 := rR6.cell (j := 2) rfl
          have r3 := rR6.cell (j := 3) rfl
          have r4 := rR6.cell (j := 4) rfl
          have r5 := rR6.cell (j := 5) rfl
          have r6 := rR6.cell (j := 6) rfl
          have f0 := rR6.frozen 0
          have f1 := rR6.frozen 1
          have f2 := rR6.frozen 2
          have f3 := rR6.frozen 3
          have f4 := rR6.frozen 4
          have f5 := rR6.frozen 5
          have f6 := rR6.frozen 6
          have HX := Lib.hid hx6
          clear hE6 hA6 rD6 HRE hx6 rR6
          go_wp2_with fail
          (try simp only [Exit.inBlock, Exit.then])
          refine bodyPost_ret (v := .tuple #[entV noneE (.slice none 0 0) (.slice none 0 0) (.slice none 0 0), I err]) (by simp [results, Tryz.f42, go_sem, entV, entC, noneE, r0, r1, r2, r3, r4, r5, r6]) rfl ?_
          have hp := put7_ext (q := w.heap.size + 1 + 1 + 1) HX.out (by omega) noneE (.slice none 0 0) (.slice none 0 0) (.slice none 0 0)
          refine ⟨.slice none 0 0, .slice none 0 0, .slice none 0 0, by (rw [HRE2.out]; try rfl), ?_⟩
          rw [HRE2.out]
          exact ⟨EntAt.none _ _ _ _ _, hp⟩

set_option maxRecDepth 100000 in
set_option maxHeartbeats 3000000 in
theorem upd_oknone {S : Nat → Prop} {ek : Str} {es : List Mark} {ec : List Count} {ei : List Item} {x1 : Nat} {x2 : Str} {x3 : Bool} {A1 A2 A3 : Option Addr} {n1 n2 n3 : Nat} {w : World} (dO : Nat) (k : Str) (n : Int) (tx : Str) (d1 : Str) (dn : Nat) (h : EntAt w S ⟨ek, es, ec, ei, (x1, x2, x3)⟩ (.slice A1 es.length n1) (.slice A2 ec.length n2) (.slice A3 ei.length n3)) (hk : keyS k = true) (hne : (ek == k) = false) (hs : sameE ⟨ek, es, ec, ei, (x1, x2, x3)⟩ noneE = true) (hd : (d1 == []) = false) (h2 : 1 ≤ (dn : Int)) (h3 : (dn : Int) ≤ 281474976710656) (hh : hasM es (d1, dn) = false) (sm : SmallE ⟨ek, es, ec, ei, (x1, x2, x3)⟩) (hn1 : -9223372036854775808 ≤ n) (hn2 : n ≤ 9223372036854775807) :
    Calls Tryz.prog 42 #[.agg #[St ek, .slice A1 es.length n1, .slice A2 ec.length n2, .slice A3 ei.length n3, U x1, St x2, .bool x3], .agg #[K8 dO, St k, I n, St tx], .agg #[St d1, U dn]] w fun r w' => ∃ u1 u2 u3, r = .returned (.tuple #[entV (restE ⟨k, es, ec, ei, (x1, x2, x3)⟩ (dO, k, n, tx) (d1, dn)).1 u1 u2 u3, I (restE ⟨k, es, ec, ei, (x1, x2, x3)⟩ (dO, k, n, tx) (d1, dn)).2]) ∧ EntAt w' (fun b => w.heap.size ≤ b) (restE ⟨k, es, ec, ei, (x1, x2, x3)⟩ (dO, k, n, tx) (d1, dn)).1 u1 u2 u3 ∧ Ext w w' := by
  obtain ⟨W0, hW0⟩ : ∃ W0, W0 = (((w.alloc (.cells #[St ek, .slice A1 es.length n1, .slice A2 ec.length n2, .slice A3 ei.length n3, U x1, St x2, .bool x3] 37)).alloc (.cells #[K8 dO, St k, I n, St tx] 42)).alloc (.cells #[St d1, U dn] 97)).alloc (.cells #[St [], .slice none 0 0, .slice none 0 0, .slice none 0 0, .int .u64 0, St [], .bool false] 37) := ⟨_, rfl⟩
  have hx0 : Ext w W0 := by rw [hW0]; exact ((((Ext.refl w).alloc _).alloc _).alloc _).alloc _
  have hz0 : W0.heap.size = w.heap.size + 1 + 1 + 1 + 1 := by rw [hW0]; simp
  have rE0 : RowIs W0 w.heap.size 37 [St ek, .slice A1 es.length n1, .slice A2 ec.length n2, .slice A3 ei.length n3, U x1, St x2, .bool x3] [] := by rw [hW0]; exact (((rowNew w _ _).alloc _).alloc _).alloc _
  have rO0 : RowIs W0 (w.heap.size + 1) 42 [K8 dO, St k, I n, St tx] [] := by rw [hW0]; have h := rowNew (w.alloc (.cells #[St ek, .slice A1 es.length n1, .slice A2 ec.length n2, .slice A3 ei.length n3, U x1, St x2, .bool x3] 37)) 42 [K8 dO, St k, I n, St tx]; simp only [World.size_alloc] at h; exact (h.alloc _).alloc _
  have rD0 : RowIs W0 (w.heap.size + 1 + 1) 97 [St d1, U dn] [] := by rw [hW0]; have h := rowNew ((w.alloc (.cells #[St ek, .slice A1 es.length n1, .slice A2 ec.length n2, .slice A3 ei.length n3, U x1, St x2, .bool x3] 37)).alloc (.cells #[K8 dO, St k, I n, St tx] 42)) 97 [St d1, U dn]; simp only [World.size_alloc] at h; exact h.alloc _
  have rR0 : RowIs W0 (w.heap.size + 1 + 1 + 1) 37 [St [], .slice none 0 0, .slice none 0 0, .slice none 0 0, .int .u64 0, St [], .bool false] [] := by rw [hW0]; have h := rowNew (((w.alloc (.cells #[St ek, .slice A1 es.length n1, .slice A2 ec.length n2, .slice A3 ei.length n3, U x1, St x2, .bool x3] 37)).alloc (.cells #[K8 dO, St k, I n, St tx] 42)).alloc (.cells #[St d1, U dn] 97)) 37 [St [], .slice none 0 0, .slice none 0 0, .slice none 0 0, .int .u64 0, St [], .bool false]; simp only [World.size_alloc] at h; exact h
  have H1 := Lib.hid (key_any k W0)
  have HE := Lib.hid h
  rw [hW0] at H1
  clear h
  go_enter Tryz.func42, Tryz.ntmps42
  go_wp2_with fail
  refine H1.out.mono ?_
  rintro r V ⟨rfl, hx1⟩
  obtain ⟨hx1, hzz, rE, rO, rD, rR⟩ : Ext w V ∧ w.heap.size + 4 ≤ V.heap.size ∧ RowIs V w.heap.size 37 [St ek, .slice A1 es.length n1, .slice A2 ec.length n2, .slice A3 ei.length n3, U x1, St x2, .bool x3] [] ∧ RowIs V (w.heap.size + 1) 42 [K8 dO, St k, I n, St tx] [] ∧ RowIs V (w.heap.size + 1 + 1) 97 [St d1, U dn] [] ∧ RowIs V (w.heap.size + 1 + 1 + 1) 37 [St [], .slice none 0 0, .slice none 0 0, .slice none 0 0, .int .u64 0, St [], .bool false] [] := by
    have H0 : Ext W0 V := by rw [hW0]; exact hx1
    exact ⟨hx0.trans H0, by have := H0.size; omega, rE0.ext H0, rO0.ext H0, rD0.ext H0, rR0.ext H0⟩
  clear hx0 hz0 rE0 rO0 rD0 rR0 H1 hW0
  rw [hk]
  have HN := Lib.hid (noneE_any (HE.out.ext hx1))
  have e0 := rE.cell (j := 0) rfl
  have e1 := rE.cell (j := 1) rfl
  have e2 := rE.cell (j := 2) rfl
  have e3 := rE.cell (j := 3) rfl
  have e4 := rE.cell (j := 4) rfl
  have e5 := rE.cell (j := 5) rfl
  have e6 := rE.cell (j := 6) rfl
  have o0 := rO.cell (j := 0) rfl
  have o1 := rO.cell (j := 1) rfl
  have o2 := rO.cell (j := 2) rfl
  have o3 := rO.cell (j := 3) rfl
  go_wp2_with fail
  refine HN.out.mono ?_
  rintro r V2 ⟨rfl, hx2⟩
  rw [hs]
  obtain ⟨hx1, hzz, rE, rO, rD, rR⟩ : Ext w V2 ∧ w.heap.size + 4 ≤ V2.heap.size ∧ RowIs V2 w.heap.size 37 [St ek, .slice A1 es.length n1, .slice A2 ec.length n2, .slice A3 ei.length n3, U x1, St x2, .bool x3] [] ∧ RowIs V2 (w.heap.size + 1) 42 [K8 dO, St k, I n, St tx] [] ∧ RowIs V2 (w.heap.size + 1 + 1) 97 [St d1, U dn] [] ∧ RowIs V2 (w.heap.size + 1 + 1 + 1) 37 [St [], .slice none 0 0, .slice none 0 0, .slice none 0 0, .int .u64 0, St [], .bool false] [] := ⟨hx1.trans hx2, by have := hx2.size; omega, rE.ext hx2, rO.ext hx2, rD.ext hx2, rR.ext hx2⟩
  clear hx2 e0 e1 e2 e3 e4 e5 e6 o0 o1 o2 o3 HN
  have HH := Lib.hid (has_any (d1, dn) (HE.out.seen.ext (by decide) hx1))
  have e0 := rE.cell (j := 0) rfl
  have e1 := rE.cell (j := 1) rfl
  have e2 := rE.cell (j := 2) rfl
  have e3 := rE.cell (j := 3) rfl
  have e4 := rE.cell (j := 4) rfl
  have e5 := rE.cell (j := 5) rfl
  have e6 := rE.cell (j := 6) rfl
  have o0 := rO.cell (j := 0) rfl
  have o1 := rO.cell (j := 1) rfl
  have o2 := rO.cell (j := 2) rfl
  have o3 := rO.cell (j := 3) rfl
  have dc0 := rD.cell (j := 0) rfl
  have dc1 := rD.cell (j := 1) rfl
  go_wp2_with fail
  all_goals (try (exfalso; omega))
  refine HH.out.mono ?_
  rintro r V3 ⟨rfl, hx3⟩
  rw [hh]
  obtain ⟨hx1, hzz, rE, rO, rD, rR⟩ : Ext w V3 ∧ w.heap.size + 4 ≤ V3.heap.size ∧ RowIs V3 w.heap.size 37 [St ek, .slice A1 es.length n1, .slice A2 ec.length n2, .slice A3 ei.length n3, U x1, St x2, .bool x3] [] ∧ RowIs V3 (w.heap.size + 1) 42 [K8 dO, St k, I n, St tx] [] ∧ RowIs V3 (w.heap.size + 1 + 1) 97 [St d1, U dn] [] ∧ RowIs V3 (w.heap.size + 1 + 1 + 1) 37 [St [], .slice none 0 0, .slice none 0 0, .slice none 0 0, .int .u64 0, St [], .bool false] [] := ⟨hx1.trans hx3, by have := hx3.size; omega, rE.ext hx3, rO.ext hx3, rD.ext hx3, rR.ext hx3⟩
  clear hx3 HH
  have HCP := Lib.hid (copyE_any (HE.out.ext hx1) (Nat.le_trans sm.seen (by decide)) (Nat.le_trans sm.counts (by decide)) (Nat.le_trans sm.items (by decide)) (fun it hit => Nat.le_trans (sm.dots it hit) (by omega)))
  have p0 := rE.cell (j := 0) rfl
  have p1 := rE.cell (j := 1) rfl
  have p2 := rE.cell (j := 2) rfl
  have p3 := rE.cell (j := 3) rfl
  have p4 := rE.cell (j := 4) rfl
  have p5 := rE.cell (j := 5) rfl
  have p6 := rE.cell (j := 6) rfl
  go_wp2_with fail
  refine HCP.out.mono ?_
  rintro r V4 ⟨u1, u2, u3, rfl, hu, hx4⟩
  have hzb := hx4.size
  obtain ⟨hx1, hzz, rE, rO, rD, rR⟩ : Ext w V4 ∧ w.heap.size + 4 ≤ V4.heap.size ∧ RowIs V4 w.heap.size 37 [St ek, .slice A1 es.length n1, .slice A2 ec.length n2, .slice A3 ei.length n3, U x1, St x2, .bool x3] [] ∧ RowIs V4 (w.heap.size + 1) 42 [K8 dO, St k, I n, St tx] [] ∧ RowIs V4 (w.heap.size + 1 + 1) 97 [St d1, U dn] [] ∧ RowIs V4 (w.heap.size + 1 + 1 + 1) 37 [St [], .slice none 0 0, .slice none 0 0, .slice none 0 0, .int .u64 0, St [], .bool false] [] := ⟨hx1.trans hx4, by have := hx4.size; omega, rE.ext hx4, rO.ext hx4, rD.ext hx4, rR.ext hx4⟩
  obtain ⟨B1, m1, rfl, -, -⟩ := hu.seen.form
  obtain ⟨B2, m2, rfl, -, -⟩ := hu.counts.form
  obtain ⟨B3, m3, rfl, -, -⟩ := hu.items.form
  have HU := Lib.hid (show EntAt V4 (fun b => V3.heap.size ≤ b ∧ b < V4.heap.size) ⟨k, es, ec, ei, (x1, x2, x3)⟩ (.slice B1 es.length m1) (.slice B2 ec.length m2) (.slice B3 ei.length m3) from (show EntAt V4 (fun b => V3.heap.size ≤ b) ⟨k, es, ec, ei, (x1, x2, x3)⟩ _ _ _ from ⟨hu.at.seen, hu.at.counts, hu.at.items⟩).mono fun b hb h => ⟨h, hb⟩)
  clear hx4 hu HCP
  have hlt1 : w.heap.size + 1 < V4.heap.size := by omega
  have q0 := rO.cell (j := 0) rfl
  have q1 := rO.cell (j := 1) rfl
  have q2 := rO.cell (j := 2) rfl
  have q3 := rO.cell (j := 3) rfl
  go_wp2_with fail
  have rN := rowNew V4 37 [St k, .slice B1 es.length m1, .slice B2 ec.length m2, .slice B3 ei.length m3, U x1, St x2, .bool x3]
  have hxa := (Ext.refl V4).alloc (.cells #[St k, .slice B1 es.length m1, .slice B2 ec.length m2, .slice B3 ei.length m3, U x1, St x2, .bool x3] 37)
  have rO4 := rO.ext hxa
  have rD4 := rD.ext hxa
  have rR4 := rR.ext hxa
  have HU4 := Lib.hid (HU.out.ext hxa)
  have hx4 := hx1.trans hxa
  have hzn := rN.lt
  generalize hW4 : V4.alloc (.cells #[St k, .slice B1 es.length m1, .slice B2 ec.length m2, .slice B3 ei.length m3, U x1, St x2, .bool x3] 37) = W4 at *
  have hv4 := hxa.size
  clear hW4 rO rD rR rE hx1 hxa HU q0 q1 q2 q3
  refine wp_region_facts [fun v _ => v = opV (dO, k, n, tx),
    fun v _ => v = dotV (d1, dn),
    fun v W2 => ∃ B m, W4.heap.size ≤ B ∧ B + 6 ≤ W2.heap.size ∧ UpdAt W2 B V4.heap.size n tx (d1, dn) m ∧ v = .map (some m),
    fun v _ => v = .pointer (some ⟨w.heap.size + 1, 1, none⟩),
    fun v _ => v = St k,
    fun v _ => v = K8 (kindS k),
    fun v W2 => ∃ B m, W4.heap.size ≤ B ∧ B + 6 ≤ W2.heap.size ∧ UpdAt W2 B V4.heap.size n tx (d1, dn) m ∧ InnerIs W2 B (kindS k) v,
    fun v _ => v = .pointer (some ⟨w.heap.size + 1, 0, none⟩),
    fun v _ => v = K8 dO,
    fun v W2 => ∃ B m, W4.heap.size ≤ B ∧ B + 6 ≤ W2.heap.size ∧ UpdAt W2 B V4.heap.size n tx (d1, dn) m ∧ v = .tuple #[(cloOf B (kindS k) dO).getD .nilFunc, .bool (cloOf B (kindS k) dO).isSome],
    fun v W2 => ∃ B m, W4.heap.size ≤ B ∧ B + 6 ≤ W2.heap.size ∧ UpdAt W2 B V4.heap.size n tx (d1, dn) m ∧ v = .tuple #[(cloOf B (kindS k) dO).getD .nilFunc, .bool (cloOf B (kindS k) dO).isSome],
    fun v W2 => ∃ B m, W4.heap.size ≤ B ∧ B + 6 ≤ W2.heap.size ∧ UpdAt W2 B V4.heap.size n tx (d1, dn) m ∧ v = (cloOf B (kindS k) dO).getD .nilFunc,
    fun v _ => v = .bool (doE (kindS k) ⟨k, es, ec, ei, (x1, x2, x3)⟩ (dO, k, n, tx) (d1, dn)).isSome,
    fun v W2 => ∃ B m, W4.heap.size ≤ B ∧ B + 6 ≤ W2.heap.size ∧ UpdAt W2 B V4.heap.size n tx (d1, dn) m ∧ v = (cloOf B (kindS k) dO).getD .nilFunc] rfl (by kernel_rfl) ?hR ?hstep ?hend
  case hR =>
    simp only [List.mem_cons, List.not_mem_nil, or_false, forall_eq_or_imp, forall_eq]
    exact ⟨fun v _ _ h _ => h, fun v _ _ h _ => h, fun v _ _ h he => by obtain ⟨B, m, h1, h2, h3, h4⟩ := h; exact ⟨B, m, h1, Nat.le_trans h2 he.size, h3.ext he, h4⟩, fun v _ _ h _ => h, fun v _ _ h _ => h, fun v _ _ h _ => h, fun v _ _ h he => by obtain ⟨B, m, h1, h2, h3, h4⟩ := h; exact ⟨B, m, h1, Nat.le_trans h2 he.size, h3.ext he, h4.ext he⟩, fun v _ _ h _ => h, fun v _ _ h _ => h, fun v _ _ h he => by obtain ⟨B, m, h1, h2, h3, h4⟩ := h; exact ⟨B, m, h1, Nat.le_trans h2 he.size, h3.ext he, h4⟩, fun v _ _ h he => by obtain ⟨B, m, h1, h2, h3, h4⟩ := h; exact ⟨B, m, h1, Nat.le_trans h2 he.size, h3.ext he, h4⟩, fun v _ _ h he => by obtain ⟨B, m, h1, h2, h3, h4⟩ := h; exact ⟨B, m, h1, Nat.le_trans h2 he.size, h3.ext he, h4⟩, fun v _ _ h _ => h, fun v _ _ h he => by obtain ⟨B, m, h1, h2, h3, h4⟩ := h; exact ⟨B, m, h1, Nat.le_trans h2 he.size, h3.ext he, h4⟩⟩
  case hstep =>
    simp only [List.length_cons, List.length_nil, Nat.reduceAdd, List.take_succ_cons, List.take_zero, stepsAll, and_true]
    refine ⟨?_, ?_, ?_, ?_, ?_, ?_, ?_, ?_, ?_, ?_, ?_, ?_, ?_, ?_⟩
    · intro x W he f
      have h : x 4 = .pointer (some ⟨w.heap.size + 1, 0, none⟩) := f.1
      have q0 := (rO4.ext he).cell (j := 0) rfl
      have q1 := (rO4.ext he).cell (j := 1) rfl
      have q2 := (rO4.ext he).cell (j := 2) rfl
      have q3 := (rO4.ext he).cell (j := 3) rfl
      go_wp
      exact stepQ_ok rfl (Ext.refl _)
    · intro x W he f
      have h : x 5 = .pointer (some ⟨w.heap.size + 1 + 1, 0, none⟩) := f.1
      have q0 := (rD4.ext he).cell (j := 0) rfl
      have q1 := (rD4.ext he).cell (j := 1) rfl
      go_wp
      exact stepQ_ok rfl (Ext.refl _)
    · intro x W he f
      have h8 : x 8 = .pointer (some ⟨V4.heap.size, 0, none⟩) := f.1
      have h54 : x 54 = opV (dO, k, n, tx) := f.2.1
      have h55 : x 55 = dotV (d1, dn) := f.2.2.1
      have hs := he.size
      have HC := Lib.hid (updates_any (W := W) (E := V4.heap.size) k dO n tx (d1, dn))
      go_wp
      refine HC.out.mono ?_
      rintro r W2 ⟨m, rfl, hU, hz, hx2⟩
      dsimp only
      go_wp
      exact stepQ_ok (v := .map (some m)) ⟨W.heap.size, m, hs, hz, hU, rfl⟩ hx2
    · intro x W he f
      have h : x 4 = .pointer (some ⟨w.heap.size + 1, 0, none⟩) := f.1
      go_wp
      exact stepQ_ok rfl (Ext.refl _)
    · intro x W he f
      have h : x 57 = .pointer (some ⟨w.heap.size + 1, 1, none⟩) := f.1
      have q1 := (rO4.ext he).cell (j := 1) rfl
      go_wp
      exact stepQ_ok rfl (Ext.refl _)
    · intro x W he f
      have h : x 58 = St k := f.1
      have HC := Lib.hid (kind_any k W)
      go_wp
      refine HC.out.mono ?_
      rintro r W2 ⟨rfl, hx2⟩
      dsimp only
      go_wp
      exact stepQ_ok rfl hx2
    · intro x W he f
      obtain ⟨B, m, b1, b2, hU, h⟩ : ∃ B m, W4.heap.size ≤ B ∧ B + 6 ≤ W.heap.size ∧ UpdAt W B V4.heap.size n tx (d1, dn) m ∧ x 56 = .map (some m) := f.1
      have h59 : x 59 = K8 (kindS k) := f.2.1
      obtain ⟨u, hu1, hu2⟩ := upd_look hU (kindS k)
      have hl := hu1 W (Ext.refl _)
      go_wp
      exact stepQ_ok (v := u) ⟨B, m, b1, b2, hU, hu2⟩ (Ext.refl _)
    · intro x W he f
      have h : x 4 = .pointer (some ⟨w.heap.size + 1, 0, none⟩) := f.1
      go_wp
      exact stepQ_ok rfl (Ext.refl _)
    · intro x W he f
      have h : x 61 = .pointer (some ⟨w.heap.size + 1, 0, none⟩) := f.1
      have q0 := (rO4.ext he).cell (j := 0) rfl
      go_wp
      exact stepQ_ok rfl (Ext.refl _)
    · intro x W he f
      obtain ⟨B, m, b1, b2, hU, hI⟩ : ∃ B m, W4.heap.size ≤ B ∧ B + 6 ≤ W.heap.size ∧ UpdAt W B V4.heap.size n tx (d1, dn) m ∧ InnerIs W B (kindS k) (x 60) := f.1
      have h62 : x 62 = K8 dO := f.2.1
      have hl := hI W (Ext.refl _) dO
      go_wp
      exact stepQ_ok ⟨B, m, b1, b2, hU, rfl⟩ (Ext.refl _)
    · intro x W he f
      obtain ⟨B, m, b1, b2, hU, h⟩ : ∃ B m, W4.heap.size ≤ B ∧ B + 6 ≤ W.heap.size ∧ UpdAt W B V4.heap.size n tx (d1, dn) m ∧ x 63 = .tuple #[(cloOf B (kindS k) dO).getD .nilFunc, .bool (cloOf B (kindS k) dO).isSome] := f.1
      go_wp
      exact stepQ_ok ⟨B, m, b1, b2, hU, rfl⟩ (Ext.refl _)
    · intro x W he f
      obtain ⟨B, m, b1, b2, hU, h⟩ : ∃ B m, W4.heap.size ≤ B ∧ B + 6 ≤ W.heap.size ∧ UpdAt W B V4.heap.size n tx (d1, dn) m ∧ x 53 = .tuple #[(cloOf B (kindS k) dO).getD .nilFunc, .bool (cloOf B (kindS k) dO).isSome] := f.1
      go_wp
      exact stepQ_ok ⟨B, m, b1, b2, hU, rfl⟩ (Ext.refl _)
    · intro x W he f
      obtain ⟨B, m, b1, b2, hU, h⟩ : ∃ B m, W4.heap.size ≤ B ∧ B + 6 ≤ W.heap.size ∧ UpdAt W B V4.heap.size n tx (d1, dn) m ∧ x 53 = .tuple #[(cloOf B (kindS k) dO).getD .nilFunc, .bool (cloOf B (kindS k) dO).isSome] := f.1
      rw [cloOf_some B (kindS k) ⟨k, es, ec, ei, (x1, x2, x3)⟩ (dO, k, n, tx) (d1, dn)] at h
      go_wp
      exact stepQ_ok rfl (Ext.refl _)
    · intro x W he f
      obtain ⟨B, m, b1, b2, hU, h⟩ : ∃ B m, W4.heap.size ≤ B ∧ B + 6 ≤ W.heap.size ∧ UpdAt W B V4.heap.size n tx (d1, dn) m ∧ x 64 = (cloOf B (kindS k) dO).getD .nilFunc := f.1
      go_wp
      first | exact stepQ_ok ⟨B, m, b1, b2, hU, rfl⟩ (Ext.refl _) | exact stepQ_ok ⟨B, m, b1, b2, hU, h⟩ (Ext.refl _)
  case hend =>
    intro x W he f
    obtain ⟨B, m, hB1, hB2, hU, h9⟩ : ∃ B m, W4.heap.size ≤ B ∧ B + 6 ≤ W.heap.size ∧ UpdAt W B V4.heap.size n tx (d1, dn) m ∧ x 9 = (cloOf B (kindS k) dO).getD .nilFunc := f.2.2.2.2.2.2.2.2.2.2.2.2.2.1
    have h65 : x 65 = .bool (doE (kindS k) ⟨k, es, ec, ei, (x1, x2, x3)⟩ (dO, k, n, tx) (d1, dn)).isSome := f.2.2.2.2.2.2.2.2.2.2.2.2.1
    clear f
    have hx5 := hx4.trans he
    have rN5 := rN.ext he
    have rD5 := rD4.ext he
    have rR := rR4.ext he
    have HU5 := Lib.hid (HU4.out.ext he)
    have HRE := Lib.hid (show restE ⟨k, es, ec, ei, (x1, x2, x3)⟩ (dO, k, n, tx) (d1, dn) = match (doE (kindS k) ⟨k, es, ec, ei, (x1, x2, x3)⟩ (dO, k, n, tx) (d1, dn)) with | none => (noneE, 150) | some p => if p.2 = 0 then ({ p.1 with seen := setM p.1.seen d1 dn }, 0) else (noneE, p.2) from rfl)
    have HDO := do_any (kk := kindS k) (o := (dO, k, n, tx)) (d := (d1, dn)) (e := ⟨k, es, ec, ei, (x1, x2, x3)⟩) hU hn1 hn2 (Nat.lt_of_le_of_lt sm.counts (by decide)) (Nat.lt_of_le_of_lt sm.places (by decide)) rN5 HU5.out (fun b hb => ⟨by omega, by omega⟩) (by omega)
    have hse := @doE_seen (kindS k) ⟨k, es, ec, ei, (x1, x2, x3)⟩ (dO, k, n, tx) (d1, dn)
    generalize doE (kindS k) ⟨k, es, ec, ei, (x1, x2, x3)⟩ (dO, k, n, tx) (d1, dn) = Dd at *
    clear hU he rO4 rD4 rR4 HU4 rN hx4
    cases Dd with
    | none =>
      clear HDO h9 hse
      have HRE2 := Lib.hid HRE.out
      have r0 := rR.cell (j := 0) rfl
      have r1 := rR.cell (j := 1) rfl
      have r2 := rR.cell (j := 2) rfl
      have r3 := rR.cell (j := 3) rfl
      have r4 := rR.cell (j := 4) rfl
      have r5 := rR.cell (j := 5) rfl
      have r6 := rR.cell (j := 6) rfl
      have f0 := rR.frozen 0
      have f1 := rR.frozen 1
      have f2 := rR.frozen 2
      have f3 := rR.frozen 3
      have f4 := rR.frozen 4
      have f5 := rR.frozen 5
      have f6 := rR.frozen 6
      have HX := Lib.hid hx5
      simp only [Option.isSome_none] at h65
      clear rN5 rD5 HU5 HRE
      simp only [List.length_cons, List.length_nil, Nat.reduceAdd, List.take_succ_cons, List.take_zero, List.filterMap_cons, List.filterMap_nil, List.drop_succ_cons, List.drop_zero, putAll, Act.put, List.setIfInBounds_toArray, List.set_cons_succ, List.set_cons_zero, h65]
      go_wp
      go_wp2_with fail
      (try simp only [Exit.inBlock, Exit.then])
      refine bodyPost_ret (v := .tuple #[entV noneE (.slice none 0 0) (.slice none 0 0) (.slice none 0 0), I 150]) (by simp [results, Tryz.f42, go_sem, entV, entC, noneE, r0, r1, r2, r3, r4, r5, r6]) rfl ?_
      have hp := put7_ext (q := w.heap.size + 1 + 1 + 1) HX.out (by omega) noneE (.slice none 0 0) (.slice none 0 0) (.slice none 0 0)
      refine ⟨.slice none 0 0, .slice none 0 0, .slice none 0 0, by (rw [HRE2.out]; try rfl), ?_⟩
      rw [HRE2.out]
      exact ⟨EntAt.none _ _ _ _ _, hp⟩
    | some p =>
      obtain ⟨e1, err⟩ := p
      have HS1 := Lib.hid (hse rfl)
      simp only [Option.isSome_some] at h65
      cases hc : cloOf B (kindS k) dO with
      | none => rw [hc] at HDO; exact HDO.elim
      | some c =>
        rw [hc] at HDO h9
        obtain ⟨fn, cap, rfl, hen, HCC⟩ := HDO
        simp only [Option.getD_some] at h9
        have HC := Lib.hid HCC
        clear HCC hc hse
        simp only [List.length_cons, List.length_nil, Nat.reduceAdd, List.take_succ_cons, List.take_zero, List.filterMap_cons, List.filterMap_nil, List.drop_succ_cons, List.drop_zero, putAll, Act.put, List.setIfInBounds_toArray, List.set_cons_succ, List.set_cons_zero, h65, h9]
        go_wp
        go_wp2_with fail
        refine HC.out.mono ?_
        rintro r W6 ⟨rfl, hD⟩
        obtain ⟨t2, t3, hE6, hA6, hk6⟩ := hD
        have hx6 := hx5.kept2 hk6 (by omega) (by omega)
        have rR6 := rR.keep (hk6.other _ rR.lt (by omega) (by omega))
        have rD6 := rD5.keep (hk6.other _ rD5.lt (by omega) (by omega))
        have hz6 := hk6.size
        clear HC rR rD5 rN5 HU5 hx5 hk6 hen
        by_cases herr : err = 0
        · subst herr
          have HRE2 := Lib.hid (show restE ⟨k, es, ec, ei, (x1, x2, x3)⟩ (dO, k, n, tx) (d1, dn) = ({ e1 with seen := setM e1.seen d1 dn }, 0) from HRE.out)
          have HS := Lib.hid (set_any d1 dn hA6.seen (by rw [HS1.out.1]; exact Nat.le_trans sm.seen (by decide)))
          obtain ⟨T2, t2n, rfl, -, -⟩ := hA6.counts.form
          obtain ⟨T3, t3n, rfl, -, -⟩ := hA6.items.form
          have k1 := hE6.cell (j := 1) rfl
          have dd0 := rD6.cell (j := 0) rfl
          have dd1 := rD6.cell (j := 1) rfl
          have HA6 := Lib.hid hA6
          clear hA6 HRE
          go_wp2_with fail
          refine HS.out.mono ?_
          rintro r W7 ⟨u, rfl, ho, hx7⟩
          obtain ⟨U1, un, rfl, -, -⟩ := ho.form
          have hE7 := hE6.ext hx7
          have rR7 := rR6.ext hx7
          have hf7 := hE7.frozen 1
          have hc7 := hE7.cell (j := 1) rfl
          have hsz7 := hx7.size
          have hE8 := hE7.set (j := 1) (by simp) (.slice U1 (setM e1.seen d1 dn).length un)
          have rR8 := rR7.other (p := ⟨V4.heap.size, 1, none⟩) (by simp; omega) (.slice U1 (setM e1.seen d1 dn).length un)
          simp only [List.set_cons_succ, List.set_cons_zero] at hE8
          have y0 := hE7.cell (j := 0) rfl
          have y1 := hE7.cell (j := 1) rfl
          have y2 := hE7.cell (j := 2) rfl
          have y3 := hE7.cell (j := 3) rfl
          have y4 := hE7.cell (j := 4) rfl
          have y5 := hE7.cell (j := 5) rfl
          have y6 := hE7.cell (j := 6) rfl
          have rr0 := rR7.cell (j := 0) rfl
          have rr1 := rR7.cell (j := 1) rfl
          have rr2 := rR7.cell (j := 2) rfl
          have rr3 := rR7.cell (j := 3) rfl
          have rr4 := rR7.cell (j := 4) rfl
          have rr5 := rR7.cell (j := 5) rfl
          have rr6 := rR7.cell (j := 6) rfl
          have ff0 := rR7.frozen 0
          have ff1 := rR7.frozen 1
          have ff2 := rR7.frozen 2
          have ff3 := rR7.frozen 3
          have ff4 := rR7.frozen 4
          have ff5 := rR7.frozen 5
          have ff6 := rR7.frozen 6
          have z0 := hE8.cell (j := 0) rfl
          have z1 := hE8.cell (j := 1) rfl
          have z2 := hE8.cell (j := 2) rfl
          have z3 := hE8.cell (j := 3) rfl
          have z4 := hE8.cell (j := 4) rfl
          have z5 := hE8.cell (j := 5) rfl
          have z6 := hE8.cell (j := 6) rfl
          have r0 := rR8.cell (j := 0) rfl
          have r1 := rR8.cell (j := 1) rfl
          have r2 := rR8.cell (j := 2) rfl
          have r3 := rR8.cell (j := 3) rfl
          have r4 := rR8.cell (j := 4) rfl
          have r5 := rR8.cell (j := 5) rfl
          have r6 := rR8.cell (j := 6) rfl
          have f0 := rR8.frozen 0
          have f1 := rR8.frozen 1
          have f2 := rR8.frozen 2
          have f3 := rR8.frozen 3
          have f4 := rR8.frozen 4
          have f5 := rR8.frozen 5
          have f6 := rR8.frozen 6
          have HX := Lib.hid (((hx6.trans hx7).set (p := ⟨V4.heap.size, 1, none⟩) (by simp; omega) (.slice U1 (setM e1.seen d1 dn).length un)))
          have HO := Lib.hid ho
          have HX7 := Lib.hid hx7
          clear hE6 hE7 hE8 rR6 rR7 rR8 rD6 ho hx7 hx6 HS k1 dd0 dd1
          go_wp2_with fail
          (try simp only [Exit.inBlock, Exit.then])
          refine bodyPost_ret (v := .tuple #[entV { e1 with seen := setM e1.seen d1 dn } (.slice U1 (setM e1.seen d1 dn).length un) (.slice T2 e1.counts.length t2n) (.slice T3 e1.items.length t3n), I 0]) (by simp [results, Tryz.f42, go_sem, entV, entC, r0, r1, r2, r3, r4, r5, r6, rr0, rr1, rr2, rr3, rr4, rr5, rr6]) rfl ?_
          have hp := put7_ext (q := w.heap.size + 1 + 1 + 1) HX.out (by omega) { e1 with seen := setM e1.seen d1 dn } (.slice U1 (setM e1.seen d1 dn).length un) (.slice T2 e1.counts.length t2n) (.slice T3 e1.items.length t3n)
          refine ⟨.slice U1 (setM e1.seen d1 dn).length un, .slice T2 e1.counts.length t2n, .slice T3 e1.items.length t3n, by (rw [HRE2.out]; try rfl), ?_⟩
          rw [HRE2.out]
          refine ⟨?_, hp⟩
          have hkp : ∀ b, b ≠ V4.heap.size → b ≠ w.heap.size + 1 + 1 + 1 → (put7 (W7.setCell ⟨V4.heap.size, 1, none⟩ (.slice U1 (setM e1.seen d1 dn).length un)) (w.heap.size + 1 + 1 + 1) { e1 with seen := setM e1.seen d1 dn } (.slice U1 (setM e1.seen d1 dn).length un) (.slice T2 e1.counts.length t2n) (.slice T3 e1.items.length t3n)).heap[b]? = W7.heap[b]? := fun b h1 h2 =>
            (put7_heap _ _ _ _ _ _ b h2).trans (Below.heap_setCell _ _ _ _ h1)
          have hA7 := HA6.out.ext HX7.out
          refine ⟨?_, ?_, ?_⟩
          · exact (own_slMark (HO.out.keep fun b hb _ => hkp b (by have := (HO.out.base_le hb).1; omega) (by have := (HO.out.base_le hb).1; omega))).mono (by decide) fun b _ h => by omega
          · exact (hA7.counts.keep (by decide) fun b hb _ => hkp b (by rcases hb with hb | hb <;> omega) (by rcases hb with hb | hb <;> omega)).mono (by decide) fun b _ hb => by rcases hb with hb | hb <;> omega
          · exact (hA7.items.keep (by decide) fun b hb _ => hkp b (by rcases hb with hb | hb <;> omega) (by rcases hb with hb | hb <;> omega)).mono (by decide) fun b _ hb => by rcases hb with hb | hb <;> omega
        · have HRE2 := Lib.hid (show restE ⟨k, es, ec, ei, (x1, x2, x3)⟩ (dO, k, n, tx) (d1, dn) = (noneE, err) by rw [HRE.out]; exact if_neg herr)
          have hne2 : ((err : Int) == 0) = false := neI (by omega)
          have r0 := rR6.cell (j := 0) rfl
          have r1 := rR6.cell (j := 1) rfl
          have r2 := rR6.cell (j := 2) rfl
          have r3 := rR6.cell (j := 3) rfl
          have r4 := rR6.cell (j := 4) rfl
          have r5 := rR6.cell (j := 5) rfl
          have r6 := rR6.cell (j := 6) rfl
          have f0 := rR6.frozen 0
          have f1 := rR6.frozen 1
          have f2 := rR6.frozen 2
          have f3 := rR6.frozen 3
          have f4 := rR6.frozen 4
          have f5 := rR6.frozen 5
          have f6 := rR6.frozen 6
          have HX := Lib.hid hx6
          clear hE6 hA6 rD6 HRE hx6 rR6
          go_wp2_with fail
          (try simp only [Exit.inBlock, Exit.then])
          refine bodyPost_ret (v := .tuple #[entV noneE (.slice none 0 0) (.slice none 0 0) (.slice none 0 0), I err]) (by simp [results, Tryz.f42, go_sem, entV, entC, noneE, r0, r1, r2, r3, r4, r5, r6]) rfl ?_
          have hp := put7_ext (q := w.heap.size + 1 + 1 + 1) HX.out (by omega) noneE (.slice none 0 0) (.slice none 0 0) (.slice none 0 0)
          refine ⟨.slice none 0 0, .slice none 0 0, .slice none 0 0, by (rw [HRE2.out]; try rfl), ?_⟩
          rw [HRE2.out]
          exact ⟨EntAt.none _ _ _ _ _, hp⟩
theorem SmallE.key {e : Entry} (h : SmallE e) (k : Str) : SmallE { e with key := k } := ⟨h.seen, h.counts, h.items, h.dots, h.places⟩

/-- entry.Update -/
theorem updE_any {S : Nat → Prop} {e : Entry} {v1 v2 v3 : Value} {w : World} (o : OpD) (d : Dot) (h : EntAt w S e v1 v2 v3) (sm : SmallE e) (hn1 : -9223372036854775808 ≤ o.2.2.1) (hn2 : o.2.2.1 ≤ 9223372036854775807) :
    Calls Tryz.prog 42 #[entV e v1 v2 v3, opV o, dotV d] w fun r w' => ∃ u1 u2 u3, r = .returned (.tuple #[entV (updE e o d).1 u1 u2 u3, I (updE e o d).2]) ∧ EntAt w' (fun b => w.heap.size ≤ b) (updE e o d).1 u1 u2 u3 ∧ Ext w w' := by
  obtain ⟨ek, es, ec, ei, x1, x2, x3⟩ := e
  obtain ⟨dO, k, n, tx⟩ := o
  obtain ⟨d1, dn⟩ := d
  obtain ⟨A1, n1, rfl, -, -⟩ := h.seen.form
  obtain ⟨A2, n2, rfl, -, -⟩ := h.counts.form
  obtain ⟨A3, n3, rfl, -, -⟩ := h.items.form
  have bad : ∀ c : Nat, updE ⟨ek, es, ec, ei, x1, x2, x3⟩ (dO, k, n, tx) (d1, dn) = (noneE, c) → Calls Tryz.prog 42 #[.agg #[St ek, .slice A1 es.length n1, .slice A2 ec.length n2, .slice A3 ei.length n3, U x1, St x2, .bool x3], .agg #[K8 dO, St k, I n, St tx], .agg #[St d1, U dn]] w (fun r w' => r = .returned (.tuple #[entV noneE (.slice none 0 0) (.slice none 0 0) (.slice none 0 0), I c]) ∧ Ext w w') →
      Calls Tryz.prog 42 #[.agg #[St ek, .slice A1 es.length n1, .slice A2 ec.length n2, .slice A3 ei.length n3, U x1, St x2, .bool x3], .agg #[K8 dO, St k, I n, St tx], .agg #[St d1, U dn]] w fun r w' => ∃ u1 u2 u3, r = .returned (.tuple #[entV (updE ⟨ek, es, ec, ei, x1, x2, x3⟩ (dO, k, n, tx) (d1, dn)).1 u1 u2 u3, I (updE ⟨ek, es, ec, ei, x1, x2, x3⟩ (dO, k, n, tx) (d1, dn)).2]) ∧ EntAt w' (fun b => w.heap.size ≤ b) (updE ⟨ek, es, ec, ei, x1, x2, x3⟩ (dO, k, n, tx) (d1, dn)).1 u1 u2 u3 ∧ Ext w w' := fun c hc H => by
    rw [hc]
    refine H.mono ?_
    rintro r w' ⟨rfl, hx⟩
    exact ⟨_, _, _, rfl, EntAt.none _ _ _ _ _, hx⟩
  cases hk : keyS k with
  | false => exact bad 10 (by simp [updE, hk]) (upd_badkey dO k n tx d1 dn h hk)
  | true =>
    have ways : ek = k ∨ ((ek == k) = false ∧ sameE ⟨ek, es, ec, ei, x1, x2, x3⟩ noneE = true) ∨ ((ek == k) = false ∧ sameE ⟨ek, es, ec, ei, x1, x2, x3⟩ noneE = false) := by
      by_cases he : ek = k
      · exact .inl he
      · cases hs : sameE ⟨ek, es, ec, ei, x1, x2, x3⟩ noneE
        · exact .inr (.inr ⟨by simpa using he, rfl⟩)
        · exact .inr (.inl ⟨by simpa using he, rfl⟩)
    have hok : ek = k ∨ ((ek == k) = false ∧ sameE ⟨ek, es, ec, ei, x1, x2, x3⟩ noneE = true) → ¬ (ek ≠ k ∧ sameE ⟨ek, es, ec, ei, x1, x2, x3⟩ noneE = false) := by
      rintro (h | ⟨-, h⟩) ⟨h1, h2⟩
      · exact h1 h
      · rw [h] at h2; cases h2
    rcases ways with he | ⟨hne, hs⟩ | ⟨hne, hs⟩
    · have hno := hok (.inl he)
      by_cases hd : d1 = []
      · exact bad 2 (by simp only [updE, hk, if_neg hno, hd]; simp) (upd_badD1eq dO k n tx d1 dn h hk he hd)
      · have hdb : (d1 == []) = false := by simpa using hd
        by_cases h2 : dn < 1
        · exact bad 2 (by simp only [updE, hk, if_neg hno, h2]; simp) (upd_badD2eq dO k n tx d1 dn h hk he hdb (by omega))
        · by_cases h3 : 281474976710656 < dn
          · exact bad 2 (by simp only [updE, hk, if_neg hno, h3]; simp) (upd_badD3eq dO k n tx d1 dn h hk he hdb (by omega) (by omega))
          · cases hh : hasM es (d1, dn)
            · have hu : updE ⟨ek, es, ec, ei, x1, x2, x3⟩ (dO, k, n, tx) (d1, dn) = restE ⟨k, es, ec, ei, x1, x2, x3⟩ (dO, k, n, tx) (d1, dn) := by
                unfold updE
                rw [if_neg (by simp [hk]), if_neg hno, if_neg (by simp [hd, h2, h3, hh])]
              rw [hu]
              exact upd_okeq dO k n tx d1 dn h hk he hdb (by omega) (by omega) hh sm hn1 hn2
            · exact bad 2 (by simp only [updE, hk, if_neg hno, hh]; simp) (upd_haseq dO k n tx d1 dn h hk he hdb (by omega) (by omega) hh)
    · have hno := hok (.inr ⟨hne, hs⟩)
      by_cases hd : d1 = []
      · exact bad 2 (by simp only [updE, hk, if_neg hno, hd]; simp) (upd_badD1none dO k n tx d1 dn h hk hne hs hd)
      · have hdb : (d1 == []) = false := by simpa using hd
        by_cases h2 : dn < 1
        · exact bad 2 (by simp only [updE, hk, if_neg hno, h2]; simp) (upd_badD2none dO k n tx d1 dn h hk hne hs hdb (by omega))
        · by_cases h3 : 281474976710656 < dn
          · exact bad 2 (by simp only [updE, hk, if_neg hno, h3]; simp) (upd_badD3none dO k n tx d1 dn h hk hne hs hdb (by omega) (by omega))
          · cases hh : hasM es (d1, dn)
            · have hu : updE ⟨ek, es, ec, ei, x1, x2, x3⟩ (dO, k, n, tx) (d1, dn) = restE ⟨k, es, ec, ei, x1, x2, x3⟩ (dO, k, n, tx) (d1, dn) := by
                unfold updE
                rw [if_neg (by simp [hk]), if_neg hno, if_neg (by simp [hd, h2, h3, hh])]
              rw [hu]
              exact upd_oknone dO k n tx d1 dn h hk hne hs hdb (by omega) (by omega) hh sm hn1 hn2
            · exact bad 2 (by simp only [updE, hk, if_neg hno, hh]; simp) (upd_hasnone dO k n tx d1 dn h hk hne hs hdb (by omega) (by omega) hh)
    · exact bad 2 (by simp only [updE, hk]; rw [if_neg (by simp), if_pos ⟨by simpa using hne, hs⟩]) (upd_other dO k n tx d1 dn h hk hne hs)

end Go.Proofs.YtdikcgmdmcfpfaaGreat
namespace Go.Proofs.YtdikcgmdmcfpfaaGreat
open Go.RowKit Go.Shelf

def noneS : State := ⟨[], [], []⟩
abbrev put3 (w : World) (q : Nat) (v1 v2 v3 : Value) : World := ((w.setCell ⟨q, 0, none⟩ v1).setCell ⟨q, 1, none⟩ v2).setCell ⟨q, 2, none⟩ v3
theorem put3_ext {w wr : World} {q : Nat} (hx : Ext w wr) (hq : w.heap.size ≤ q) (v1 v2 v3 : Value) : Ext w (put3 wr q v1 v2 v3) :=
  ((hx.set (p := ⟨q, 0, none⟩) hq _).set (p := ⟨q, 1, none⟩) hq _).set (p := ⟨q, 2, none⟩) hq _
theorem put3_heap (w : World) (q : Nat) (v1 v2 v3 : Value) (b : Nat) (hb : b ≠ q) : (put3 w q v1 v2 v3).heap[b]? = w.heap[b]? :=
  ((Below.heap_setCell _ _ _ b hb).trans (Below.heap_setCell _ _ _ b hb)).trans (Below.heap_setCell _ _ _ b hb)
theorem StAt.none (w : World) (S : Nat → Prop) (A B C : Option Addr) : StAt w S noneS (.slice A 0 0) (.slice B 0 0) (.slice C 0 0) := ⟨Sl.nil _ _ (by decide), Sl.nil _ _ (by decide), Sl.nil _ _ (by decide)⟩
theorem StAt.keep {W w : World} {S : Nat → Prop} {s : State} {v1 v2 v3 : Value} (h : StAt W S s v1 v2 v3) (hs : ∀ b, S b → b < W.heap.size → w.heap[b]? = W.heap[b]?) : StAt w S s v1 v2 v3 :=
  ⟨h.all.keep (by decide) hs, h.entries.keep (by decide) hs, h.pruned.keep (by decide) hs⟩

/-- a state in which n numbers more of a path are no events; the error's number -/
def reserveS (s : State) (p : Str) (n : Nat) : State × Nat :=
  if p = [] ∨ mayS s = false then (noneS, 2) else if 281474976710656 - ofM s.all p < n then (noneS, 9) else ({ s with all := setM s.all p (ofM s.all p + n) }, 0)

theorem mayS_all {s : State} (h : mayS s = true) : mayM s.all = true := by
  unfold mayS at h
  simp only [Bool.and_eq_true] at h
  exact h.1

theorem ofM_max {l : List Mark} (h : mayM l = true) (p : Str) : ofM l p ≤ 281474976710656 := ofM_le.2 fun m hm _ _ => (mayM_iff.1 h).2.2 m hm

set_option maxRecDepth 100000 in
set_option maxHeartbeats 2000000 in
theorem reserveS_any {S : Nat → Prop} {s : State} {v1 v2 v3 : Value} {w : World} (p : Str) (n : Nat) (hn : n < 18446744073709551616) (h : StAt w S s v1 v2 v3) (sm : SmallS s) :
    Calls Tryz.prog 26 #[stV v1 v2 v3, St p, U n] w fun r w' => ∃ u1 u2 u3, r = .returned (.tuple #[stV u1 u2 u3, I (reserveS s p n).2]) ∧ StAt w' (fun b => w.heap.size ≤ b) (reserveS s p n).1 u1 u2 u3 ∧ Ext w w' := by
  have HRS := Lib.hid (show reserveS s p n = if p = [] ∨ mayS s = false then (noneS, 2) else if 281474976710656 - ofM s.all p < n then (noneS, 9) else ({ s with all := setM s.all p (ofM s.all p + n) }, 0) from rfl)
  have HMX := Lib.hid (fun (hm : mayS s = true) => ofM_max (mayS_all hm) p)
  have SM := Lib.hid sm
  obtain ⟨sa, se, sp⟩ := s
  obtain ⟨A1, n1, rfl, -, -⟩ := h.all.form
  obtain ⟨A2, n2, rfl, -, -⟩ := h.entries.form
  obtain ⟨A3, n3, rfl, -, -⟩ := h.pruned.form
  have hx0 := ((Ext.refl w).alloc (.cells #[.slice A1 sa.length n1, .slice A2 se.length n2, .slice A3 sp.length n3] 30)).alloc (.cells #[.slice none 0 0, .slice none 0 0, .slice none 0 0] 30)
  have rB0 := (rowNew w 30 [.slice A1 sa.length n1, .slice A2 se.length n2, .slice A3 sp.length n3]).alloc (.cells #[.slice none 0 0, .slice none 0 0, .slice none 0 0] 30)
  have rR0 := rowNew (w.alloc (.cells #[.slice A1 sa.length n1, .slice A2 se.length n2, .slice A3 sp.length n3] 30)) 30 [.slice none 0 0, .slice none 0 0, .slice none 0 0]
  rw [World.size_alloc] at rR0
  have hz0 : w.heap.size + 2 ≤ ((w.alloc (.cells #[.slice A1 sa.length n1, .slice A2 se.length n2, .slice A3 sp.length n3] 30)).alloc (.cells #[.slice none 0 0, .slice none 0 0, .slice none 0 0] 30)).heap.size := by simp
  have H0 := Lib.hid (h.ext hx0)
  have H1 := Lib.hid (mayS_any (h.ext hx0) sm)
  clear h sm
  by_cases hp : p = []
  · subst hp
    have HR := Lib.hid (show reserveS ⟨sa, se, sp⟩ [] n = (noneS, 2) by rw [HRS.out, if_pos (.inl rfl)])
    have HX := Lib.hid hx0
    clear hx0 rB0 rR0 H0 H1 HRS HMX
    go_enter Tryz.func26, Tryz.ntmps26
    go_wp2_with fail
    (try simp only [Exit.inBlock, Exit.then])
    refine bodyPost_ret (v := .tuple #[stV (.slice none 0 0) (.slice none 0 0) (.slice none 0 0), I 2]) (by simp [results, Tryz.f26, go_sem]) rfl ?_
    refine ⟨.slice none 0 0, .slice none 0 0, .slice none 0 0, by (rw [HR.out]; try rfl), ?_⟩
    rw [HR.out]
    exact ⟨StAt.none _ _ _ _ _, HX.out⟩
  · have hpb : (p == []) = false := by simpa using hp
    go_enter Tryz.func26, Tryz.ntmps26
    go_wp2_with fail
    generalize (w.alloc (.cells #[.slice A1 sa.length n1, .slice A2 se.length n2, .slice A3 sp.length n3] 30)).alloc (.cells #[.slice none 0 0, .slice none 0 0, .slice none 0 0] 30) = W0 at *
    refine H1.out.mono ?_
    rintro r W1 ⟨rfl, hx1⟩
    have hx01 := hx0.trans hx1
    have rB1 := rB0.ext hx1
    have rR1 := rR0.ext hx1
    have hz1 := Nat.le_trans hz0 hx1.size
    clear hx0 rB0 rR0 hz0 H1
    cases hm : mayS ⟨sa, se, sp⟩ with
    | false =>
      have HR := Lib.hid (show reserveS ⟨sa, se, sp⟩ p n = (noneS, 2) by rw [HRS.out, if_pos (.inr hm)])
      have r0 := rR1.cell (j := 0) rfl
      have r1 := rR1.cell (j := 1) rfl
      have r2 := rR1.cell (j := 2) rfl
      have f0 := rR1.frozen 0
      have f1 := rR1.frozen 1
      have f2 := rR1.frozen 2
      have HX := Lib.hid hx01
      clear hx01 hx1 rB1 rR1 H0 HRS HMX hm hp
      go_wp2_with fail
      (try simp only [Exit.inBlock, Exit.then])
      refine bodyPost_ret (v := .tuple #[stV (.slice none 0 0) (.slice none 0 0) (.slice none 0 0), I 2]) (by simp [results, Tryz.f26, go_sem, r0, r1, r2]) rfl ?_
      have hq := put3_ext (q := w.heap.size + 1) HX.out (by omega) (.slice none 0 0) (.slice none 0 0) (.slice none 0 0)
      refine ⟨.slice none 0 0, .slice none 0 0, .slice none 0 0, by (rw [HR.out]; try rfl), ?_⟩
      rw [HR.out]
      exact ⟨StAt.none _ _ _ _ _, hq⟩
    | true =>
      have hmax : ofM sa p ≤ 281474976710656 := HMX.out hm
      have HRS2 := Lib.hid (show reserveS ⟨sa, se, sp⟩ p n = if 281474976710656 - ofM sa p < n then (noneS, 9) else (⟨setM sa p (ofM sa p + n), se, sp⟩, 0) by rw [HRS.out, if_neg (by simp [hp, hm])])
      have HO := Lib.hid (of_any p (H0.out.all.ext (by decide) hx1))
      have b0 := rB1.cell (j := 0) rfl
      have HX1 := Lib.hid hx1
      clear hm hp HRS HMX hx1
      go_wp2_with fail
      refine HO.out.mono ?_
      rintro r W2 ⟨rfl, hx2⟩
      have hx02 := hx01.trans hx2
      have rB2 := rB1.ext hx2
      have rR2 := rR1.ext hx2
      have hz2 := Nat.le_trans hz1 hx2.size
      have H2 := Lib.hid ((H0.out.ext HX1.out).ext hx2)
      clear hx01 rB1 rR1 HO hx2 hz1 b0 HX1 H0
      obtain ⟨z, hz⟩ : ∃ z, ofM sa p = z := ⟨_, rfl⟩
      rw [hz] at hmax HRS2
      rw [hz]
      clear hz
      have hwr : IntKind.u64.wrap (281474976710656 - (z : Int)) = 281474976710656 - (z : Int) := by rw [wrap_u64]; omega
      by_cases hlt : 281474976710656 - z < n
      · have HR := Lib.hid (show reserveS ⟨sa, se, sp⟩ p n = (noneS, 9) by rw [HRS2.out, if_pos hlt])
        have hgt : (n : Int) > 281474976710656 - (z : Int) := by omega
        have r0 := rR2.cell (j := 0) rfl
        have r1 := rR2.cell (j := 1) rfl
        have r2 := rR2.cell (j := 2) rfl
        have f0 := rR2.frozen 0
        have f1 := rR2.frozen 1
        have f2 := rR2.frozen 2
        have HX := Lib.hid hx02
        clear hx02 rB2 rR2 H2 HRS2 hlt
        go_wp2_with fail
        (try simp only [Exit.inBlock, Exit.then])
        refine bodyPost_ret (v := .tuple #[stV (.slice none 0 0) (.slice none 0 0) (.slice none 0 0), I 9]) (by simp [results, Tryz.f26, go_sem, r0, r1, r2]) rfl ?_
        have hq := put3_ext (q := w.heap.size + 1) HX.out (by omega) (.slice none 0 0) (.slice none 0 0) (.slice none 0 0)
        refine ⟨.slice none 0 0, .slice none 0 0, .slice none 0 0, by (rw [HR.out]; try rfl), ?_⟩
        rw [HR.out]
        exact ⟨StAt.none _ _ _ _ _, hq⟩
      · have HR := Lib.hid (show reserveS ⟨sa, se, sp⟩ p n = (⟨setM sa p (z + n), se, sp⟩, 0) by rw [HRS2.out, if_neg hlt])
        have hgt : ¬ (n : Int) > 281474976710656 - (z : Int) := by omega
        have hwa : IntKind.u64.wrap ((z : Int) + (n : Int)) = ((z + n : Nat) : Int) := by rw [wrap_u64]; omega
        have b0 := rB2.cell (j := 0) rfl
        have b1 := rB2.cell (j := 1) rfl
        have b2 := rB2.cell (j := 2) rfl
        have HC := Lib.hid (copyS_any H2.out SM.out)
        clear HRS2 hlt rB2
        go_wp2_with fail
        refine HC.out.mono ?_
        rintro r W3 ⟨u1, u2, u3, rfl, hn3, hx3⟩
        obtain ⟨B1, m1, rfl, -, -⟩ := hn3.all.form
        obtain ⟨B2, m2, rfl, -, -⟩ := hn3.entries.form
        obtain ⟨B3, m3, rfl, -, -⟩ := hn3.pruned.form
        have hz3 := hx3.size
        have hxa := (Ext.refl W3).alloc (.cells #[.slice B1 sa.length m1, .slice B2 se.length m2, .slice B3 sp.length m3] 30)
        have rN := rowNew W3 30 [.slice B1 sa.length m1, .slice B2 se.length m2, .slice B3 sp.length m3]
        have HS3 := Lib.hid ((hn3.at.mono (S' := fun b => W2.heap.size ≤ b ∧ b < W3.heap.size) (fun b hb h => ⟨h, hb⟩)).ext hxa)
        have rR3 := (rR2.ext hx3).ext hxa
        have hx03 := (hx02.trans hx3).trans hxa
        have HS := Lib.hid (set_any p (z + n) (HS3.out.all) (Nat.le_trans SM.out.all (by decide)))
        have hzN := rN.lt
        clear hn3 hx3 hxa rR2 hx02 HC b0 b1 b2
        go_wp2_with fail
        generalize W3.alloc (.cells #[.slice B1 sa.length m1, .slice B2 se.length m2, .slice B3 sp.length m3] 30) = W4 at *
        refine HS.out.mono ?_
        rintro r W5 ⟨u, rfl, ho, hx5⟩
        obtain ⟨U1, un, rfl, -, -⟩ := ho.form
        have rN5 := rN.ext hx5
        have rR5 := rR3.ext hx5
        have hz5 := hx5.size
        have y0 := rN5.cell (j := 0) rfl
        have y1 := rN5.cell (j := 1) rfl
        have y2 := rN5.cell (j := 2) rfl
        have yf := rN5.frozen 0
        have hN6 := rN5.set (j := 0) (by simp) (.slice U1 (setM sa p (z + n)).length un)
        simp only [List.set_cons_zero] at hN6
        have z0 := hN6.cell (j := 0) rfl
        have z1 := hN6.cell (j := 1) rfl
        have z2 := hN6.cell (j := 2) rfl
        have rr0 := rR5.cell (j := 0) rfl
        have rr1 := rR5.cell (j := 1) rfl
        have rr2 := rR5.cell (j := 2) rfl
        have ff0 := rR5.frozen 0
        have ff1 := rR5.frozen 1
        have ff2 := rR5.frozen 2
        have rR6 := rR5.other (p := ⟨W3.heap.size, 0, none⟩) (by simp; omega) (.slice U1 (setM sa p (z + n)).length un)
        have r0 := rR6.cell (j := 0) rfl
        have r1 := rR6.cell (j := 1) rfl
        have r2 := rR6.cell (j := 2) rfl
        have f0 := rR6.frozen 0
        have f1 := rR6.frozen 1
        have f2 := rR6.frozen 2
        have HX := Lib.hid ((hx03.trans hx5).set (p := ⟨W3.heap.size, 0, none⟩) (by simp; omega) (.slice U1 (setM sa p (z + n)).length un))
        have HO := Lib.hid ho
        have HA := Lib.hid (HS3.out.ext hx5)
        clear ho rN rN5 rR3 rR5 hN6 rR6 hx03 hx5 HS HS3 H2
        go_wp2_with fail
        (try simp only [Exit.inBlock, Exit.then])
        refine bodyPost_ret (v := .tuple #[stV (.slice U1 (setM sa p (z + n)).length un) (.slice B2 se.length m2) (.slice B3 sp.length m3), I 0]) (by simp [results, Tryz.f26, go_sem, r0, r1, r2, rr0, rr1, rr2]) rfl ?_
        have hq := put3_ext (q := w.heap.size + 1) HX.out (by omega) (.slice U1 (setM sa p (z + n)).length un) (.slice B2 se.length m2) (.slice B3 sp.length m3)
        refine ⟨.slice U1 (setM sa p (z + n)).length un, .slice B2 se.length m2, .slice B3 sp.length m3, by (rw [HR.out]; try rfl), ?_⟩
        rw [HR.out]
        refine ⟨?_, hq⟩
        have hkp : ∀ b, b ≠ W3.heap.size → b ≠ w.heap.size + 1 → (put3 (W5.setCell ⟨W3.heap.size, 0, none⟩ (.slice U1 (setM sa p (z + n)).length un)) (w.heap.size + 1) (.slice U1 (setM sa p (z + n)).length un) (.slice B2 se.length m2) (.slice B3 sp.length m3)).heap[b]? = W5.heap[b]? := fun b h1 h2 =>
          (put3_heap _ _ _ _ _ b h2).trans (Below.heap_setCell _ _ _ _ h1)
        refine ⟨?_, ?_, ?_⟩
        · exact (own_slMark (HO.out.keep fun b hb _ => hkp b (by have := (HO.out.base_le hb).1; omega) (by have := (HO.out.base_le hb).1; omega))).mono (by decide) fun b _ h => by omega
        · exact (HA.out.entries.keep (by decide) fun b hb _ => hkp b (by omega) (by omega)).mono (by decide) fun b _ hb => by omega
        · exact (HA.out.pruned.keep (by decide) fun b hb _ => hkp b (by omega) (by omega)).mono (by decide) fun b _ hb => by omega
end Go.Proofs.YtdikcgmdmcfpfaaGreat
namespace Go.Proofs.YtdikcgmdmcfpfaaGreat
open Go.RowKit Go.Shelf

theorem flat_len {vss : List (List Value)} (h : ∀ x ∈ vss, x.length = 7) : vss.flatten.length = vss.length * 7 := by
  induction vss with
  | nil => rfl
  | cons a r ih => rw [List.flatten_cons, List.length_append, ih fun x hx => h x (by simp [hx]), h a (by simp), List.length_cons, Nat.add_mul]; omega
theorem flat_take {vss : List (List Value)} (h : ∀ x ∈ vss, x.length = 7) (i : Nat) (hi : i ≤ vss.length) : vss.flatten.take (i * 7) = (vss.take i).flatten ∧ vss.flatten.drop (i * 7) = (vss.drop i).flatten := by
  have e : vss.flatten = (vss.take i).flatten ++ (vss.drop i).flatten := by rw [← List.flatten_append, List.take_append_drop]
  have hl : (vss.take i).flatten.length = i * 7 := by rw [flat_len fun x hx => h x (List.mem_of_mem_take hx), List.length_take, Nat.min_eq_left hi]
  rw [e, ← hl]
  exact ⟨List.take_left, List.drop_left⟩

theorem RowIs.set7 {w : World} {g T o : Nat} {X1 X2 tail : List Value} {c0 c1 c2 c3 c4 c5 c6 : Value} (h : RowIs w g T (X1 ++ ([c0, c1, c2, c3, c4, c5, c6] ++ X2)) tail) (ho : X1.length = o) (d0 d1 d2 d3 d4 d5 d6 : Value) :
    RowIs (((((((w.setCell ⟨g, o, none⟩ d0).setCell ⟨g, o + 1, none⟩ d1).setCell ⟨g, o + 2, none⟩ d2).setCell ⟨g, o + 3, none⟩ d3).setCell ⟨g, o + 4, none⟩ d4).setCell ⟨g, o + 5, none⟩ d5).setCell ⟨g, o + 6, none⟩ d6) g T (X1 ++ ([d0, d1, d2, d3, d4, d5, d6] ++ X2)) tail := by
  subst ho
  have a := ((((((h.set (j := X1.length) (by simp) d0).set (j := X1.length + 1) (by simp) d1).set (j := X1.length + 2) (by simp) d2).set (j := X1.length + 3) (by simp) d3).set (j := X1.length + 4) (by simp) d4).set (j := X1.length + 5) (by simp) d5).set (j := X1.length + 6) (by simp) d6
  have e : ((((((((X1 ++ ([c0, c1, c2, c3, c4, c5, c6] ++ X2)).set X1.length d0).set (X1.length + 1) d1).set (X1.length + 2) d2).set (X1.length + 3) d3).set (X1.length + 4) d4).set (X1.length + 5) d5).set (X1.length + 6) d6) = X1 ++ ([d0, d1, d2, d3, d4, d5, d6] ++ X2) := by
    simp [List.set_append]
  rw [e] at a
  exact a
theorem cells7 {w : World} {g T o : Nat} {X1 X2 tail : List Value} {c0 c1 c2 c3 c4 c5 c6 : Value} (h : RowIs w g T (X1 ++ ([c0, c1, c2, c3, c4, c5, c6] ++ X2)) tail) (ho : X1.length = o) :
    w.cell? ⟨g, o, none⟩ = some c0 ∧ w.cell? ⟨g, o + 1, none⟩ = some c1 ∧ w.cell? ⟨g, o + 2, none⟩ = some c2 ∧ w.cell? ⟨g, o + 3, none⟩ = some c3 ∧ w.cell? ⟨g, o + 4, none⟩ = some c4 ∧ w.cell? ⟨g, o + 5, none⟩ = some c5 ∧ w.cell? ⟨g, o + 6, none⟩ = some c6 := by
  subst ho
  exact ⟨h.cell (by simp), h.cell (by simp), h.cell (by simp), h.cell (by simp), h.cell (by simp), h.cell (by simp), h.cell (by simp)⟩

theorem len7 {l : List Value} (h : l.length = 7) : ∃ c0 c1 c2 c3 c4 c5 c6, l = [c0, c1, c2, c3, c4, c5, c6] := by
  match l, h with
  | [c0, c1, c2, c3, c4, c5, c6], _ => exact ⟨c0, c1, c2, c3, c4, c5, c6, rfl⟩

/-- a row read as any slice is read -/
theorem sl_of_vss {W : World} {base n : Nat} {S : Nat → Prop} {v : Value} {l : List Entry} {vss : List (List Value)} (h1 : vss.length = l.length) (h2 : ∀ (i : Nat) x vs, l[i]? = some x → vss[i]? = some vs → entryT.rd W S x vs) (hn : n = l.length) (h3 : Own W base 37 7 v n vss.flatten) (hb : ∀ b, ownBlk v b → S b) : Sl entryT W S v l := by
  subst hn
  obtain ⟨A, c, rfl, hc1, hc2⟩ := h3.form
  refine ⟨A, c, rfl, hc1, hc2, fun pre x post hl => ?_⟩
  have hlen : pre.length < l.length := by rw [hl]; simp
  have hx : l[pre.length]? = some x := by rw [hl]; simp
  have hv : vss[pre.length]? = some (vss[pre.length]'(by omega)) := List.getElem?_eq_getElem (by omega)
  have hr := h2 _ _ _ hx hv
  obtain ⟨g, cap, cur, hv', hb', hg, -, hnc, -⟩ := h3.pos (by omega)
  injection hv' with e1 e2 e3
  subst e1; subst e3
  refine ⟨g, 0, _, rfl, hb g ⟨g, _, _, rfl, by omega, rfl⟩, hr, fun j u hj => ?_⟩
  rw [Nat.zero_add]
  refine h3.cell (g := g) (c := c) rfl (flatten_at vss _ j _ u ?_ hv hj)
  intro y hy
  obtain ⟨i, hi⟩ := List.getElem?_of_mem hy
  have hi' : i < l.length := by rw [← h1]; exact (List.getElem?_eq_some_iff.1 hi).1
  exact entryT.len (h2 i _ y (List.getElem?_eq_getElem hi') hi)

theorem put_over {W : World} {base i : Nat} {v : Value} {l : List Entry} {e : Entry} {u1 u2 u3 : Value} {S S0 Sx : Nat → Prop} (h : OwnL entryT 37 W base S0 v l) (hi : i < l.length) (he : EntAt W S e u1 u2 u3) (hS : ∀ b, S b → ¬ ownBlk v b ∧ Sx b) (hS0 : ∀ b, S0 b → ¬ ownBlk v b ∧ Sx b) (hx : ∀ b, ownBlk v b → Sx b) :
    ∃ g cap X1 X2 tail c0 c1 c2 c3 c4 c5 c6, v = .slice (some ⟨g, 0, none⟩) l.length cap ∧ base ≤ g ∧ RowIs W g 37 (X1 ++ ([c0, c1, c2, c3, c4, c5, c6] ++ X2)) tail ∧ X1.length = i * 7 ∧
      ∀ W' : World, RowIs W' g 37 (X1 ++ (entL e u1 u2 u3 ++ X2)) tail → (∀ b, b ≠ g → b < W.heap.size → W'.heap[b]? = W.heap[b]?) → Sl entryT W' Sx v (l.set i e) := by
  obtain ⟨vss, h1, h2, h3⟩ := h
  have h7 : ∀ x ∈ vss, x.length = 7 := fun x hx => by
    obtain ⟨j, hj⟩ := List.getElem?_of_mem hx
    have hjl : j < l.length := by rw [← h1]; exact (List.getElem?_eq_some_iff.1 hj).1
    exact entryT.len (h2 j _ x (List.getElem?_eq_getElem hjl) hj)
  have hiv : i < vss.length := by omega
  obtain ⟨g, cap, tail, rfl, hb, hg, hc, hm, hl⟩ := h3.row (by omega)
  have hsp : vss = vss.take i ++ vss[i] :: vss.drop (i + 1) := by rw [List.getElem_cons_drop, List.take_append_drop]
  have hf : vss.flatten = (vss.take i).flatten ++ (vss[i] ++ (vss.drop (i + 1)).flatten) := by
    rw [← List.flatten_cons, ← List.flatten_append, List.getElem_cons_drop, List.take_append_drop]
  obtain ⟨c0, c1, c2, c3, c4, c5, c6, hcs⟩ := len7 (h7 _ (List.getElem_mem hiv))
  rw [hcs] at hf
  have hX1 : (vss.take i).flatten.length = i * 7 := by rw [flat_len fun x hx => h7 x (List.mem_of_mem_take hx), List.length_take, Nat.min_eq_left (by omega)]
  have hob : ownBlk (.slice (some ⟨g, 0, none⟩) l.length cap) g := ⟨g, l.length, cap, rfl, by omega, rfl⟩
  refine ⟨g, cap, _, _, tail, c0, c1, c2, c3, c4, c5, c6, rfl, hb, by rw [← hf]; exact hg, hX1, fun W' hg' hk => ?_⟩
  have hf2 : (vss.set i (entL e u1 u2 u3)).flatten = (vss.take i).flatten ++ (entL e u1 u2 u3 ++ (vss.drop (i + 1)).flatten) := by
    rw [List.set_eq_take_append_cons_drop, if_pos hiv]
    simp
  have hlen2 : ((vss.set i (entL e u1 u2 u3)).flatten).length = l.length * 7 := by
    rw [flat_len fun x hx => by
      rcases List.mem_or_eq_of_mem_set hx with h | h
      · exact h7 x h
      · rw [h]; rfl, List.length_set, h1]
  refine sl_of_vss (vss := vss.set i (entL e u1 u2 u3)) (base := base) (n := l.length) (by simp [h1]) (fun j x vs hj hv => ?_) (by simp) ?_ hx
  · by_cases hij : i = j
    · subst hij
      rw [List.getElem?_set_self hi] at hj
      rw [List.getElem?_set_self hiv] at hv
      cases hj; cases hv
      have a := he.rd (S' := fun b => S b ∧ b < W.heap.size) (fun b hb h => ⟨h, hb⟩)
      exact entryT.mono (entryT.keep (w' := W') a fun b hb hlt => hk b (fun e => (hS b hb.1).1 (by rw [e]; exact hob)) hlt) fun b _ hb => (hS b hb.1).2
    · rw [List.getElem?_set_ne hij] at hj hv
      have a := entryT.keep (w' := W') (h2 j x vs hj hv) fun b hb hlt => hk b (fun e => (hS0 b hb).1 (by rw [e]; exact hob)) hlt
      exact entryT.mono a fun b _ hb => (hS0 b hb).2
  · have : (entL e u1 u2 u3 ++ (vss.drop (i + 1)).flatten).length + (vss.take i).flatten.length + tail.length = cap * 7 := by
      have e1 := congrArg List.length hf2
      rw [hlen2] at e1
      have hl' := hl
      rw [show entryT.k = 7 from rfl] at hl'
      have h31 := h3.1
      rw [show entryT.k = 7 from rfl] at h31
      simp only [List.length_append] at e1 hl' ⊢
      rw [h31] at hl'
      omega
    refine hg'.own hb hc hm (by simp only [List.length_append] at this ⊢; omega) ?_ hlen2
    rw [← hf2, ← hlen2, List.take_length]

theorem put_between {W : World} {base i : Nat} {v : Value} {l : List Entry} {e : Entry} {u1 u2 u3 : Value} {S S0 Sx : Nat → Prop} (h : OwnL entryT 37 W base S0 v l) (hi : i ≤ l.length) (he : EntAt W S e u1 u2 u3) (hS : ∀ b, S b → ¬ ownBlk v b ∧ Sx b) (hS0 : ∀ b, S0 b → ¬ ownBlk v b ∧ Sx b) (hx : ∀ b, ownBlk v b → Sx b) (hnew : Sx W.heap.size) :
    ∃ xs, Own W base 37 7 v l.length xs ∧ (∀ u ∈ xs, u.oneCell' = true) ∧
      ∀ (W' : World) (v' : Value), Own W' base 37 7 v' (l.length + 1) (xs.take (i * 7) ++ entL e u1 u2 u3 ++ xs.drop (i * 7)) → Grew W W' v v' → Sl entryT W' Sx v' (l.take i ++ e :: l.drop i) := by
  obtain ⟨vss, h1, h2, h3⟩ := h
  have h7 : ∀ x ∈ vss, x.length = 7 := fun x hx => by
    obtain ⟨j, hj⟩ := List.getElem?_of_mem hx
    have hjl : j < l.length := by rw [← h1]; exact (List.getElem?_eq_some_iff.1 hj).1
    exact entryT.len (h2 j _ x (List.getElem?_eq_getElem hjl) hj)
  refine ⟨vss.flatten, h3, fun u hu => ?_, fun W' v' ho hg => ?_⟩
  · obtain ⟨x, hx, hu⟩ := List.mem_flatten.1 hu
    obtain ⟨j, hj⟩ := List.getElem?_of_mem hx
    have hjl : j < l.length := by rw [← h1]; exact (List.getElem?_eq_some_iff.1 hj).1
    exact entryT.one (h2 j _ x (List.getElem?_eq_getElem hjl) hj) u hu
  obtain ⟨f1, f2⟩ := flat_take h7 i (by omega)
  rw [f1, f2] at ho
  refine sl_of_vss (vss := vss.take i ++ entL e u1 u2 u3 :: vss.drop i) (base := base) (n := l.length + 1) (by simp [h1]) (fun j x vs hj hv => ?_) (by simp <;> omega) (by simpa using ho) (fun b hb => (hg.blk b hb).elim (hx b) (fun h => h ▸ hnew))
  have hli : (l.take i).length = i := by simp; omega
  have hvi : (vss.take i).length = i := by simp; omega
  have old : ∀ k, l[k]? = some x → vss[k]? = some vs → entryT.rd W' Sx x vs := fun k hk hvk => by
    have a := entryT.keep (w' := W') (h2 k x vs hk hvk) fun b hb hlt => hg.same b hlt (hS0 b hb).1
    exact entryT.mono a fun b _ hb => (hS0 b hb).2
  rcases Nat.lt_trichotomy j i with hji | rfl | hji
  · rw [List.getElem?_append_left (by omega), List.getElem?_take_of_lt hji] at hj
    rw [List.getElem?_append_left (by omega), List.getElem?_take_of_lt hji] at hv
    exact old j hj hv
  · rw [List.getElem?_append_right (by omega), hli, Nat.sub_self] at hj
    rw [List.getElem?_append_right (by omega), hvi, Nat.sub_self] at hv
    simp only [List.getElem?_cons_zero, Option.some.injEq] at hj hv
    subst hj; subst hv
    have a := he.rd (S' := fun b => S b ∧ b < W.heap.size) (fun b hb h => ⟨h, hb⟩)
    exact entryT.mono (entryT.keep (w' := W') a fun b hb hlt => hg.same b hlt (hS b hb.1).1) fun b _ hb => (hS b hb.1).2
  · obtain ⟨t, rfl⟩ : ∃ t, j = i + 1 + t := ⟨j - (i + 1), by omega⟩
    rw [List.getElem?_append_right (by omega), hli, show i + 1 + t - i = t + 1 by omega, List.getElem?_cons_succ, List.getElem?_drop] at hj
    rw [List.getElem?_append_right (by omega), hvi, show i + 1 + t - i = t + 1 by omega, List.getElem?_cons_succ, List.getElem?_drop] at hv
    exact old (i + t) hj hv
end Go.Proofs.YtdikcgmdmcfpfaaGreat
