/- Contracts of the functions that the statement goes through, and plain laws of them. -/
import Derived.Test.YtblkikjmocnllaaGreatDoorQv22
set_option linter.unusedVariables false
set_option linter.unusedSimpArgs false
set_option linter.unusedSectionVars false
namespace Go.Proofs.YtblkikjmocnllaaGreatDoor
open Go.RowKit Go.Shelf
theorem srt_cross {key : Int → Nat} {A B C D : List Int} {x y : Int} (hx : Srt key (A ++ x :: B)) (hy : Srt key (C ++ y :: D)) (h : key x ≤ key y) : ∀ u ∈ A ++ [x], ∀ v ∈ y :: D, key u ≤ key v := by
 intro u hu v hv
 have h1 : key u ≤ key x := srt_last_le (by have : A ++ x :: B = (A ++ [x]) ++ B := by simp
                                            rw [this] at hx
                                            exact (List.pairwise_append.1 hx).1) (Nat.le_refl _) u hu
 have h2 : key y ≤ key v := srt_head_ge (List.pairwise_append.1 hy).2.1 (Nat.le_refl _) v hv
 omega
theorem cut_at {X : List Int} {i : Nat} (h : i < X.length) : ∃ A x B, X = A ++ x :: B ∧ A.length = i :=
 ⟨X.take i, X[i], X.drop (i + 1), by rw [List.getElem_cons_drop, List.take_append_drop], by rw [List.length_take]; omega⟩
theorem take_at {A B : List Int} {x : Int} {i : Nat} (h : A.length = i) : (A ++ x :: B).take (i + 1) = A ++ [x] := by
 subst h
 rw [List.take_append, List.take_of_length_le (by omega), Nat.add_sub_cancel_left]
 rfl
theorem drop_at {A B : List Int} {x : Int} {i : Nat} (h : A.length = i) : (A ++ x :: B).drop i = x :: B := by
 subst h
 simp
set_option maxRecDepth 100000 in
set_option maxHeartbeats 16000000 in
theorem symmerge_any {g n c tb : Nat} {tail : List Value} {C : World → Prop} {D : Int → Prop} {key : Int → Nat} {sg : Int → Int → Int} (hp : CmpP tb (.slice (some ⟨g, 0, none⟩) n c) C D key sg) (h62 : n ≤ 2305843009213693952) (hc : n ≤ c) :
   ∀ (N : Nat) {a m b : Nat} {P X Y R : List Int} {w : World}, X.length + Y.length = N → RowI w g (P ++ X ++ Y ++ R) tail → P.length = a → a + X.length = m → m + Y.length = b → b + R.length = n → 0 < X.length → 0 < Y.length → Srt key X → Srt key Y → C w → (∀ z ∈ X ++ Y, D z) →
   Calls Tryz.prog 165 #[.slice (some ⟨g, 0, none⟩) n c, I a, I m, I b, .func (.func 88) #[] #[.pointer (some ⟨tb, 0, none⟩)]] w fun e w' => e = .returned (.tuple #[]) ∧ (∃ Z, RowI w' g (P ++ Z ++ R) tail ∧ Z.Perm (X ++ Y) ∧ Srt key Z) ∧ ButV (.slice (some ⟨g, 0, none⟩) n c) w w' := by
 intro N
 induction N using Nat.strongRecOn with
 | ind N ih =>
 intro a m b P X Y R w hN hr ha hm hb hn hX0 hY0 hsx hsy hC hD
 by_cases hX1 : X.length = 1
 · obtain ⟨x, rfl⟩ := List.length_eq_one_iff.1 hX1
   refine (sym1_any (x := x) (Y := Y) (by simpa using hr) ha (by simpa using hm) hb hn h62 hc hsy hp hC (by simpa using hD)).mono ?_
   rintro e w' ⟨rfl, ⟨Z, h1, h2, h3⟩, h4⟩
   exact ⟨rfl, ⟨Z, h1, by simpa using h2, h3⟩, h4⟩
 by_cases hY1 : Y.length = 1
 · obtain ⟨y, rfl⟩ := List.length_eq_one_iff.1 hY1
   refine (sym2_any (y := y) (X := X) (by simpa using hr) ha hm (by simpa using hb) hn h62 hc hX1 hsx hp hC (fun z hz => hD z (by simp at hz ⊢; rcases hz with h | h; exact .inr h; exact .inl h))).mono ?_
   rintro e w' ⟨rfl, ⟨Z, h1, h2, h3⟩, h4⟩
   exact ⟨rfl, ⟨Z, h1, h2.trans (List.perm_append_comm (l₁ := [y])), h3⟩, h4⟩
 have eg : ∀ args w, (callFunc 88 args).run Tryz.prog w = .ok (.enter 88 args) w := enters_of Tryz.func88 (by kernel_rfl) rfl
 have hX2 : 2 ≤ X.length := by omega
 have hY2 : 2 ≤ Y.length := by omega
 obtain ⟨mid, hmid⟩ : ∃ mid, mid = (a + b) / 2 := ⟨_, rfl⟩
 obtain ⟨n0, hn0⟩ : ∃ n0, n0 = mid + m := ⟨_, rfl⟩
 obtain ⟨p, hp0⟩ : ∃ p, p + 1 = n0 := ⟨n0 - 1, by omega⟩
 have hcase : ∃ lo hi, Hid ((∀ x ∈ X.take (lo - a), ∀ y ∈ Y.drop (n0 - lo - m), key x ≤ key y) ∧ ∀ y ∈ Y.take (n0 - hi - m), ∀ x ∈ X.drop (hi - a), key y ≤ key x) ∧ a ≤ lo ∧ lo ≤ hi ∧ hi ≤ m ∧ m + hi ≤ n0 ∧ n0 ≤ lo + b ∧ (((m : Int) > mid ∧ (n0 : Int) - b = lo ∧ mid = hi) ∨ (¬ (m : Int) > mid ∧ a = lo ∧ m = hi)) := by
   by_cases h : mid < m
   · refine ⟨n0 - b, mid, Lib.hid ⟨?_, ?_⟩, by omega, by omega, by omega, by omega, by omega, .inl ⟨by omega, by omega, rfl⟩⟩
     · rw [List.drop_eq_nil_of_le (by omega)]
       simp
     · rw [show n0 - mid - m = 0 by omega]
       simp
   · refine ⟨a, m, Lib.hid ⟨?_, ?_⟩, by omega, by omega, by omega, by omega, by omega, .inr ⟨by omega, rfl, rfl⟩⟩
     · simp
     · rw [show X.drop (m - a) = [] from List.drop_eq_nil_of_le (by omega)]
       simp
 obtain ⟨lo, hi, hcr, l1, l2, l3, l4, l5, hcase⟩ := hcase
 have HR := Lib.hid hr
 have HE := Lib.hid (show P.length = a ∧ a + X.length = m ∧ m + Y.length = b ∧ b + R.length = n ∧ X.length + Y.length = N ∧ 2 ≤ X.length ∧ 2 ≤ Y.length from ⟨ha, hm, hb, hn, hN, hX2, hY2⟩)
 have HM := Lib.hid (show mid = (a + b) / 2 ∧ n0 = mid + m ∧ p + 1 = n0 from ⟨hmid, hn0, hp0⟩)
 have v0 : ((a : Int) + b) / 2 = mid := by omega
 have v1 : (mid : Int) + m = n0 := by omega
 obtain ⟨pv, hpv⟩ : ∃ pv : Int, pv = p := ⟨_, rfl⟩
 have HPV := Lib.hid hpv
 have v3 : (n0 : Int) - 1 = pv := by omega
 have v7 : -9223372036854775808 ≤ pv := by omega
 have v8 : pv ≤ 9223372036854775807 := by omega
 have e1 : ((m : Int) - a == 1) = false := by rw [beq_eq_false_iff_ne]; omega
 have e2 : ((b : Int) - m == 1) = false := by rw [beq_eq_false_iff_ne]; omega
 have ham : a ≤ m := by omega
 have hmb : m ≤ b := by omega
 have hbn : b ≤ n := by omega
 have hmm : mid ≤ b := by omega
 have hnn : n0 ≤ b + b := by omega
 have hpn : p ≤ b + b := by omega
 have hb0 := Lib.hid ((Ext.refl w).but (.slice (some ⟨g, 0, none⟩) n c))
 have HC := Lib.hid hC
 have HP := Lib.hid hp
 have HD := Lib.hid hD
 have HSX := Lib.hid hsx
 have HSY := Lib.hid hsy
 have HIH := Lib.hid (fun (N' : Nat) (hN' : N' < N) (a mm b : Nat) (P X Y R : List Int) (w : World) => @ih N' hN' a mm b P X Y R w)
 clear hr ha hm hb hn hN hC hp hD hsx hsy ih hX0 hY0 hX1 hY1 hX2 hY2 hmid hn0 hp0 hpv
 rcases hcase with ⟨hgt, v4, rfl⟩ | ⟨hgt, rfl, rfl⟩
 case' inr => have v4 : (0 : Int) = 0 := rfl
 all_goals
   go_enter Tryz.func165, Tryz.ntmps165
   go_wp2_with fail
   clear e1 e2 v0 hgt v4
   go_loopw [20, 21, 23] (fun i j h wr => ∃ (ki kj : Nat), Hid ((∀ x ∈ X.take (ki - a), ∀ y ∈ Y.drop (n0 - ki - m), key x ≤ key y) ∧ ∀ y ∈ Y.take (n0 - kj - m), ∀ x ∈ X.drop (kj - a), key y ≤ key x) ∧ a ≤ ki ∧ n0 ≤ ki + b ∧ ki ≤ kj ∧ kj ≤ m ∧ m + kj ≤ n0 ∧ i = I ki ∧ j = I kj ∧ Ext w wr) (fun i j _ _ => (intOf j).toNat - (intOf i).toNat)
   case atStart => exact ⟨_, _, hcr, l1, l5, l2, l3, l4, rfl, rfl, Ext.refl w⟩
   case round =>
     obtain ⟨ki, kj, hk, hmi, hmi2, hij, hjb, hjb2, rfl, rfl, hx⟩ := hrel
     clear l1 l2 l3 l4 l5 hcr
     have HX := Lib.hid hx
     have hrow := HR.out.ext hx
     have hgw : g < wr.heap.size := hrow.lt
     by_cases hlt : ki < kj
     · have d : (ki : Int) < kj := by omega
       obtain ⟨cc, hcc⟩ : ∃ cc, cc = (ki + kj) / 2 := ⟨_, rfl⟩
       obtain ⟨yy, hyy⟩ : ∃ yy, yy + cc = p := ⟨p - cc, by have := HM.out; omega⟩
       obtain ⟨XA, x, XB, hXe, hXl⟩ := cut_at (X := X) (i := cc - a) (by have := HE.out; omega)
       obtain ⟨YA, y, YB, hYe, hYl⟩ := cut_at (X := Y) (i := yy - m) (by have := HE.out; have := HM.out; omega)
       have q0 : wr.cell? ⟨g, cc, none⟩ = some (I x) := RowI.cellAt (A := P ++ XA) (B := XB ++ Y ++ R) (by rw [hXe] at hrow; simpa using hrow) (by have := HE.out; simp; omega)
       have q1 : wr.cell? ⟨g, yy, none⟩ = some (I y) := RowI.cellAt (A := P ++ X ++ YA) (B := YB ++ R) (by rw [hYe] at hrow; simpa using hrow) (by have := HE.out; have := HM.out; simp; omega)
       have u0 : ((ki : Int) + kj) / 2 = cc := by omega
       have u1 : (cc : Int) < n := by have := HE.out; omega
       have u2 : (yy : Int) < n := by have := HE.out; have := HM.out; omega
       have u3 : IntKind.i64.wrap (pv - cc) = yy := by rw [show pv - cc = yy by have := HPV.out; omega]; exact IntWalk.i64_in _ (by omega)
       have u5 : 0 ≤ pv - cc := by have := HPV.out; omega
       have u6 : pv - cc < n := by have := HPV.out; have := HE.out; have := HM.out; omega
       have u7 : (pv - cc).toNat = yy := by have := HPV.out; omega
       have u8 : (cc : Int) ≤ pv := by have := HPV.out; omega
       have u9 : pv < n + cc := by omega
       have u10 : pv - cc ≤ 9223372036854775807 := by omega
       have u11 : -9223372036854775808 ≤ pv - cc := by omega
       have u4 : cc + 1 ≤ b := by omega
       have hHM := Lib.hid (show a ≤ cc ∧ cc < kj ∧ ki ≤ cc ∧ m ≤ yy ∧ yy + cc = p from by have := HM.out; omega)
       have HDO := Lib.hid (fun W (h : Ext wr W) => HP.out.does y x W (HD.out y (by rw [hYe]; simp)) (HD.out x (by rw [hXe]; simp)) (HP.out.keep _ _ (HP.out.keep _ _ HC.out (hx.but _)) (h.but _)))
       have hsg := HP.out.sign y x
       have HXY := Lib.hid (And.intro (And.intro hXe hXl) (And.intro hYe hYl))
       generalize sg y x = sz at *
       clear hXe hXl hYe hYl hrow hx hcc hyy
       by_cases hlt2 : key y < key x
       · have d2 : sz < 0 := hsg.2 hlt2
         have d3 : decide (sz < 0) = true := by simpa using d2
         clear hsg
         go_wp2_with fail
         go_region_held3 (fun W => W.cell? ⟨g, yy, none⟩ = some (I y) ∧ W.cell? ⟨g, cc, none⟩ = some (I x) ∧ Ext wr W) (first | exact ⟨q1, q0, (Ext.refl _).drew⟩ | exact ⟨hb1.cell ‹_ ∧ _ ∧ Ext wr _›.1, hb1.cell ‹_ ∧ _ ∧ Ext wr _›.2.1, ‹_ ∧ _ ∧ Ext wr _›.2.2.trans hb1⟩) (first | (go_at_call 88; refine (HDO.out _ ‹_ ∧ _ ∧ Ext wr _›.2.2).mono ?_; rintro e w1 ⟨rfl, hb1⟩))
         have hX6 := ‹_ ∧ _ ∧ Ext wr _›.2.2
         go_wp2_with fail
         go_roundw
         case rel =>
           refine ⟨ki, cc, Lib.hid ⟨hk.out.1, ?_⟩, hmi, hmi2, ?_, ?_, ?_, rfl, rfl, HX.out.trans hX6⟩
           · obtain ⟨⟨f1, f2⟩, f3, f4⟩ := HXY.out
             have f5 := HSX.out
             have f6 := HSY.out
             rw [f1] at f5
             rw [f3] at f6
             rw [show n0 - cc - m = yy - m + 1 by have := hHM.out; have := HM.out; omega, f1, f3, take_at f4, drop_at f2]
             exact srt_cross f6 f5 (by omega)
           · have := hHM.out; omega
           · have := hHM.out; omega
           · have := hHM.out; omega
         case measure => have := hHM.out; simp [intOf]; omega
       · have d2 : ¬ sz < 0 := fun h => hlt2 (hsg.1 h)
         have d3 : decide (sz < 0) = false := by simpa using d2
         have d4 : (!decide (sz < 0)) = true := by simp [d3]
         clear hsg
         go_wp2_with fail
         go_region_held3 (fun W => W.cell? ⟨g, yy, none⟩ = some (I y) ∧ W.cell? ⟨g, cc, none⟩ = some (I x) ∧ Ext wr W) (first | exact ⟨q1, q0, (Ext.refl _).drew⟩ | exact ⟨hb1.cell ‹_ ∧ _ ∧ Ext wr _›.1, hb1.cell ‹_ ∧ _ ∧ Ext wr _›.2.1, ‹_ ∧ _ ∧ Ext wr _›.2.2.trans hb1⟩) (first | (go_at_call 88; refine (HDO.out _ ‹_ ∧ _ ∧ Ext wr _›.2.2).mono ?_; rintro e w1 ⟨rfl, hb1⟩))
         have hX6 := ‹_ ∧ _ ∧ Ext wr _›.2.2
         go_wp2_with fail
         go_roundw
         case rel =>
           refine ⟨cc + 1, kj, Lib.hid ⟨?_, hk.out.2⟩, ?_, ?_, ?_, hjb, hjb2, rfl, rfl, HX.out.trans hX6⟩
           · obtain ⟨⟨f1, f2⟩, f3, f4⟩ := HXY.out
             have f5 := HSX.out
             have f6 := HSY.out
             rw [f1] at f5
             rw [f3] at f6
             rw [show n0 - (cc + 1) - m = yy - m by have := hHM.out; have := HM.out; omega, show cc + 1 - a = cc - a + 1 by have := hHM.out; omega, f1, f3, take_at f2, drop_at f4]
             exact srt_cross f5 f6 (by omega)
           · have := hHM.out; omega
           · have := hHM.out; omega
           · have := hHM.out; omega
         case measure => have := hHM.out; simp [intOf]; omega
     · have d : ¬ (ki : Int) < kj := by omega
       have hkj : ki = kj := by omega
       subst hkj
       clear hlt hrow hgw hx
       obtain ⟨ee, hee⟩ : ∃ ee, ee + ki = n0 := ⟨n0 - ki, by omega⟩
       have v6 : (n0 : Int) - ki = ee := by omega
       obtain ⟨X1, X2, hXe, hXl⟩ : ∃ X1 X2, X = X1 ++ X2 ∧ X1.length = ki - a := ⟨X.take (ki - a), X.drop (ki - a), (List.take_append_drop _ _).symm, by have := HE.out; rw [List.length_take]; omega⟩
       obtain ⟨Y1, Y2, hYe, hYl⟩ : ∃ Y1 Y2, Y = Y1 ++ Y2 ∧ Y1.length = ee - m := ⟨Y.take (ee - m), Y.drop (ee - m), (List.take_append_drop _ _).symm, by have := HE.out; rw [List.length_take]; omega⟩
       have hcross : Hid ((∀ x ∈ X1, ∀ y ∈ Y2, key x ≤ key y) ∧ ∀ y ∈ Y1, ∀ x ∈ X2, key y ≤ key x) := by
         have h := hk.out
         rw [show n0 - ki - m = ee - m by omega, hXe, hYe, List.take_left' hXl, List.drop_left' hXl, List.take_left' hYl, List.drop_left' hYl] at h
         exact h
       have HL := Lib.hid (show P.length = a ∧ X1.length + a = ki ∧ ki + X2.length = m ∧ m + Y1.length = ee ∧ ee + Y2.length = b ∧ b + R.length = n ∧ X1.length + X2.length + (Y1.length + Y2.length) = N ∧ 0 < X1.length + X2.length ∧ 0 < Y1.length + Y2.length ∧ ki + Y1.length = mid ∧ mid + X2.length = ee ∧ a < mid ∧ mid < b from by
         have h1 := HE.out
         have h2 := HM.out
         rw [hXe, hYe, List.length_append, List.length_append] at h1
         omega)
       have hrow0 := HR.out.ext HX.out
       have hsx0 := HSX.out
       have hsy0 := HSY.out
       have hd0 := HD.out
       rw [hXe, hYe] at hrow0 hd0
       rw [hXe] at hsx0
       rw [hYe] at hsy0
       have hC0 := HP.out.keep _ _ HC.out (HX.out.but _)
       have HROW := Lib.hid hrow0
       have HX12 := Lib.hid hsx0
       have HY12 := Lib.hid hsy0
       have HD0 := Lib.hid hd0
       have HCW := Lib.hid hC0
       have HXe := Lib.hid (And.intro hXe hYe)
       have r1 : ki ≤ b := by have := HL.out; omega
       have r2 : ee ≤ b := by have := HL.out; omega
       have r3 : mid ≤ b := by have := HL.out; omega
       clear hrow0 hsx0 hsy0 hd0 hC0 hXe hYe hXl hYl hee hmi hjb hmi2 hjb2
       have sx1 := Lib.hid (List.pairwise_append.1 HX12.out)
       have sy1 := Lib.hid (List.pairwise_append.1 HY12.out)
       have ROT := Lib.hid (fun (hx2 : 0 < X2.length) (hy1 : 0 < Y1.length) W (hW : RowI W g (P ++ (X1 ++ X2) ++ (Y1 ++ Y2) ++ R) tail) cv => rotate_any (P := P ++ X1) (X := X2) (Y := Y1) (R := Y2 ++ R) (a := ki) (m := m) (b := ee) (by simpa using hW) (by have := HL.out; rw [List.length_append]; omega) (by have := HL.out; rw [List.length_append]; omega) (by have := HL.out; rw [List.length_append]; omega) hx2 hy1 (by have := HL.out; rw [List.length_append, List.length_append]; omega) (by omega) hc cv)
       have LFT := Lib.hid (fun (hx1 : 0 < X1.length) (hy1 : 0 < Y1.length) W (hW : RowI W g (P ++ X1 ++ Y1 ++ (X2 ++ Y2) ++ R) tail) (hCW : C W) => HIH.out (X1.length + Y1.length) (by have := HL.out; omega) a ki mid P X1 Y1 (X2 ++ Y2 ++ R) W rfl (by simpa using hW) (by have := HL.out; omega) (by have := HL.out; omega) (by have := HL.out; omega) (by have := HL.out; rw [List.length_append, List.length_append]; omega) hx1 hy1 sx1.out.1 sy1.out.1 hCW (fun z hz => HD0.out z (by simp only [List.mem_append] at hz ⊢; rcases hz with h | h; exact .inl (.inl h); exact .inr (.inl h))))
       have RGT := Lib.hid (fun (hx2 : 0 < X2.length) (hy2 : 0 < Y2.length) (Z1 : List Int) (hz1 : Z1.length = X1.length + Y1.length) W (hW : RowI W g (P ++ Z1 ++ (X2 ++ Y2) ++ R) tail) (hCW : C W) => HIH.out (X2.length + Y2.length) (by have := HL.out; omega) mid ee b (P ++ Z1) X2 Y2 R W rfl (by simpa using hW) (by have := HL.out; rw [List.length_append]; omega) (by have := HL.out; omega) (by have := HL.out; omega) (by have := HL.out; omega) hx2 hy2 sx1.out.2.1 sy1.out.2.1 hCW (fun z hz => HD0.out z (by simp only [List.mem_append] at hz ⊢; rcases hz with h | h; exact .inl (.inr h); exact .inr (.inr h))))
       have FIN := Lib.hid (fun (Z1 Z2 : List Int) W (hW : RowI W g (P ++ Z1 ++ Z2 ++ R) tail) (h1 : Z1.Perm (X1 ++ Y1)) (h2 : Z2.Perm (X2 ++ Y2)) (s1 : Srt key Z1) (s2 : Srt key Z2) => (show ∃ Z, RowI W g (P ++ Z ++ R) tail ∧ Z.Perm (X ++ Y) ∧ Srt key Z from by
         obtain ⟨q1, q2⟩ := sym_parts HX12.out HY12.out h1 h2 s1 s2 hcross.out.1 hcross.out.2
         exact ⟨Z1 ++ Z2, by simpa using hW, by rw [HXe.out.1, HXe.out.2]; exact q2, q1⟩))
       have HBX := Lib.hid (HX.out.but (.slice (some ⟨g, 0, none⟩) n c))
       have HN := Lib.hid (show (X2 = [] ∨ 0 < X2.length) ∧ (Y1 = [] ∨ 0 < Y1.length) ∧ (X1 = [] ∨ 0 < X1.length) ∧ (Y2 = [] ∨ 0 < Y2.length) from ⟨by cases X2 <;> simp, by cases Y1 <;> simp, by cases X1 <;> simp, by cases Y2 <;> simp⟩)
       clear hk
       rcases HN.out.1 with hx2 | hx2
       · -- X2 is none: no turning, no right half
         have t1 : ¬ (ki : Int) < m := by have := HL.out; rw [hx2] at this; simp at this; omega
         have t1' : decide ((ki : Int) < m) = false := by simpa using t1
         have t1n : decide (ki < m) = false := by simpa using t1
         have t2 : (a : Int) < ki := by have := HL.out; rw [hx2] at this; simp at this; omega
         have t2' : decide ((a : Int) < ki) = true := by simpa using t2
         have t2n : decide (a < ki) = true := by simpa using t2
         have t3 : ¬ (mid : Int) < ee := by have := HL.out; rw [hx2] at this; simp at this; omega
         have t3' : decide ((mid : Int) < ee) = false := by simpa using t3
         have t3n : decide (mid < ee) = false := by simpa using t3
         have hx1 : 0 < X1.length := by have := HL.out; rw [hx2] at this; simp at this; omega
         have hrw : RowI wr g (P ++ X1 ++ Y1 ++ (X2 ++ Y2) ++ R) tail := by have := HROW.out; rw [hx2] at this ⊢; simpa using this
         have HRW := Lib.hid hrw
         have HX2 := Lib.hid hx2
         clear hx2 hrw
         rcases HN.out.2.1 with hy1 | hy1
         · have t4 : ¬ (ki : Int) < mid := by have := HL.out; rw [hy1] at this; simp at this; omega
           have t4' : decide ((ki : Int) < mid) = false := by simpa using t4
           have t4n : decide (ki < mid) = false := by simpa using t4
           have HY1 := Lib.hid hy1
           clear hy1
           go_wp2_with fail
           go_end0
           have h := FIN.out X1 Y2 _ (by have := HRW.out; rw [HX2.out, HY1.out] at this; simpa using this) (by rw [HY1.out]; simp) (by rw [HX2.out]; simp) sx1.out.1 sy1.out.2.1
           simp only [List.append_assoc] at h
           exact ⟨rfl, h, HBX.out⟩
         · have t4 : (ki : Int) < mid := by have := HL.out; omega
           have t4' : decide ((ki : Int) < mid) = true := by simpa using t4
           have t4n : decide (ki < mid) = true := by simpa using t4
           have CL := Lib.hid (LFT.out hx1 hy1 _ HRW.out HCW.out)
           go_wp2_with fail
           refine CL.out.mono ?_
           rintro e w2 ⟨rfl, ⟨Z1, hr2, hp2, hs2⟩, hb2⟩
           have HF := Lib.hid (And.intro (And.intro hr2 hp2) (And.intro hs2 hb2))
           clear CL hr2 hp2 hs2 hb2
           go_wp2_with fail
           go_end0
           exact ⟨rfl, FIN.out Z1 Y2 _ (by have := HF.out.1.1; rw [HX2.out] at this; simpa using this) HF.out.1.2 (by rw [HX2.out]; simp) HF.out.2.1 sy1.out.2.1, HBX.out.trans HF.out.2.2⟩
       · have t1 : (ki : Int) < m := by have := HL.out; omega
         have t1' : decide ((ki : Int) < m) = true := by simpa using t1
         have t1n : decide (ki < m) = true := by simpa using t1
         have t3 : (mid : Int) < ee := by have := HL.out; omega
         have t3' : decide ((mid : Int) < ee) = true := by simpa using t3
         have t3n : decide (mid < ee) = true := by simpa using t3
         rcases HN.out.2.1 with hy1 | hy1
         · -- Y1 is none: no turning, no left half
           have t2 : ¬ (m : Int) < ee := by have := HL.out; rw [hy1] at this; simp at this; omega
           have t2' : decide ((m : Int) < ee) = false := by simpa using t2
           have t2n : decide (m < ee) = false := by simpa using t2
           have t4 : ¬ (ki : Int) < mid := by have := HL.out; rw [hy1] at this; simp at this; omega
           have t4' : decide ((ki : Int) < mid) = false := by simpa using t4
           have t4n : decide (ki < mid) = false := by simpa using t4
           have t5 : (ee : Int) < b := by have := HL.out; rw [hy1] at this; simp at this; omega
           have t5' : decide ((ee : Int) < b) = true := by simpa using t5
           have t5n : decide (ee < b) = true := by simpa using t5
           have hy2 : 0 < Y2.length := by have := HL.out; rw [hy1] at this; simp at this; omega
           have hrw : RowI wr g (P ++ X1 ++ (X2 ++ Y2) ++ R) tail := by have := HROW.out; rw [hy1] at this; simpa using this
           have CL := Lib.hid (RGT.out hx2 hy2 X1 (by rw [hy1]; simp) _ hrw HCW.out)
           have HY1 := Lib.hid hy1
           clear hy1 hrw
           have t6 : (a : Int) < ki ∨ ¬ (a : Int) < ki := Classical.em _
           rcases t6 with t6 | t6
           case' inl =>
             have t6' : decide ((a : Int) < ki) = true := by simpa using t6
             have t6n : decide (a < ki) = true := by simpa using t6
           case' inr =>
             have t6' : decide ((a : Int) < ki) = false := by simpa using t6
             have t6n : decide (a < ki) = false := by simpa using t6
           all_goals
             go_wp2_with fail
             refine CL.out.mono ?_
             rintro e w2 ⟨rfl, ⟨Z2, hr2, hp2, hs2⟩, hb2⟩
             have HF := Lib.hid (And.intro (And.intro hr2 hp2) (And.intro hs2 hb2))
             clear CL hr2 hp2 hs2 hb2
             go_wp2_with fail
             go_end0
             exact ⟨rfl, FIN.out X1 Z2 _ HF.out.1.1 (by rw [HY1.out]; simp) HF.out.1.2 sx1.out.1 HF.out.2.1, HBX.out.trans HF.out.2.2⟩
         · -- the two are turned
           have t2 : (m : Int) < ee := by have := HL.out; omega
           have t2' : decide ((m : Int) < ee) = true := by simpa using t2
           have t2n : decide (m < ee) = true := by simpa using t2
           have t4 : (ki : Int) < mid := by have := HL.out; omega
           have t4' : decide ((ki : Int) < mid) = true := by simpa using t4
           have t4n : decide (ki < mid) = true := by simpa using t4
           have CR := Lib.hid (ROT.out hx2 hy1 _ HROW.out)
           rcases HN.out.2.2.1 with hx1 | hx1
           · have t6 : ¬ (a : Int) < ki := by have := HL.out; rw [hx1] at this; simp at this; omega
             have t6' : decide ((a : Int) < ki) = false := by simpa using t6
             have t6n : decide (a < ki) = false := by simpa using t6
             have HX1 := Lib.hid hx1
             clear hx1
             rcases HN.out.2.2.2 with hy2 | hy2
             · have t7 : ¬ (ee : Int) < b := by have := HL.out; rw [hy2] at this; simp at this; omega
               have t7' : decide ((ee : Int) < b) = false := by simpa using t7
               have t7n : decide (ee < b) = false := by simpa using t7
               have HY2 := Lib.hid hy2
               clear hy2
               go_wp2_with fail
               refine (CR.out _).mono ?_
               rintro e w2 ⟨rfl, hr2, hb2⟩
               have HF := Lib.hid (And.intro hr2 hb2)
               clear CR hr2 hb2
               go_wp2_with fail
               go_end0
               exact ⟨rfl, FIN.out Y1 X2 _ (by have := HF.out.1; rw [HX1.out, HY2.out] at this; simpa using this) (by rw [HX1.out]; simp) (by rw [HY2.out]; simp) sy1.out.1 sx1.out.2.1, HBX.out.trans HF.out.2⟩
             · have t7 : (ee : Int) < b := by have := HL.out; omega
               have t7' : decide ((ee : Int) < b) = true := by simpa using t7
               have t7n : decide (ee < b) = true := by simpa using t7
               go_wp2_with fail
               refine (CR.out _).mono ?_
               rintro e w2 ⟨rfl, hr2, hb2⟩
               have CL := Lib.hid (RGT.out hx2 hy2 Y1 (by rw [HX1.out]; simp) w2 (by have := hr2; rw [HX1.out] at this; simpa using this) (HP.out.keep _ _ HCW.out hb2))
               have HB2 := Lib.hid hb2
               clear CR hr2 hb2
               go_wp2_with fail
               refine CL.out.mono ?_
               rintro e w3 ⟨rfl, ⟨Z2, hr2, hp2, hs2⟩, hb2⟩
               have HF := Lib.hid (And.intro (And.intro hr2 hp2) (And.intro hs2 hb2))
               clear CL hr2 hp2 hs2 hb2
               go_wp2_with fail
               go_end0
               exact ⟨rfl, FIN.out Y1 Z2 _ HF.out.1.1 (by rw [HX1.out]; simp) HF.out.1.2 sy1.out.1 HF.out.2.1, (HBX.out.trans HB2.out).trans HF.out.2.2⟩
           · have t6 : (a : Int) < ki := by have := HL.out; omega
             have t6' : decide ((a : Int) < ki) = true := by simpa using t6
             have t6n : decide (a < ki) = true := by simpa using t6
             rcases HN.out.2.2.2 with hy2 | hy2
             · have t7 : ¬ (ee : Int) < b := by have := HL.out; rw [hy2] at this; simp at this; omega
               have t7' : decide ((ee : Int) < b) = false := by simpa using t7
               have t7n : decide (ee < b) = false := by simpa using t7
               have HY2 := Lib.hid hy2
               clear hy2
               go_wp2_with fail
               refine (CR.out _).mono ?_
               rintro e w2 ⟨rfl, hr2, hb2⟩
               have CL := Lib.hid (LFT.out hx1 hy1 w2 (by have := hr2; simpa using this) (HP.out.keep _ _ HCW.out hb2))
               have HB2 := Lib.hid hb2
               clear CR hr2 hb2
               go_wp2_with fail
               refine CL.out.mono ?_
               rintro e w3 ⟨rfl, ⟨Z1, hr2, hp2, hs2⟩, hb2⟩
               have HF := Lib.hid (And.intro (And.intro hr2 hp2) (And.intro hs2 hb2))
               clear CL hr2 hp2 hs2 hb2
               go_wp2_with fail
               go_end0
               exact ⟨rfl, FIN.out Z1 X2 _ (by have := HF.out.1.1; rw [HY2.out] at this; simpa using this) HF.out.1.2 (by rw [HY2.out]; simp) HF.out.2.1 sx1.out.2.1, (HBX.out.trans HB2.out).trans HF.out.2.2⟩
             · have t7 : (ee : Int) < b := by have := HL.out; omega
               have t7' : decide ((ee : Int) < b) = true := by simpa using t7
               have t7n : decide (ee < b) = true := by simpa using t7
               go_wp2_with fail
               refine (CR.out _).mono ?_
               rintro e w2 ⟨rfl, hr2, hb2⟩
               have CL := Lib.hid (LFT.out hx1 hy1 w2 (by have := hr2; simpa using this) (HP.out.keep _ _ HCW.out hb2))
               have HB2 := Lib.hid (HBX.out.trans hb2)
               have HC2 := Lib.hid (HP.out.keep _ _ HCW.out hb2)
               clear CR hr2 hb2
               go_wp2_with fail
               refine CL.out.mono ?_
               rintro e w3 ⟨rfl, ⟨Z1, hr3, hp3, hs3⟩, hb3⟩
               have CL2 := Lib.hid (RGT.out hx2 hy2 Z1 (by rw [hp3.length_eq, List.length_append]) w3 (by simpa using hr3) (HP.out.keep _ _ HC2.out hb3))
               have HF1 := Lib.hid (And.intro hp3 (And.intro hs3 (HB2.out.trans hb3)))
               clear CL hr3 hp3 hs3 hb3
               go_wp2_with fail
               refine CL2.out.mono ?_
               rintro e w4 ⟨rfl, ⟨Z2, hr2, hp2, hs2⟩, hb2⟩
               have HF := Lib.hid (And.intro (And.intro hr2 hp2) (And.intro hs2 hb2))
               clear CL2 hr2 hp2 hs2 hb2
               go_wp2_with fail
               go_end0
               exact ⟨rfl, FIN.out Z1 Z2 _ HF.out.1.1 HF1.out.1 HF.out.1.2 HF1.out.2.1 HF.out.2.1, HF1.out.2.2.trans HF.out.2.2⟩
end Go.Proofs.YtblkikjmocnllaaGreatDoor
namespace Go.Proofs.YtblkikjmocnllaaGreatDoor
open Go.RowKit Go.Shelf
theorem cut_len {X : List Int} {i : Nat} (h : i ≤ X.length) : ∃ A B, X = A ++ B ∧ A.length = i :=
 ⟨X.take i, X.drop i, (List.take_append_drop _ _).symm, by rw [List.length_take]; omega⟩
theorem perm_mid {A X Z B L : List Int} (h : (A ++ (X ++ B)).Perm L) (hz : Z.Perm X) : (A ++ (Z ++ B)).Perm L :=
 ((hz.append_right B).append_left A).trans h
set_option maxRecDepth 100000 in
set_option maxHeartbeats 8000000 in
theorem stable_any {g n c tb : Nat} {tail : List Value} {C : World → Prop} {D : Int → Prop} {key : Int → Nat} {sg : Int → Int → Int} {L : List Int} {w : World} (hp : CmpP tb (.slice (some ⟨g, 0, none⟩) n c) C D key sg) (h62 : n ≤ 1152921504606846976) (hc : n ≤ c)
   (hr : RowI w g L tail) (hn : L.length = n) (hC : C w) (hD : ∀ z ∈ L, D z) :
   Calls Tryz.prog 132 #[.slice (some ⟨g, 0, none⟩) n c, I n, .func (.func 88) #[] #[.pointer (some ⟨tb, 0, none⟩)]] w fun e w' => e = .returned (.tuple #[]) ∧ (∃ Z, RowI w' g Z tail ∧ Z.Perm L ∧ Srt key Z) ∧ ButV (.slice (some ⟨g, 0, none⟩) n c) w w' := by
 have INS := Lib.hid (fun (P X R : List Int) (a b : Nat) W (hW : RowI W g (P ++ X ++ R) tail) (ha : P.length = a) (hb : P.length + X.length = b) (hn : P.length + X.length + R.length = n) (hb0 : ButV (.slice (some ⟨g, 0, none⟩) n c) w W) (hpm : (P ++ (X ++ R)).Perm L) =>
   insertion_any hW ha hb hn (by omega) hc hp (hp.keep _ _ hC hb0) (fun x hx => hD x (hpm.subset (by simp [hx]))))
 have MRG := Lib.hid (fun (P X Y R : List Int) (a m b : Nat) W (hW : RowI W g (P ++ X ++ Y ++ R) tail) (ha : P.length = a) (hm : a + X.length = m) (hb : m + Y.length = b) (hn : b + R.length = n) (hx : 0 < X.length) (hy : 0 < Y.length) (sx : Srt key X) (sy : Srt key Y) (hb0 : ButV (.slice (some ⟨g, 0, none⟩) n c) w W) (hpm : (P ++ (X ++ Y ++ R)).Perm L) =>
   symmerge_any hp (by omega) hc (X.length + Y.length) rfl hW ha hm hb hn hx hy sx sy (hp.keep _ _ hC hb0) (fun x hx => hD x (hpm.subset (by simp at hx ⊢; rcases hx with h | h; exact .inr (.inl h); exact .inr (.inr (.inl h))))))
 have HR := Lib.hid hr
 have HN := Lib.hid hn
 have hb0 := Lib.hid ((Ext.refl w).but (.slice (some ⟨g, 0, none⟩) n c))
 clear hr hn hC hD hp
 go_enter Tryz.func132, Tryz.ntmps132
 go_wp2_with fail
 go_loopw [7, 8] (fun va vb wr => ∃ (L1 U : List Int) (k kk : Nat), va = I k ∧ vb = I kk ∧ Hid (kk = k + 20 ∧ L1.length = k ∧ L1.length + U.length = n) ∧ k ≤ n ∧ RowI wr g (L1 ++ U) tail ∧ FullB key 20 L1 ∧ (L1 ++ U).Perm L ∧ ButV (.slice (some ⟨g, 0, none⟩) n c) w wr) (fun _ b _ => n + 40 - (intOf b).toNat)
 case atStart => exact ⟨[], L, 0, 20, rfl, rfl, Lib.hid ⟨rfl, rfl, by simpa using HN.out⟩, Nat.zero_le _, HR.out, .nil, .refl _, hb0.out⟩
 case round =>
   obtain ⟨L1, U, k, kk, rfl, rfl, hk, hkn, hrow, hfull, hperm, hb⟩ := hrel
   have HF := Lib.hid (And.intro (And.intro hrow hfull) (And.intro hperm hb))
   clear hrow hfull hperm hb
   by_cases hle : kk ≤ n
   · have d : (kk : Int) ≤ n := by omega
     obtain ⟨X, U2, rfl, hX⟩ := cut_len (X := U) (i := 20) (by have := hk.out; omega)
     have CI := Lib.hid (INS.out L1 X U2 k kk _ (by have := HF.out.1.1; simpa using this) hk.out.2.1 (by have := hk.out; omega) (by have := hk.out.2.2; rw [List.length_append] at this; omega) HF.out.2.2 HF.out.2.1)
     have HX := Lib.hid hX
     clear hX
     go_wp2_with fail
     refine CI.out.mono ?_
     rintro e w2 ⟨rfl, ⟨Z, hr2, hp2, hs2⟩, hb2⟩
     have H2 := Lib.hid (And.intro (And.intro hr2 hp2) (And.intro hs2 hb2))
     clear CI hr2 hp2 hs2 hb2
     go_wp2_with fail
     go_roundw
     case rel => exact ⟨L1 ++ Z, U2, kk, kk + 20, rfl, by simp, Lib.hid ⟨rfl, by have := hk.out; have := H2.out.1.2.length_eq; have := HX.out; rw [List.length_append]; omega, by have := hk.out.2.2; have h3 := H2.out.1.2.length_eq; rw [List.length_append] at this ⊢; omega⟩, hle, H2.out.1.1, .snoc HF.out.1.2 (by have := H2.out.1.2.length_eq; have := HX.out; omega) H2.out.2.1, by rw [List.append_assoc]; exact perm_mid HF.out.2.1 H2.out.1.2, HF.out.2.2.trans H2.out.2.2⟩
     case measure => simp [intOf]; omega
   · have d : ¬ (kk : Int) ≤ n := by omega
     have CI := Lib.hid (INS.out L1 U [] k n _ (by have := HF.out.1.1; simpa using this) hk.out.2.1 (by have := hk.out; omega) (by have := hk.out.2.2; simpa using this) HF.out.2.2 (by have := HF.out.2.1; simpa using this))
     go_wp2_with fail
     refine CI.out.mono ?_
     rintro e w2 ⟨rfl, ⟨Z, hr2, hp2, hs2⟩, hb2⟩
     have H2 := Lib.hid (show RowI w2 g (L1 ++ Z) tail ∧ (L1 ++ Z).Perm L ∧ BlkB key 20 (L1 ++ Z) ∧ ButV (.slice (some ⟨g, 0, none⟩) n c) w w2 from by
       refine ⟨by simpa using hr2, (hp2.append_left L1).trans HF.out.2.1, HF.out.1.2.blk (.last ?_ hs2), HF.out.2.2.trans hb2⟩
       have := hp2.length_eq
       have := hk.out
       omega)
     clear CI hr2 hp2 hs2 hb2 HF hle d
     go_wp2_with fail
     go_loopw [6, 7, 8, 9] (fun vs va vb vm wr => ∃ (L' : List Int) (bs : Nat), vs = I bs ∧ 20 ≤ bs ∧ bs ≤ 2 * n + 20 ∧ RowI wr g L' tail ∧ L'.Perm L ∧ BlkB key bs L' ∧ ButV (.slice (some ⟨g, 0, none⟩) n c) w wr) (fun s _ _ _ _ => n - (intOf s).toNat)
     case atStart => exact ⟨L1 ++ Z, 20, rfl, by omega, by omega, H2.out⟩
     case round =>
       obtain ⟨L', bs, rfl, h20, hbs, hrow, hperm, hblk, hb⟩ := hrel
       have HF := Lib.hid (And.intro (And.intro hrow hperm) (And.intro hblk hb))
       have hll : L'.length = n := by rw [hperm.length_eq]; exact HN.out
       have HLL := Lib.hid hll
       clear hrow hperm hblk hb hll
       by_cases hlt : bs < n
       · have d : (bs : Int) < n := by omega
         obtain ⟨wo, rfl⟩ : ∃ wo : World, wo = wr := ⟨_, rfl⟩
         go_wp2_with fail
         go_loopw [7, 8] (fun va vb wr => ∃ (L1 L2 : List Int) (k kk : Nat), va = I k ∧ vb = I kk ∧ Hid (kk = k + 2 * bs ∧ L1.length = k ∧ L1.length + L2.length = n) ∧ k ≤ n ∧ RowI wr g (L1 ++ L2) tail ∧ FullB key (2 * bs) L1 ∧ BlkB key bs L2 ∧ (L1 ++ L2).Perm L ∧ ButV (.slice (some ⟨g, 0, none⟩) n c) w wr) (fun a _ _ => n + 1 - (intOf a).toNat)
         case atStart => exact ⟨[], L', 0, 2 * bs, rfl, by simp, Lib.hid ⟨by omega, rfl, by simpa using HLL.out⟩, Nat.zero_le _, HF.out.1.1, .nil, HF.out.2.1, HF.out.1.2, HF.out.2.2⟩
         case round =>
           obtain ⟨L1, L2, k, kk, rfl, rfl, hk, hkn, hrow, hfull, hblk, hperm, hb⟩ := hrel
           have HG := Lib.hid (And.intro (And.intro hrow hfull) (And.intro hperm hb))
           have HBK := Lib.hid hblk
           clear hrow hfull hperm hb hblk
           obtain ⟨mm, hmm⟩ : ∃ mm, mm = k + bs := ⟨_, rfl⟩
           have v0 : (k : Int) + bs = mm := by omega
           have HMM := Lib.hid hmm
           by_cases hle : kk ≤ n
           · have d1 : (kk : Int) ≤ n := by omega
             obtain ⟨X, Y, M, rfl, hX, hY0, hY, sx, sy, hM⟩ := HBK.out.two (by have := hk.out; omega)
             have hY : Y.length = bs := by
               rcases hY with h | ⟨rfl, h⟩
               · exact h
               · have := hk.out; simp at this; omega
             have CI := Lib.hid (MRG.out L1 X Y M k mm kk _ (by have := HG.out.1.1; simpa using this) hk.out.2.1 (by omega) (by have := hk.out; omega) (by have := hk.out; simp at this; omega) (by omega) (by omega) sx sy HG.out.2.2 HG.out.2.1)
             have HXY := Lib.hid (And.intro (And.intro hX hY) hM)
             clear hmm hX hY hY0 sx sy hM
             go_wp2_with fail
             refine CI.out.mono ?_
             rintro e w2 ⟨rfl, ⟨Z2, hr2, hp2, hs2⟩, hb2⟩
             have H3 := Lib.hid (And.intro (And.intro hr2 hp2) (And.intro hs2 hb2))
             have HZL := Lib.hid (show Z2.length = 2 * bs from by have h1 := hp2.length_eq; have := HXY.out; rw [List.length_append] at h1; omega)
             clear CI hr2 hp2 hs2 hb2
             go_wp2_with fail
             go_roundw
             case rel => exact ⟨L1 ++ Z2, M, kk, kk + 2 * bs, rfl, by simp, Lib.hid ⟨rfl, by have := hk.out; have := HZL.out; rw [List.length_append]; omega, by have h3 := hk.out.2.2; have h4 := HZL.out; simp only [List.length_append] at h3 ⊢; have := HXY.out; omega⟩, hle, H3.out.1.1, .snoc HG.out.1.2 HZL.out H3.out.2.1, HXY.out.2, by rw [List.append_assoc]; exact perm_mid HG.out.2.1 H3.out.1.2, HG.out.2.2.trans H3.out.2.2⟩
             case measure => have := hk.out; simp [intOf]; omega
           · have d1 : ¬ (kk : Int) ≤ n := by omega
             by_cases hml : mm < n
             · have d2 : (mm : Int) < n := by omega
               obtain ⟨X, Y, M, rfl, hX, hY0, hY, sx, sy, hM⟩ := HBK.out.two (by have := hk.out; omega)
               obtain ⟨rfl, hY⟩ : M = [] ∧ Y.length ≤ bs := by
                 rcases hY with h | h
                 · have := hk.out; simp at this; omega
                 · exact h
               have CI := Lib.hid (MRG.out L1 X Y [] k mm n _ (by have := HG.out.1.1; simpa using this) hk.out.2.1 (by omega) (by have := hk.out; simp at this; omega) (by simp) (by omega) (by omega) sx sy HG.out.2.2 HG.out.2.1)
               have HXY := Lib.hid (And.intro hX hY)
               clear hmm hX hY hY0 sx sy hM
               go_wp2_with fail
               refine CI.out.mono ?_
               rintro e w2 ⟨rfl, ⟨Z2, hr2, hp2, hs2⟩, hb2⟩
               have H3 := Lib.hid (show RowI w2 g (L1 ++ Z2) tail ∧ (L1 ++ Z2).Perm L ∧ BlkB key (2 * bs) (L1 ++ Z2) ∧ ButV (.slice (some ⟨g, 0, none⟩) n c) w w2 from by
                 refine ⟨by simpa using hr2, by have := perm_mid (B := []) (X := X ++ Y) (by simpa using HG.out.2.1) hp2; simpa using this, HG.out.1.2.blk (.last ?_ hs2), HG.out.2.2.trans hb2⟩
                 have h1 := hp2.length_eq
                 have := HXY.out
                 rw [List.length_append] at h1
                 omega)
               clear CI hr2 hp2 hs2 hb2
               go_wp2_with fail
               go_roundw
               case rel => exact ⟨L1 ++ Z2, 2 * bs, by first | rfl | (congr 1; omega), by omega, by omega, H3.out⟩
               case measure => simp [intOf]; omega
             · have d2 : ¬ (mm : Int) < n := by omega
               have H3 := Lib.hid (show RowI wr g (L1 ++ L2) tail ∧ (L1 ++ L2).Perm L ∧ BlkB key (2 * bs) (L1 ++ L2) ∧ ButV (.slice (some ⟨g, 0, none⟩) n c) w wr from by
                 have h1 : L2.length ≤ bs := by have := hk.out; omega
                 exact ⟨HG.out.1.1, HG.out.2.1, HG.out.1.2.blk (.last (by omega) (HBK.out.one h1)), HG.out.2.2⟩)
               clear hmm
               go_wp2_with fail
               go_roundw
               case rel => exact ⟨L1 ++ L2, 2 * bs, by first | rfl | (congr 1; omega), by omega, by omega, H3.out⟩
               case measure => simp [intOf]; omega
       · have d : ¬ (bs : Int) < n := by omega
         have HS := Lib.hid (HF.out.2.1.one (by have := HLL.out; omega))
         go_wp2
         go_end0
         exact ⟨rfl, ⟨L', HF.out.1.1, HF.out.1.2, HS.out⟩, HF.out.2.2⟩
set_option maxRecDepth 100000 in
set_option maxHeartbeats 1000000 in
theorem sortstable_any {g n c tb : Nat} {tail : List Value} {C : World → Prop} {D : Int → Prop} {key : Int → Nat} {sg : Int → Int → Int} {L : List Int} {w : World} (hp : CmpP tb (.slice (some ⟨g, 0, none⟩) n c) C D key sg) (h62 : n ≤ 1152921504606846976) (hc : n ≤ c)
   (hr : RowI w g L tail) (hn : L.length = n) (hC : C w) (hD : ∀ z ∈ L, D z) :
   Calls Tryz.prog 87 #[.slice (some ⟨g, 0, none⟩) n c, .func (.func 88) #[] #[.pointer (some ⟨tb, 0, none⟩)]] w fun e w' => e = .returned (.tuple #[]) ∧ (∃ Z, RowI w' g Z tail ∧ Z.Perm L ∧ Srt key Z) ∧ ButV (.slice (some ⟨g, 0, none⟩) n c) w w' := by
 have H := Lib.hid (stable_any hp h62 hc hr hn hC hD)
 clear hr hn hC hD hp
 go_enter Tryz.func87, Tryz.ntmps87
 go_wp2_with fail
 refine H.out.mono ?_
 rintro e w2 ⟨rfl, h⟩
 have HF := Lib.hid h
 clear h H
 go_wp2_with fail
 go_end0
 exact ⟨rfl, HF.out⟩
end Go.Proofs.YtblkikjmocnllaaGreatDoor
