/- Contracts of the functions that the statement goes through, with their plain words: Package counter: Add. slices.Equal at marks, dots, counts, strings: whether both lists are one. (Printed by gen_equal.py.) Package cell: registers. Package cell: Write. Package entry: Same, none. Package entry: Same, none. Package state: places. Package entry: Copy. -/
import Derived.Test.YtdikcgmdmcfpfaaGreatSf05
namespace Go.Proofs.YtdikcgmdmcfpfaaGreat
open Go.RowKit

def upOf (n : Int) : Nat := if n > 0 then n.toNat else 0
def downOf (n : Int) : Nat := if n > 0 then 0 else (-n).toNat
/-- n may be added to a value -/
def fitsV (v n : Int) : Bool := !(decide (n > 0) && decide (v > 9223372036854775807 - n)) && !(decide (n < 0) && decide (v < -9223372036854775808 - n))
def roomU (a b : Nat) : Bool := decide (a ≤ 9223372036854775808) && decide (b ≤ 9223372036854775808 - a)
def addOk (l : List Count) (s : Str) (n : Int) : Bool := fitsV (valueL l) n && (roomU (getL 0 (plusOf l) s) (upOf n) && roomU (getL 0 (minusOf l) s) (downOf n))
def addL (l : List Count) (s : Str) (n : Int) : List Count := listL (putP addU (plusOf l) (s, upOf n, downOf n)) (putM addU (minusOf l) (s, upOf n, downOf n))
/-- the counter behind an addition, and the error's number -/
def addC (l : List Count) (s : Str) (n : Int) : List Count × Nat := if addOk l s n then (addL l s n, 0) else ([], 9)

theorem wrap64_in (x : Int) : -9223372036854775808 ≤ wrap64 x ∧ wrap64 x ≤ 9223372036854775807 := by
  unfold wrap64
  omega

set_option maxRecDepth 100000 in
set_option maxHeartbeats 1000000 in
theorem addC_any {S : Nat → Prop} {v : Value} {l : List Count} {w : World} (s : Str) (n : Int) (hn1 : -9223372036854775808 ≤ n) (hn2 : n ≤ 9223372036854775807) (hv : Sl countT w S v l) (hl : l.length < 1099511627776) :
    Calls Tryz.prog 156 #[v, St s, I n] w fun e w' => ∃ v', e = .returned (.tuple #[v', I (addC l s n).2]) ∧ Own w' w.heap.size 93 3 v' (addC l s n).1.length ((addC l s n).1.flatMap countC) ∧ Ext w w' := by
  have H1 := Lib.hid (greatest_any (sl_one 32 hv))
  have H2 := Lib.hid (fun (p m : Nat) (Lp Lm : List (Str × Nat)) (w : World) => @value_any p m Lp Lm w)
  obtain ⟨A, c, rfl, -, -⟩ := hv.form
  have hx0 := (Ext.refl w).alloc (.cells #[.slice A l.length c] 32)
  have hV := wrap64_in (sumL (plusOf l) (minusOf l))
  have HV := Lib.hid (show valueL l = wrap64 (sumL (plusOf l) (minusOf l)) from rfl)
  have hlen := plusOf_len l
  clear hv
  go_enter Tryz.func156, Tryz.ntmps156
  go_wp2_with fail
  refine H1.out.mono ?_
  rintro e w1 ⟨p, m, rfl, hpb, hmb, hpm, hp, hm, hx⟩
  have hx2 := (Ext.refl w1).alloc (.cells #[.map (some p), .map (some m)] 225)
  simp only [List.flatten_cons, List.flatten_nil, List.append_nil] at hp hm
  have H3 := Lib.hid (H2.out _ _ _ _ _ (hp.ext hx2) (hm.ext hx2))
  have b0 : (w1.alloc (.cells #[.map (some p), .map (some m)] 225)).cell? ⟨w1.heap.size, 0, none⟩ = some (.map (some p)) := by simp [go_sem]
  have b1 : (w1.alloc (.cells #[.map (some p), .map (some m)] 225)).cell? ⟨w1.heap.size, 1, none⟩ = some (.map (some m)) := by simp [go_sem]
  have HP := Lib.hid hp
  have HM := Lib.hid hm
  have HX := Lib.hid ((hx0.trans hx).trans hx2)
  have hpw := hp.lt
  have hmw := hm.lt
  have hpb2 : w.heap.size ≤ p := Nat.le_trans hx0.size hpb
  have hmb2 : w.heap.size ≤ m := Nat.le_trans hx0.size hmb
  clear hp hm hx
  go_wp2_with fail
  refine H3.out.mono ?_
  rintro e w2 ⟨rfl, hx3⟩
  have c0 := hx3.cell b0
  have c1 := hx3.cell b1
  have HX2 := Lib.hid (HX.out.trans hx3)
  have hp2 := (HP.out.ext hx2).ext hx3
  have hm2 := (HM.out.ext hx2).ext hx3
  have hw12 := (hx2.trans hx3).size
  simp only [List.flatten_cons, List.flatten_nil, List.append_nil]
  generalize hVV : wrap64 (sumL (plusOf l) (minusOf l)) = V at *
  clear hVV b0 b1 hx2 hx3
  by_cases hf : fitsV V n = true
  · have HF := Lib.hid (show addOk l s n = (roomU (getL 0 (plusOf l) s) (upOf n) && roomU (getL 0 (minusOf l) s) (downOf n)) by unfold addOk; rw [HV.out, hf]; rfl)
    unfold fitsV at hf
    simp only [Bool.and_eq_true, Bool.not_eq_true', Bool.and_eq_false_iff, decide_eq_false_iff_not] at hf
    obtain ⟨hf1, hf2⟩ := hf
    have hT := Lib.hid together_any
    have HPUT := Lib.hid (fun (W : World) (h1 : MapIs St U W p (plusOf l)) (h2 : MapIs St U W m (minusOf l)) => put_any how_add (s, upOf n, downOf n) h1 h2 hpm)
    have HLIST := Lib.hid (fun (W : World) (h1 : MapIs St U W p (putP addU (plusOf l) (s, upOf n, downOf n))) (h2 : MapIs St U W m (putM addU (minusOf l) (s, upOf n, downOf n))) => list_any h1 h2 (by
      refine Nat.le_trans (putL_len _ _ _) ?_
      omega))
    have HADD := Lib.hid (show addC l s n = if (roomU (getL 0 (plusOf l) s) (upOf n) && roomU (getL 0 (minusOf l) s) (downOf n)) then (addL l s n, 0) else ([], 9) by unfold addC; rw [HF.out])
    have HAL := Lib.hid (show addL l s n = listL (putP addU (plusOf l) (s, upOf n, downOf n)) (putM addU (minusOf l) (s, upOf n, downOf n)) from rfl)
    obtain ⟨Wd, hWd⟩ : ∃ Wd, w2.drew = Wd := ⟨_, rfl⟩
    have hxd : Ext w2 Wd := by rw [← hWd]; exact (Ext.refl w2).drew
    have hl0 := look_str (hp2.ext hxd) s
    have hl1 := look_str (hm2.ext hxd) s
    have c0d := hxd.cell c0
    have c1d := hxd.cell c1
    have HPD := Lib.hid (hp2.ext hxd)
    have HMD := Lib.hid (hm2.ext hxd)
    have HXD := Lib.hid (HX2.out.trans hxd)
    obtain ⟨a, ha⟩ : ∃ a, getL 0 (plusOf l) s = a := ⟨_, rfl⟩
    obtain ⟨b, hb⟩ : ∃ b, getL 0 (minusOf l) s = b := ⟨_, rfl⟩
    rw [ha] at hl0 HADD
    rw [hb] at hl1 HADD
    clear ha hb HF
    have hways : ∃ up down : Nat, upOf n = up ∧ downOf n = down ∧ ((∃ k : Nat, 0 < k ∧ n = (k : Int) ∧ up = k ∧ down = 0) ∨ (n = 0 ∧ up = 0 ∧ down = 0) ∨ (∃ k : Nat, 0 < k ∧ n = -(k : Int) ∧ up = 0 ∧ down = k)) := by
      refine ⟨_, _, rfl, rfl, ?_⟩
      by_cases h0 : n > 0
      · exact .inl ⟨n.toNat, by omega, by omega, by simp [upOf, h0], by simp [downOf, h0]⟩
      · by_cases h1 : n = 0
        · subst h1
          exact .inr (.inl ⟨rfl, rfl, rfl⟩)
        · exact .inr (.inr ⟨(-n).toNat, by omega, by omega, by simp [upOf, h0], by simp [downOf, h0]⟩)
    obtain ⟨up, down, hu, hd, hw⟩ := hways
    rw [hu, hd] at HADD HAL HPUT HLIST
    clear hu hd
    rcases hw with ⟨k, k0, rfl, rfl, rfl⟩ | ⟨rfl, rfl, rfl⟩ | ⟨k, k0, rfl, rfl, rfl⟩
    · have h1 : ¬ V > 9223372036854775807 - (up : Int) := hf1.resolve_left (fun h => h (by omega))
      have h2 : ¬ (up : Int) < 0 := by omega
      have h3 : (up : Int) > 0 := by omega
      have h4 : IntKind.u64.wrap (up : Int) = up := by rw [wrap_u64]; omega
      clear hf1 hf2
      go_wp2_with fail
      clear h1 h2 h3 h4
      refine wp_region_still_tail 9 (by kernel_rfl) (by kernel_rfl) ?_
      simp only [List.take_succ_cons, List.take_zero, List.drop_succ_cons, List.drop_zero]
      change wpStill _ _ w2.drew (fun a' => wpList _ _ _ _ a' w2.drew) _ _
      rw [hWd]
      repeat still_step
      refine wpStill_nil ?_
      have hbad : ¬ (a ≤ 9223372036854775808 ∧ up ≤ 9223372036854775808 - a ∧ b ≤ 9223372036854775808 ∧ 0 ≤ 9223372036854775808 - b) → addC l s (up : Int) = ([], 9) := fun h => by
        rw [HADD.out]
        have : (roomU a up && roomU b 0) = false := by
          unfold roomU
          rw [← Bool.not_eq_true]
          intro h2
          simp only [Bool.and_eq_true, decide_eq_true_eq] at h2
          exact h ⟨h2.1.1, h2.1.2, h2.2.1, h2.2.2⟩
        rw [this]; rfl
      have HBAD := Lib.hid hbad
      clear hbad
      by_cases q1 : a ≤ 9223372036854775808
      · have p1 : ¬ (a : Int) > 9223372036854775808 := by omega
        have p1w : IntKind.u64.wrap (9223372036854775808 - (a : Int)) = 9223372036854775808 - (a : Int) := by rw [wrap_u64]; omega
        by_cases q2 : up ≤ 9223372036854775808 - a
        · have p2 : ¬ ((up : Nat) : Int) > 9223372036854775808 - (a : Int) := by omega
          have p2' : ¬ 9223372036854775808 - (a : Int) < 0 := by omega
          by_cases q3 : b ≤ 9223372036854775808
          · have p3 : ¬ (b : Int) > 9223372036854775808 := by omega
            have p3w : IntKind.u64.wrap (9223372036854775808 - (b : Int)) = 9223372036854775808 - (b : Int) := by rw [wrap_u64]; omega
            by_cases q4 : 0 ≤ 9223372036854775808 - b
            · have p4 : ¬ ((0 : Nat) : Int) > 9223372036854775808 - (b : Int) := by omega
              have p4' : ¬ 9223372036854775808 - (b : Int) < 0 := by omega
              have HOK := Lib.hid (show addC l s (up : Int) = (addL l s (up : Int), 0) by rw [HADD.out]; simp [roomU, q1, q2, q3, q4])
              have q1n : ¬ 9223372036854775808 < a := by omega
              have q3n : ¬ 9223372036854775808 < b := by omega
              go_wp2_with fail
              clear q1 q2 q3 q4 q1n q3n
              clear p1 p1w p2 p2' p3 p3w p4 p4'
              obtain ⟨We, hWe⟩ : ∃ We, Wd.drew = We := ⟨_, rfl⟩
              have hxe : Ext Wd We := by rw [← hWe]; exact (Ext.refl Wd).drew
              have c0e := hxe.cell c0d
              have c1e := hxe.cell c1d
              have HPE := Lib.hid (HPUT.out We (HPD.out.ext hxe) (HMD.out.ext hxe))
              have HXE := Lib.hid (HXD.out.trans hxe)
              refine wp_region_still_tail 6 (by kernel_rfl) (by kernel_rfl) ?_
              simp only [List.take_succ_cons, List.take_zero, List.drop_succ_cons, List.drop_zero]
              change wpStill _ _ Wd.drew (fun a' => wpList _ _ _ _ a' Wd.drew) _ _
              rw [hWe]
              repeat still_step
              still_call ((hT.out _).mono fun e w' h => ⟨h.1, h.2.symm⟩)
              refine wpStill_nil ?_
              go_wp2_with fail
              refine HPE.out.mono ?_
              rintro e W5 ⟨rfl, hp5, hm5, hk5⟩
              have c05 := hk5.cell c0e (by omega) (by omega)
              have c15 := hk5.cell c1e (by omega) (by omega)
              have HL5 := Lib.hid (HLIST.out W5 hp5 hm5)
              have HX5 := Lib.hid (Ext.kept2 HXE.out hk5 (by omega) (by omega))
              clear hp5 hm5 hk5
              go_wp2_with fail
              refine HL5.out.mono ?_
              rintro e W6 ⟨v', rfl, hv6, hx6⟩
              rw [← HAL.out] at hv6
              have HV6 := Lib.hid hv6
              have hff := hv6.form
              obtain ⟨Av, cv, rfl, -, -⟩ := hff
              have hs5 := HX5.out.size
              clear hv6
              go_wp2_with fail
              go_ret2
              exact ⟨_, by rw [HOK.out]; rfl, by rw [HOK.out]; exact HV6.out.lower hs5, HX5.out.trans hx6⟩
            · exact absurd (Nat.zero_le _) q4
          · have p3 : (b : Int) > 9223372036854775808 := by omega
            have HB2 := Lib.hid (HBAD.out (fun h => q3 h.2.2.1))
            have q1n : ¬ 9223372036854775808 < a := by omega
            go_wp2_with fail
            go_ret2
            exact ⟨_, by rw [HB2.out]; rfl, by rw [HB2.out]; exact Own.nil _ _ _ _ _, HXD.out⟩
        · have p2 : ((up : Nat) : Int) > 9223372036854775808 - (a : Int) := by omega
          have HB2 := Lib.hid (HBAD.out (fun h => q2 h.2.1))
          have q1n : ¬ 9223372036854775808 < a := by omega
          go_wp2_with fail
          go_ret2
          exact ⟨_, by rw [HB2.out]; rfl, by rw [HB2.out]; exact Own.nil _ _ _ _ _, HXD.out⟩
      · have p1 : (a : Int) > 9223372036854775808 := by omega
        have HB2 := Lib.hid (HBAD.out (fun h => q1 h.1))
        go_wp2_with fail
        go_ret2
        exact ⟨_, by rw [HB2.out]; rfl, by rw [HB2.out]; exact Own.nil _ _ _ _ _, HXD.out⟩
    · clear hf1 hf2
      go_wp2_with fail
      refine wp_region_still_tail 9 (by kernel_rfl) (by kernel_rfl) ?_
      simp only [List.take_succ_cons, List.take_zero, List.drop_succ_cons, List.drop_zero]
      change wpStill _ _ w2.drew (fun a' => wpList _ _ _ _ a' w2.drew) _ _
      rw [hWd]
      repeat still_step
      refine wpStill_nil ?_
      have hbad : ¬ (a ≤ 9223372036854775808 ∧ 0 ≤ 9223372036854775808 - a ∧ b ≤ 9223372036854775808 ∧ 0 ≤ 9223372036854775808 - b) → addC l s 0 = ([], 9) := fun h => by
        rw [HADD.out]
        have : (roomU a 0 && roomU b 0) = false := by
          unfold roomU
          rw [← Bool.not_eq_true]
          intro h2
          simp only [Bool.and_eq_true, decide_eq_true_eq] at h2
          exact h ⟨h2.1.1, h2.1.2, h2.2.1, h2.2.2⟩
        rw [this]; rfl
      have HBAD := Lib.hid hbad
      clear hbad
      by_cases q1 : a ≤ 9223372036854775808
      · have p1 : ¬ (a : Int) > 9223372036854775808 := by omega
        have p1w : IntKind.u64.wrap (9223372036854775808 - (a : Int)) = 9223372036854775808 - (a : Int) := by rw [wrap_u64]; omega
        by_cases q2 : 0 ≤ 9223372036854775808 - a
        · have p2 : ¬ ((0 : Nat) : Int) > 9223372036854775808 - (a : Int) := by omega
          have p2' : ¬ 9223372036854775808 - (a : Int) < 0 := by omega
          by_cases q3 : b ≤ 9223372036854775808
          · have p3 : ¬ (b : Int) > 9223372036854775808 := by omega
            have p3w : IntKind.u64.wrap (9223372036854775808 - (b : Int)) = 9223372036854775808 - (b : Int) := by rw [wrap_u64]; omega
            by_cases q4 : 0 ≤ 9223372036854775808 - b
            · have p4 : ¬ ((0 : Nat) : Int) > 9223372036854775808 - (b : Int) := by omega
              have p4' : ¬ 9223372036854775808 - (b : Int) < 0 := by omega
              have HOK := Lib.hid (show addC l s 0 = (addL l s 0, 0) by rw [HADD.out]; simp [roomU, q1, q2, q3, q4])
              have q1n : ¬ 9223372036854775808 < a := by omega
              have q3n : ¬ 9223372036854775808 < b := by omega
              go_wp2_with fail
              clear q1 q2 q3 q4 q1n q3n
              clear p1 p1w p2 p2' p3 p3w p4 p4'
              obtain ⟨We, hWe⟩ : ∃ We, Wd.drew = We := ⟨_, rfl⟩
              have hxe : Ext Wd We := by rw [← hWe]; exact (Ext.refl Wd).drew
              have c0e := hxe.cell c0d
              have c1e := hxe.cell c1d
              have HPE := Lib.hid (HPUT.out We (HPD.out.ext hxe) (HMD.out.ext hxe))
              have HXE := Lib.hid (HXD.out.trans hxe)
              refine wp_region_still_tail 6 (by kernel_rfl) (by kernel_rfl) ?_
              simp only [List.take_succ_cons, List.take_zero, List.drop_succ_cons, List.drop_zero]
              change wpStill _ _ Wd.drew (fun a' => wpList _ _ _ _ a' Wd.drew) _ _
              rw [hWe]
              repeat still_step
              still_call ((hT.out _).mono fun e w' h => ⟨h.1, h.2.symm⟩)
              refine wpStill_nil ?_
              go_wp2_with fail
              refine HPE.out.mono ?_
              rintro e W5 ⟨rfl, hp5, hm5, hk5⟩
              have c05 := hk5.cell c0e (by omega) (by omega)
              have c15 := hk5.cell c1e (by omega) (by omega)
              have HL5 := Lib.hid (HLIST.out W5 hp5 hm5)
              have HX5 := Lib.hid (Ext.kept2 HXE.out hk5 (by omega) (by omega))
              clear hp5 hm5 hk5
              go_wp2_with fail
              refine HL5.out.mono ?_
              rintro e W6 ⟨v', rfl, hv6, hx6⟩
              rw [← HAL.out] at hv6
              have HV6 := Lib.hid hv6
              have hff := hv6.form
              obtain ⟨Av, cv, rfl, -, -⟩ := hff
              have hs5 := HX5.out.size
              clear hv6
              go_wp2_with fail
              go_ret2
              exact ⟨_, by rw [HOK.out]; rfl, by rw [HOK.out]; exact HV6.out.lower hs5, HX5.out.trans hx6⟩
            · exact absurd (Nat.zero_le _) q4
          · have p3 : (b : Int) > 9223372036854775808 := by omega
            have HB2 := Lib.hid (HBAD.out (fun h => q3 h.2.2.1))
            have q1n : ¬ 9223372036854775808 < a := by omega
            go_wp2_with fail
            go_ret2
            exact ⟨_, by rw [HB2.out]; rfl, by rw [HB2.out]; exact Own.nil _ _ _ _ _, HXD.out⟩
        · exact absurd (Nat.zero_le _) q2
      · have p1 : (a : Int) > 9223372036854775808 := by omega
        have HB2 := Lib.hid (HBAD.out (fun h => q1 h.1))
        go_wp2_with fail
        go_ret2
        exact ⟨_, by rw [HB2.out]; rfl, by rw [HB2.out]; exact Own.nil _ _ _ _ _, HXD.out⟩
    · have h1 : ¬ V < -9223372036854775808 - -(down : Int) := hf2.resolve_left (fun h => h (by omega))
      have h1' : ¬ V < -9223372036854775808 + (down : Int) := by omega
      have h2 : -(down : Int) < 0 := by omega
      have h3 : ¬ (-(down : Int)) > 0 := by omega
      obtain ⟨X, hX⟩ : ∃ X, IntKind.u64.wrap (-(down : Int)) = X := ⟨_, rfl⟩
      have h6 : IntKind.u64.wrap (-X) = down := by rw [← hX, wrap_u64, wrap_u64]; omega
      clear hf1 hf2
      go_wp2_with fail
      clear h1 h1' h2 h3 hX h6
      refine wp_region_still_tail 9 (by kernel_rfl) (by kernel_rfl) ?_
      simp only [List.take_succ_cons, List.take_zero, List.drop_succ_cons, List.drop_zero]
      change wpStill _ _ w2.drew (fun a' => wpList _ _ _ _ a' w2.drew) _ _
      rw [hWd]
      repeat still_step
      refine wpStill_nil ?_
      have hbad : ¬ (a ≤ 9223372036854775808 ∧ 0 ≤ 9223372036854775808 - a ∧ b ≤ 9223372036854775808 ∧ down ≤ 9223372036854775808 - b) → addC l s (-(down : Int)) = ([], 9) := fun h => by
        rw [HADD.out]
        have : (roomU a 0 && roomU b down) = false := by
          unfold roomU
          rw [← Bool.not_eq_true]
          intro h2
          simp only [Bool.and_eq_true, decide_eq_true_eq] at h2
          exact h ⟨h2.1.1, h2.1.2, h2.2.1, h2.2.2⟩
        rw [this]; rfl
      have HBAD := Lib.hid hbad
      clear hbad
      by_cases q1 : a ≤ 9223372036854775808
      · have p1 : ¬ (a : Int) > 9223372036854775808 := by omega
        have p1w : IntKind.u64.wrap (9223372036854775808 - (a : Int)) = 9223372036854775808 - (a : Int) := by rw [wrap_u64]; omega
        by_cases q2 : 0 ≤ 9223372036854775808 - a
        · have p2 : ¬ ((0 : Nat) : Int) > 9223372036854775808 - (a : Int) := by omega
          have p2' : ¬ 9223372036854775808 - (a : Int) < 0 := by omega
          by_cases q3 : b ≤ 9223372036854775808
          · have p3 : ¬ (b : Int) > 9223372036854775808 := by omega
            have p3w : IntKind.u64.wrap (9223372036854775808 - (b : Int)) = 9223372036854775808 - (b : Int) := by rw [wrap_u64]; omega
            by_cases q4 : down ≤ 9223372036854775808 - b
            · have p4 : ¬ ((down : Nat) : Int) > 9223372036854775808 - (b : Int) := by omega
              have p4' : ¬ 9223372036854775808 - (b : Int) < 0 := by omega
              have HOK := Lib.hid (show addC l s (-(down : Int)) = (addL l s (-(down : Int)), 0) by rw [HADD.out]; simp [roomU, q1, q2, q3, q4])
              have q1n : ¬ 9223372036854775808 < a := by omega
              have q3n : ¬ 9223372036854775808 < b := by omega
              go_wp2_with fail
              clear q1 q2 q3 q4 q1n q3n
              clear p1 p1w p2 p2' p3 p3w p4 p4'
              obtain ⟨We, hWe⟩ : ∃ We, Wd.drew = We := ⟨_, rfl⟩
              have hxe : Ext Wd We := by rw [← hWe]; exact (Ext.refl Wd).drew
              have c0e := hxe.cell c0d
              have c1e := hxe.cell c1d
              have HPE := Lib.hid (HPUT.out We (HPD.out.ext hxe) (HMD.out.ext hxe))
              have HXE := Lib.hid (HXD.out.trans hxe)
              refine wp_region_still_tail 6 (by kernel_rfl) (by kernel_rfl) ?_
              simp only [List.take_succ_cons, List.take_zero, List.drop_succ_cons, List.drop_zero]
              change wpStill _ _ Wd.drew (fun a' => wpList _ _ _ _ a' Wd.drew) _ _
              rw [hWe]
              repeat still_step
              still_call ((hT.out _).mono fun e w' h => ⟨h.1, h.2.symm⟩)
              refine wpStill_nil ?_
              go_wp2_with fail
              refine HPE.out.mono ?_
              rintro e W5 ⟨rfl, hp5, hm5, hk5⟩
              have c05 := hk5.cell c0e (by omega) (by omega)
              have c15 := hk5.cell c1e (by omega) (by omega)
              have HL5 := Lib.hid (HLIST.out W5 hp5 hm5)
              have HX5 := Lib.hid (Ext.kept2 HXE.out hk5 (by omega) (by omega))
              clear hp5 hm5 hk5
              go_wp2_with fail
              refine HL5.out.mono ?_
              rintro e W6 ⟨v', rfl, hv6, hx6⟩
              rw [← HAL.out] at hv6
              have HV6 := Lib.hid hv6
              have hff := hv6.form
              obtain ⟨Av, cv, rfl, -, -⟩ := hff
              have hs5 := HX5.out.size
              clear hv6
              go_wp2_with fail
              go_ret2
              exact ⟨_, by rw [HOK.out]; rfl, by rw [HOK.out]; exact HV6.out.lower hs5, HX5.out.trans hx6⟩
            · have p4 : ((down : Nat) : Int) > 9223372036854775808 - (b : Int) := by omega
              have HB2 := Lib.hid (HBAD.out (fun h => q4 h.2.2.2))
              have q1n : ¬ 9223372036854775808 < a := by omega
              have q3n : ¬ 9223372036854775808 < b := by omega
              go_wp2_with fail
              go_ret2
              exact ⟨_, by rw [HB2.out]; rfl, by rw [HB2.out]; exact Own.nil _ _ _ _ _, HXD.out⟩
          · have p3 : (b : Int) > 9223372036854775808 := by omega
            have HB2 := Lib.hid (HBAD.out (fun h => q3 h.2.2.1))
            have q1n : ¬ 9223372036854775808 < a := by omega
            go_wp2_with fail
            go_ret2
            exact ⟨_, by rw [HB2.out]; rfl, by rw [HB2.out]; exact Own.nil _ _ _ _ _, HXD.out⟩
        · exact absurd (Nat.zero_le _) q2
      · have p1 : (a : Int) > 9223372036854775808 := by omega
        have HB2 := Lib.hid (HBAD.out (fun h => q1 h.1))
        go_wp2_with fail
        go_ret2
        exact ⟨_, by rw [HB2.out]; rfl, by rw [HB2.out]; exact Own.nil _ _ _ _ _, HXD.out⟩
  · have HF := Lib.hid (show addC l s n = ([], 9) by unfold addC addOk; rw [HV.out]; simp [hf])
    unfold fitsV at hf
    simp only [Bool.and_eq_true, Bool.not_eq_true', Bool.and_eq_false_iff, decide_eq_false_iff_not] at hf
    by_cases h0 : n > 0
    · have h1 : V > 9223372036854775807 - n := by
        refine Classical.byContradiction fun h => hf ⟨.inr h, .inl (by omega)⟩
      clear hf
      go_wp2_with fail
      go_ret2
      exact ⟨_, by rw [HF.out]; rfl, by rw [HF.out]; exact Own.nil _ _ _ _ _, HX2.out⟩
    · have h1 : n < 0 ∧ V < -9223372036854775808 - n := by
        refine Classical.byContradiction fun h => hf ⟨.inl h0, ?_⟩
        by_cases h2 : n < 0
        · exact .inr fun h3 => h ⟨h2, h3⟩
        · exact .inl h2
      obtain ⟨h2, h3⟩ := h1
      clear hf
      go_wp2_with fail
      go_ret2
      exact ⟨_, by rw [HF.out]; rfl, by rw [HF.out]; exact Own.nil _ _ _ _ _, HX2.out⟩
end Go.Proofs.YtdikcgmdmcfpfaaGreat
namespace Go.Proofs.YtdikcgmdmcfpfaaGreat
open Go.RowKit Go.Shelf

section
set_option maxRecDepth 100000
theorem eqIn_mark (d : Nat) (x y : Mark) (w : World) : (Op.equalIn (d + 1 + 1) 25 (.agg #[St x.1, U x.2]) (.agg #[St y.1, U y.2])).run Tryz.prog w = .ok (decide (x = y)) w := by
  have hS : Tryz.prog.underlying 25 = some (.struct (Tryz.prog.fieldsOf 25)) := by kernel_rfl
  have hp : Tryz.prog.stoodInHeld 25 = false := by kernel_rfl
  have u1 := Tryz.underlying9
  have u2 := Tryz.underlying23
  have a1 := Tryz.isAgg9
  have a2 := Tryz.isAgg23
  have z1 := Tryz.sizeOf9
  have z2 := Tryz.sizeOf23
  rw [run_equalIn_agg w (d + 1) 25 _ _ hS hp]
  simp only [Program.fieldsOf, Tryz.underlying25]
  go_simp
  obtain ⟨x1, x2⟩ := x
  obtain ⟨y1, y2⟩ := y
  by_cases h1 : x1 = y1
  · by_cases h2 : x2 = y2
    · subst h1; subst h2; simp
    · subst h1
      have h4 : ¬ (x2 : Int) = y2 := fun e => h2 (Int.ofNat_inj.1 e)
      simp [h4, h2]
  · simp [h1]
theorem eqIn_count (d : Nat) (x y : Count) (w : World) : (Op.equalIn (d + 1 + 1) 93 (.agg #[St x.1, U x.2.1, U x.2.2]) (.agg #[St y.1, U y.2.1, U y.2.2])).run Tryz.prog w = .ok (decide (x = y)) w := by
  have hS : Tryz.prog.underlying 93 = some (.struct (Tryz.prog.fieldsOf 93)) := by kernel_rfl
  have hp : Tryz.prog.stoodInHeld 93 = false := by kernel_rfl
  have u1 := Tryz.underlying9
  have u2 := Tryz.underlying23
  have a1 := Tryz.isAgg9
  have a2 := Tryz.isAgg23
  have z1 := Tryz.sizeOf9
  have z2 := Tryz.sizeOf23
  rw [run_equalIn_agg w (d + 1) 93 _ _ hS hp]
  simp only [Program.fieldsOf, Tryz.underlying93]
  go_simp
  obtain ⟨x1, x2, x3⟩ := x
  obtain ⟨y1, y2, y3⟩ := y
  by_cases h1 : x1 = y1
  · by_cases h2 : x2 = y2
    · by_cases h3 : x3 = y3
      · subst h1; subst h2; subst h3; simp
      · subst h1; subst h2
        have h4 : ¬ (x3 : Int) = y3 := fun e => h3 (Int.ofNat_inj.1 e)
        simp [h4, h3]
    · subst h1
      have h4 : ¬ (x2 : Int) = y2 := fun e => h2 (Int.ofNat_inj.1 e)
      simp [h4, h2]
  · simp [h1]
theorem neq_mark (x y : Mark) (w : World) : (binOp .neq 25 (.agg #[St x.1, U x.2]) (.agg #[St y.1, U y.2])).run Tryz.prog w = .ok (.bool (!decide (x = y))) w := by
  rw [run_neq_struct, show (10000 : Nat) = 9998 + 1 + 1 from rfl, eqIn_mark]; rfl
theorem neq_dot (x y : Dot) (w : World) : (binOp .neq 97 (.agg #[St x.1, U x.2]) (.agg #[St y.1, U y.2])).run Tryz.prog w = .ok (.bool (!decide (x = y))) w := by
  rw [run_neq_struct, show (10000 : Nat) = 9998 + 1 + 1 from rfl, eqIn_dot]
  simp only [Result.andThen_ok]
  by_cases h : x = y
  · subst h; rfl
  · have h2 : ¬ y = x := fun e => h e.symm
    simp [h, h2]
theorem neq_count (x y : Count) (w : World) : (binOp .neq 93 (.agg #[St x.1, U x.2.1, U x.2.2]) (.agg #[St y.1, U y.2.1, U y.2.2])).run Tryz.prog w = .ok (.bool (!decide (x = y))) w := by
  rw [run_neq_struct, show (10000 : Nat) = 9998 + 1 + 1 from rfl, eqIn_count]; rfl
end
theorem sl_split {α : Type} {n : Nat} {pre pa : List α} {pb : List α} (h : (pre ++ pa).length = (pre ++ pb).length) : pa.length = pb.length := by simpa using h

set_option maxRecDepth 100000 in
set_option maxHeartbeats 400000 in
theorem equal_mark {S S' : Nat → Prop} {va vb : Value} {A B : List (Mark)} {w : World} (ha : Sl markT w S va A) (hb : Sl markT w S' vb B) :
    Calls Tryz.prog 99 #[va, vb] w fun e w' => e = .returned (.bool (decide (A = B))) ∧ Ext w w' := by
  have ha' := ha
  have hb' := hb
  obtain ⟨Aa, ca, rfl, h1, h2⟩ := ha.form
  obtain ⟨Ab, cb, rfl, h3, h4⟩ := hb.form
  clear ha hb
  by_cases hlen : A.length = B.length
  · have HE := Lib.hid hlen
    have k0 : ((A.length : Int) != (B.length : Int)) = false := by simp [hlen]
    have k1 : (A.length != B.length) = false := by simp [hlen]
    have k2 : ((A.length : Int) == (B.length : Int)) = true := by simp [hlen]
    have HAT := Lib.hid (fun (pre post : List (Mark)) (m : Mark) (wr : World) (h : Ext w wr) (hl : A = pre ++ m :: post) => mark_at ha' h hl)
    have HBT := Lib.hid (fun (pre post : List (Mark)) (m : Mark) (wr : World) (h : Ext w wr) (hl : B = pre ++ m :: post) => mark_at hb' h hl)
    have hlb : A.length ≤ B.length := by omega
    clear hlen ha' hb'
    go_enter Tryz.func99, Tryz.ntmps99
    go_wp2_with fail
    clear k0 k1 k2
    go_loopw [13] (fun i wr => ∃ pre pa pb, A = pre ++ pa ∧ B = pre ++ pb ∧ i = I pre.length ∧ Ext w wr) (fun i _ => A.length - (intOf i).toNat)
    case atStart => exact ⟨[], A, B, rfl, rfl, rfl, Ext.refl _⟩
    case round =>
      obtain ⟨pre, pa, pb, hla, hlb2, rfl, hx⟩ := hrel
      have hpp : pa.length = pb.length := by have := HE.out; rw [hla, hlb2] at this; simpa using this
      cases pa with
      | cons x pa =>
        cases pb with
        | nil => simp at hpp
        | cons y pb =>
          obtain ⟨b1, o1, rfl, hxa, hxb⟩ := HAT.out pre pa x wr hx hla
          obtain ⟨b2, o2, rfl, hya, hyb⟩ := HBT.out pre pb y wr hx hlb2
          have hlt : pre.length < A.length := by rw [hla]; simp
          have hltb : pre.length < B.length := by rw [hlb2]; simp
          have HLA := Lib.hid hla
          have HLB := Lib.hid hlb2
          have HX := Lib.hid hx
          clear hla hlb2 hpp hx
          have hgd : Tryz.prog.eqGuardType Tryz.prog.depth 25 = false := by kernel_rfl
          by_cases hxy : x = y
          · subst hxy
            have hne := fun W => neq_mark x x W
            simp only [decide_true, Bool.not_true] at hne
            go_wp2_with fail
            go_quiet (fail)
            go_wp2_with fail
            go_roundw
            case rel => exact ⟨pre ++ [x], pa, pb, by rw [HLA.out]; simp, by rw [HLB.out]; simp, by simp, HX.out.drewN _⟩
            case measure => simp [intOf]; omega
          · have hne := fun W => neq_mark x y W
            simp only [hxy, decide_false, Bool.not_false] at hne
            have HF := Lib.hid (show decide (A = B) = false by
              rw [HLA.out, HLB.out]
              simp [hxy])
            clear hxy
            go_wp2_with fail
            go_quiet (fail)
            go_wp2_with fail
            go_ret
            exact ⟨by rw [HF.out]; rfl, HX.out.drewN _⟩
      | nil =>
        have hb0 : pb = [] := List.eq_nil_of_length_eq_zero (by simpa using hpp.symm)
        subst hb0
        rw [List.append_nil] at hla hlb2
        have hl : A.length = pre.length := by rw [hla]
        have HF := Lib.hid (show decide (A = B) = true by rw [hla, hlb2]; simp)
        have HX := Lib.hid hx
        clear hla hlb2 hpp hx
        go_wp2_with fail
        go_ret
        exact ⟨by rw [HF.out]; rfl, HX.out⟩
  · have HF := Lib.hid (show decide (A = B) = false by simp; intro e; exact hlen (by rw [e]))
    have k0 : ((A.length : Int) != (B.length : Int)) = true := by simp; omega
    have k2 : ((A.length : Int) == (B.length : Int)) = false := by rw [beq_eq_false_iff_ne]; omega
    clear ha' hb'
    go_enter Tryz.func99, Tryz.ntmps99
    go_wp2_with fail
    go_ret
    exact ⟨by rw [HF.out]; rfl, Ext.refl _⟩

set_option maxRecDepth 100000 in
set_option maxHeartbeats 400000 in
theorem equal_dot {S S' : Nat → Prop} {va vb : Value} {A B : List (Dot)} {w : World} (ha : Sl markT w S va A) (hb : Sl markT w S' vb B) :
    Calls Tryz.prog 176 #[va, vb] w fun e w' => e = .returned (.bool (decide (A = B))) ∧ Ext w w' := by
  have ha' := ha
  have hb' := hb
  obtain ⟨Aa, ca, rfl, h1, h2⟩ := ha.form
  obtain ⟨Ab, cb, rfl, h3, h4⟩ := hb.form
  clear ha hb
  by_cases hlen : A.length = B.length
  · have HE := Lib.hid hlen
    have k0 : ((A.length : Int) != (B.length : Int)) = false := by simp [hlen]
    have k1 : (A.length != B.length) = false := by simp [hlen]
    have k2 : ((A.length : Int) == (B.length : Int)) = true := by simp [hlen]
    have HAT := Lib.hid (fun (pre post : List (Dot)) (m : Dot) (wr : World) (h : Ext w wr) (hl : A = pre ++ m :: post) => dot_at ha' h hl)
    have HBT := Lib.hid (fun (pre post : List (Dot)) (m : Dot) (wr : World) (h : Ext w wr) (hl : B = pre ++ m :: post) => dot_at hb' h hl)
    have hlb : A.length ≤ B.length := by omega
    clear hlen ha' hb'
    go_enter Tryz.func176, Tryz.ntmps176
    go_wp2_with fail
    clear k0 k1 k2
    go_loopw [13] (fun i wr => ∃ pre pa pb, A = pre ++ pa ∧ B = pre ++ pb ∧ i = I pre.length ∧ Ext w wr) (fun i _ => A.length - (intOf i).toNat)
    case atStart => exact ⟨[], A, B, rfl, rfl, rfl, Ext.refl _⟩
    case round =>
      obtain ⟨pre, pa, pb, hla, hlb2, rfl, hx⟩ := hrel
      have hpp : pa.length = pb.length := by have := HE.out; rw [hla, hlb2] at this; simpa using this
      cases pa with
      | cons x pa =>
        cases pb with
        | nil => simp at hpp
        | cons y pb =>
          obtain ⟨b1, o1, rfl, hxa, hxb⟩ := HAT.out pre pa x wr hx hla
          obtain ⟨b2, o2, rfl, hya, hyb⟩ := HBT.out pre pb y wr hx hlb2
          have hlt : pre.length < A.length := by rw [hla]; simp
          have hltb : pre.length < B.length := by rw [hlb2]; simp
          have HLA := Lib.hid hla
          have HLB := Lib.hid hlb2
          have HX := Lib.hid hx
          clear hla hlb2 hpp hx
          have hgd : Tryz.prog.eqGuardType Tryz.prog.depth 97 = false := by kernel_rfl
          by_cases hxy : x = y
          · subst hxy
            have hne := fun W => neq_dot x x W
            simp only [decide_true, Bool.not_true] at hne
            go_wp2_with fail
            go_quiet (fail)
            go_wp2_with fail
            go_roundw
            case rel => exact ⟨pre ++ [x], pa, pb, by rw [HLA.out]; simp, by rw [HLB.out]; simp, by simp, HX.out.drewN _⟩
            case measure => simp [intOf]; omega
          · have hne := fun W => neq_dot x y W
            simp only [hxy, decide_false, Bool.not_false] at hne
            have HF := Lib.hid (show decide (A = B) = false by
              rw [HLA.out, HLB.out]
              simp [hxy])
            clear hxy
            go_wp2_with fail
            go_quiet (fail)
            go_wp2_with fail
            go_ret
            exact ⟨by rw [HF.out]; rfl, HX.out.drewN _⟩
      | nil =>
        have hb0 : pb = [] := List.eq_nil_of_length_eq_zero (by simpa using hpp.symm)
        subst hb0
        rw [List.append_nil] at hla hlb2
        have hl : A.length = pre.length := by rw [hla]
        have HF := Lib.hid (show decide (A = B) = true by rw [hla, hlb2]; simp)
        have HX := Lib.hid hx
        clear hla hlb2 hpp hx
        go_wp2_with fail
        go_ret
        exact ⟨by rw [HF.out]; rfl, HX.out⟩
  · have HF := Lib.hid (show decide (A = B) = false by simp; intro e; exact hlen (by rw [e]))
    have k0 : ((A.length : Int) != (B.length : Int)) = true := by simp; omega
    have k2 : ((A.length : Int) == (B.length : Int)) = false := by rw [beq_eq_false_iff_ne]; omega
    clear ha' hb'
    go_enter Tryz.func176, Tryz.ntmps176
    go_wp2_with fail
    go_ret
    exact ⟨by rw [HF.out]; rfl, Ext.refl _⟩

set_option maxRecDepth 100000 in
set_option maxHeartbeats 400000 in
theorem equal_count {S S' : Nat → Prop} {va vb : Value} {A B : List (Count)} {w : World} (ha : Sl countT w S va A) (hb : Sl countT w S' vb B) :
    Calls Tryz.prog 173 #[va, vb] w fun e w' => e = .returned (.bool (decide (A = B))) ∧ Ext w w' := by
  have ha' := ha
  have hb' := hb
  obtain ⟨Aa, ca, rfl, h1, h2⟩ := ha.form
  obtain ⟨Ab, cb, rfl, h3, h4⟩ := hb.form
  clear ha hb
  by_cases hlen : A.length = B.length
  · have HE := Lib.hid hlen
    have k0 : ((A.length : Int) != (B.length : Int)) = false := by simp [hlen]
    have k1 : (A.length != B.length) = false := by simp [hlen]
    have k2 : ((A.length : Int) == (B.length : Int)) = true := by simp [hlen]
    have HAT := Lib.hid (fun (pre post : List (Count)) (m : Count) (wr : World) (h : Ext w wr) (hl : A = pre ++ m :: post) => count_at ha' h hl)
    have HBT := Lib.hid (fun (pre post : List (Count)) (m : Count) (wr : World) (h : Ext w wr) (hl : B = pre ++ m :: post) => count_at hb' h hl)
    have hlb : A.length ≤ B.length := by omega
    clear hlen ha' hb'
    go_enter Tryz.func173, Tryz.ntmps173
    go_wp2_with fail
    clear k0 k1 k2
    go_loopw [13] (fun i wr => ∃ pre pa pb, A = pre ++ pa ∧ B = pre ++ pb ∧ i = I pre.length ∧ Ext w wr) (fun i _ => A.length - (intOf i).toNat)
    case atStart => exact ⟨[], A, B, rfl, rfl, rfl, Ext.refl _⟩
    case round =>
      obtain ⟨pre, pa, pb, hla, hlb2, rfl, hx⟩ := hrel
      have hpp : pa.length = pb.length := by have := HE.out; rw [hla, hlb2] at this; simpa using this
      cases pa with
      | cons x pa =>
        cases pb with
        | nil => simp at hpp
        | cons y pb =>
          obtain ⟨b1, o1, rfl, hxa, hxb, hxc⟩ := HAT.out pre pa x wr hx hla
          obtain ⟨b2, o2, rfl, hya, hyb, hyc⟩ := HBT.out pre pb y wr hx hlb2
          have hlt : pre.length < A.length := by rw [hla]; simp
          have hltb : pre.length < B.length := by rw [hlb2]; simp
          have HLA := Lib.hid hla
          have HLB := Lib.hid hlb2
          have HX := Lib.hid hx
          clear hla hlb2 hpp hx
          have hgd : Tryz.prog.eqGuardType Tryz.prog.depth 93 = false := by kernel_rfl
          by_cases hxy : x = y
          · subst hxy
            have hne := fun W => neq_count x x W
            simp only [decide_true, Bool.not_true] at hne
            go_wp2_with fail
            go_quiet (fail)
            go_wp2_with fail
            go_roundw
            case rel => exact ⟨pre ++ [x], pa, pb, by rw [HLA.out]; simp, by rw [HLB.out]; simp, by simp, HX.out.drewN _⟩
            case measure => simp [intOf]; omega
          · have hne := fun W => neq_count x y W
            simp only [hxy, decide_false, Bool.not_false] at hne
            have HF := Lib.hid (show decide (A = B) = false by
              rw [HLA.out, HLB.out]
              simp [hxy])
            clear hxy
            go_wp2_with fail
            go_quiet (fail)
            go_wp2_with fail
            go_ret
            exact ⟨by rw [HF.out]; rfl, HX.out.drewN _⟩
      | nil =>
        have hb0 : pb = [] := List.eq_nil_of_length_eq_zero (by simpa using hpp.symm)
        subst hb0
        rw [List.append_nil] at hla hlb2
        have hl : A.length = pre.length := by rw [hla]
        have HF := Lib.hid (show decide (A = B) = true by rw [hla, hlb2]; simp)
        have HX := Lib.hid hx
        clear hla hlb2 hpp hx
        go_wp2_with fail
        go_ret
        exact ⟨by rw [HF.out]; rfl, HX.out⟩
  · have HF := Lib.hid (show decide (A = B) = false by simp; intro e; exact hlen (by rw [e]))
    have k0 : ((A.length : Int) != (B.length : Int)) = true := by simp; omega
    have k2 : ((A.length : Int) == (B.length : Int)) = false := by rw [beq_eq_false_iff_ne]; omega
    clear ha' hb'
    go_enter Tryz.func173, Tryz.ntmps173
    go_wp2_with fail
    go_ret
    exact ⟨by rw [HF.out]; rfl, Ext.refl _⟩

set_option maxRecDepth 100000 in
set_option maxHeartbeats 400000 in
theorem equal_str {S S' : Nat → Prop} {va vb : Value} {A B : List (Str)} {w : World} (ha : Sl strT w S va A) (hb : Sl strT w S' vb B) :
    Calls Tryz.prog 100 #[va, vb] w fun e w' => e = .returned (.bool (decide (A = B))) ∧ Ext w w' := by
  have ha' := ha
  have hb' := hb
  obtain ⟨Aa, ca, rfl, h1, h2⟩ := ha.form
  obtain ⟨Ab, cb, rfl, h3, h4⟩ := hb.form
  clear ha hb
  by_cases hlen : A.length = B.length
  · have HE := Lib.hid hlen
    have k0 : ((A.length : Int) != (B.length : Int)) = false := by simp [hlen]
    have k1 : (A.length != B.length) = false := by simp [hlen]
    have k2 : ((A.length : Int) == (B.length : Int)) = true := by simp [hlen]
    have HAT := Lib.hid (fun (pre post : List (Str)) (m : Str) (wr : World) (h : Ext w wr) (hl : A = pre ++ m :: post) => str_at ha' h hl)
    have HBT := Lib.hid (fun (pre post : List (Str)) (m : Str) (wr : World) (h : Ext w wr) (hl : B = pre ++ m :: post) => str_at hb' h hl)
    have hlb : A.length ≤ B.length := by omega
    clear hlen ha' hb'
    go_enter Tryz.func100, Tryz.ntmps100
    go_wp2_with fail
    clear k0 k1 k2
    go_loopw [13] (fun i wr => ∃ pre pa pb, A = pre ++ pa ∧ B = pre ++ pb ∧ i = I pre.length ∧ Ext w wr) (fun i _ => A.length - (intOf i).toNat)
    case atStart => exact ⟨[], A, B, rfl, rfl, rfl, Ext.refl _⟩
    case round =>
      obtain ⟨pre, pa, pb, hla, hlb2, rfl, hx⟩ := hrel
      have hpp : pa.length = pb.length := by have := HE.out; rw [hla, hlb2] at this; simpa using this
      cases pa with
      | cons x pa =>
        cases pb with
        | nil => simp at hpp
        | cons y pb =>
          obtain ⟨b1, o1, rfl, hxa⟩ := HAT.out pre pa x wr hx hla
          obtain ⟨b2, o2, rfl, hya⟩ := HBT.out pre pb y wr hx hlb2
          have hlt : pre.length < A.length := by rw [hla]; simp
          have hltb : pre.length < B.length := by rw [hlb2]; simp
          have HLA := Lib.hid hla
          have HLB := Lib.hid hlb2
          have HX := Lib.hid hx
          clear hla hlb2 hpp hx
          by_cases hxy : x = y
          · subst hxy
            go_wp2_with fail
            go_quiet (fail)
            go_wp2_with fail
            go_roundw
            case rel => exact ⟨pre ++ [x], pa, pb, by rw [HLA.out]; simp, by rw [HLB.out]; simp, by simp, HX.out.drewN _⟩
            case measure => simp [intOf]; omega
          · have hne : (x == y) = false := by simpa using hxy
            have HF := Lib.hid (show decide (A = B) = false by
              rw [HLA.out, HLB.out]
              simp [hxy])
            clear hxy
            go_wp2_with fail
            go_quiet (fail)
            go_wp2_with fail
            go_ret
            exact ⟨by rw [HF.out]; rfl, HX.out.drewN _⟩
      | nil =>
        have hb0 : pb = [] := List.eq_nil_of_length_eq_zero (by simpa using hpp.symm)
        subst hb0
        rw [List.append_nil] at hla hlb2
        have hl : A.length = pre.length := by rw [hla]
        have HF := Lib.hid (show decide (A = B) = true by rw [hla, hlb2]; simp)
        have HX := Lib.hid hx
        clear hla hlb2 hpp hx
        go_wp2_with fail
        go_ret
        exact ⟨by rw [HF.out]; rfl, HX.out⟩
  · have HF := Lib.hid (show decide (A = B) = false by simp; intro e; exact hlen (by rw [e]))
    have k0 : ((A.length : Int) != (B.length : Int)) = true := by simp; omega
    have k2 : ((A.length : Int) == (B.length : Int)) = false := by rw [beq_eq_false_iff_ne]; omega
    clear ha' hb'
    go_enter Tryz.func100, Tryz.ntmps100
    go_wp2_with fail
    go_ret
    exact ⟨by rw [HF.out]; rfl, Ext.refl _⟩
end Go.Proofs.YtdikcgmdmcfpfaaGreat
namespace Go.Proofs.YtdikcgmdmcfpfaaGreat
open Go.RowKit

abbrev cellV (c : Cell) : Value := .agg #[U c.1, St c.2.1, .bool c.2.2]
def thereC (c : Cell) : Int := if c.2.2 then 0 else 1
def cmpC (a b : Cell) : Int := orI (cmpN a.1 b.1) (orI (cmpI (thereC a) (thereC b)) (cmpS a.2.1 b.2.1))
def joinC (a b : Cell) : Cell := if cmpC a b < 0 then b else a
def mayC (c : Cell) : Bool := if c.1 = 0 then c.2.1.isEmpty && !c.2.2 else decide (c.1 ≤ 281474976710656) && decide (c.2.1.length ≤ 4096) && !(c.2.2 && !c.2.1.isEmpty)
def textC (c : Cell) : Str × Bool := if c.1 = 0 ∨ c.2.2 = true then ([], false) else (c.2.1, true)

set_option maxRecDepth 100000 in
set_option maxHeartbeats 400000 in
theorem there_any (c : Cell) (W : World) : Calls Tryz.prog 239 #[cellV c] W fun e w' => e = .returned (I (thereC c)) ∧ Ext W w' := by
  obtain ⟨n, s, g⟩ := c
  cases g
  · go_enter Tryz.func239, Tryz.ntmps239
    go_wp2
    go_ret
    exact ⟨rfl, (Ext.refl _).alloc _⟩
  · go_enter Tryz.func239, Tryz.ntmps239
    go_wp2
    go_ret
    exact ⟨rfl, (Ext.refl _).alloc _⟩

/-- a boxed cell -/
abbrev BoxC (W : World) (b : Nat) (c : Cell) : Prop := W.cell? ⟨b, 0, none⟩ = some (U c.1) ∧ W.cell? ⟨b, 1, none⟩ = some (St c.2.1) ∧ W.cell? ⟨b, 2, none⟩ = some (.bool c.2.2)

set_option maxRecDepth 100000 in
set_option maxHeartbeats 400000 in
theorem cmpC1_any {a b : Cell} {ba bb : Nat} {W : World} (ha : BoxC W ba a) (hb : BoxC W bb b) : Calls Tryz.prog 236 #[.pointer (some ⟨ba, 0, none⟩), .pointer (some ⟨bb, 0, none⟩)] W fun e w' => e = .returned (I (cmpN a.1 b.1)) ∧ Ext W w' := by
  have H2 := Lib.hid ncmp_any
  obtain ⟨h1, -, -⟩ := ha
  obtain ⟨h2, -, -⟩ := hb
  go_enter Tryz.func236, Tryz.ntmps236
  go_wp2_with fail
  refine (H2.out _ _ _).mono ?_
  rintro e w' ⟨rfl, rfl⟩
  go_wp2
  go_ret
  exact ⟨rfl, Ext.refl _⟩

set_option maxRecDepth 100000 in
set_option maxHeartbeats 400000 in
theorem cmpC2_any {a b : Cell} {ba bb : Nat} {W : World} (ha : BoxC W ba a) (hb : BoxC W bb b) : Calls Tryz.prog 237 #[.pointer (some ⟨ba, 0, none⟩), .pointer (some ⟨bb, 0, none⟩)] W fun e w' => e = .returned (I (cmpI (thereC a) (thereC b))) ∧ Ext W w' := by
  have H1 := Lib.hid there_any
  have H2 := Lib.hid icmp_any
  obtain ⟨h0, h1, h2⟩ := ha
  obtain ⟨k0, k1, k2⟩ := hb
  go_enter Tryz.func237, Tryz.ntmps237
  go_wp2_with fail
  go_region_held3 (fun w' => w'.cell? ⟨ba, 0, none⟩ = some (U a.1) ∧ w'.cell? ⟨ba, 1, none⟩ = some (St a.2.1) ∧ w'.cell? ⟨ba, 2, none⟩ = some (.bool a.2.2) ∧ w'.cell? ⟨bb, 0, none⟩ = some (U b.1) ∧ w'.cell? ⟨bb, 1, none⟩ = some (St b.2.1) ∧ w'.cell? ⟨bb, 2, none⟩ = some (.bool b.2.2) ∧ Ext W w')
    (first | exact ⟨by simpa [go_sem] using h0, by simpa [go_sem] using h1, by simpa [go_sem] using h2, by simpa [go_sem] using k0, by simpa [go_sem] using k1, by simpa [go_sem] using k2, (Ext.refl _).drew⟩ | exact ⟨hb1.cell ‹_ ∧ _ ∧ _ ∧ _ ∧ _ ∧ _ ∧ Ext W _›.1, hb1.cell ‹_ ∧ _ ∧ _ ∧ _ ∧ _ ∧ _ ∧ Ext W _›.2.1, hb1.cell ‹_ ∧ _ ∧ _ ∧ _ ∧ _ ∧ _ ∧ Ext W _›.2.2.1, hb1.cell ‹_ ∧ _ ∧ _ ∧ _ ∧ _ ∧ _ ∧ Ext W _›.2.2.2.1, hb1.cell ‹_ ∧ _ ∧ _ ∧ _ ∧ _ ∧ _ ∧ Ext W _›.2.2.2.2.1, hb1.cell ‹_ ∧ _ ∧ _ ∧ _ ∧ _ ∧ _ ∧ Ext W _›.2.2.2.2.2.1, ‹_ ∧ _ ∧ _ ∧ _ ∧ _ ∧ _ ∧ Ext W _›.2.2.2.2.2.2.trans hb1⟩ | exact ‹_ ∧ _ ∧ _ ∧ _ ∧ _ ∧ _ ∧ Ext W _›)
    (first | (go_at_call 239; refine (H1.out _ _).mono ?_; rintro e w1 ⟨rfl, hb1⟩) | (go_at_call 238; refine (H2.out _ _ _).mono ?_; rintro e w' ⟨rfl, rfl⟩))
  go_wp2
  go_ret
  exact ⟨rfl, ‹_ ∧ _ ∧ _ ∧ _ ∧ _ ∧ _ ∧ Ext W _›.2.2.2.2.2.2⟩

set_option maxRecDepth 100000 in
set_option maxHeartbeats 400000 in
theorem cmpC3_any {a b : Cell} {ba bb : Nat} {W : World} (ha : BoxC W ba a) (hb : BoxC W bb b) : Calls Tryz.prog 240 #[.pointer (some ⟨ba, 0, none⟩), .pointer (some ⟨bb, 0, none⟩)] W fun e w' => e = .returned (I (cmpS a.2.1 b.2.1)) ∧ Ext W w' := by
  have H2 := Lib.hid scmp_any
  obtain ⟨-, h1, -⟩ := ha
  obtain ⟨-, h2, -⟩ := hb
  go_enter Tryz.func240, Tryz.ntmps240
  go_wp2_with fail
  refine (H2.out _ _ _).mono ?_
  rintro e w' ⟨rfl, rfl⟩
  go_wp2
  go_ret
  exact ⟨rfl, Ext.refl _⟩

abbrev capC (w : World) : Array Value := #[.pointer (some ⟨w.heap.size, 0, none⟩), .pointer (some ⟨w.heap.size + 1, 0, none⟩)]
/-- what is held of the two boxes and of the row of closures -/
abbrev CmpAt (w W : World) (a b : Cell) : Prop := (BoxC W w.heap.size a ∧ BoxC W (w.heap.size + 1) b) ∧ (W.cell? ⟨w.heap.size + 2, 0, none⟩ = some (.func (.func 236) #[] (capC w)) ∧ W.cell? ⟨w.heap.size + 2, 1, none⟩ = some (.func (.func 237) #[] (capC w)) ∧ W.cell? ⟨w.heap.size + 2, 2, none⟩ = some (.func (.func 240) #[] (capC w))) ∧ Ext w W

theorem orI_zero (b : Int) : orI 0 b = b := by simp [orI]
theorem orI_ne {a : Int} (h : a ≠ 0) (b : Int) : orI a b = a := by simp [orI, h]
theorem CmpAt.ext {w W W' : World} {a b : Cell} (h : CmpAt w W a b) (k : Ext W W') : CmpAt w W' a b :=
  ⟨⟨⟨k.cell h.1.1.1, k.cell h.1.1.2.1, k.cell h.1.1.2.2⟩, ⟨k.cell h.1.2.1, k.cell h.1.2.2.1, k.cell h.1.2.2.2⟩⟩, ⟨k.cell h.2.1.1, k.cell h.2.1.2.1, k.cell h.2.1.2.2⟩, h.2.2.trans k⟩

set_option maxRecDepth 100000 in
set_option maxHeartbeats 1000000 in
theorem cmpC_any (a b : Cell) (w : World) : Calls Tryz.prog 194 #[cellV a, cellV b] w fun e w' => e = .returned (I (cmpC a b)) ∧ Ext w w' := by
  have e1 : ∀ args w, (callFunc 236 args).run Tryz.prog w = .ok (.enter 236 args) w := enters_of Tryz.func236 (by kernel_rfl) rfl
  have e2 : ∀ args w, (callFunc 237 args).run Tryz.prog w = .ok (.enter 237 args) w := enters_of Tryz.func237 (by kernel_rfl) rfl
  have e3 : ∀ args w, (callFunc 240 args).run Tryz.prog w = .ok (.enter 240 args) w := enters_of Tryz.func240 (by kernel_rfl) rfl
  go_enter Tryz.func194, Tryz.ntmps194
  go_wp2_with fail
  go_loopw [15] (fun i wr => ∃ k : Nat, i = I k ∧ ((k = 0) ∨ (k = 1 ∧ cmpN a.1 b.1 = 0) ∨ (k = 2 ∧ cmpN a.1 b.1 = 0 ∧ cmpI (thereC a) (thereC b) = 0) ∨ (k = 3 ∧ cmpC a b = 0)) ∧ CmpAt w wr a b) (fun i _ => 3 - (intOf i).toNat)
  case atStart => exact ⟨0, rfl, .inl rfl, ⟨⟨by simp [go_sem], by simp [go_sem], by simp [go_sem]⟩, ⟨by simp [go_sem], by simp [go_sem], by simp [go_sem]⟩⟩, ⟨by simp [go_sem], by simp [go_sem], by simp [go_sem]⟩, (((Ext.refl w).alloc _).alloc _).alloc _⟩
  case round =>
    obtain ⟨k, rfl, hk, hC⟩ := hrel
    have H1 := Lib.hid (cmpC1_any hC.1.1 hC.1.2)
    have H2 := Lib.hid (cmpC2_any hC.1.1 hC.1.2)
    have H3 := Lib.hid (cmpC3_any hC.1.1 hC.1.2)
    have HC := Lib.hid hC
    obtain ⟨-, ⟨f0, f1, f2⟩, -⟩ := hC
    rcases hk with rfl | ⟨rfl, q1⟩ | ⟨rfl, q1, q2⟩ | ⟨rfl, q⟩
    · clear H2 H3
      by_cases hz : cmpN a.1 b.1 = 0
      · have HZ := Lib.hid hz
        rw [hz] at H1
        clear hz
        go_wp2_with fail
        refine H1.out.mono ?_
        rintro e w1 ⟨rfl, hb1⟩
        go_wp2
        go_roundw
        case rel => exact ⟨1, rfl, .inr (.inl ⟨rfl, HZ.out⟩), HC.out.ext hb1⟩
        case measure => simp [intOf]
      · have hz' : (cmpN a.1 b.1 == 0) = false := by rw [beq_eq_false_iff_ne]; exact hz
        have HZ := Lib.hid hz
        clear hz
        go_wp2_with fail
        refine H1.out.mono ?_
        rintro e w1 ⟨rfl, hb1⟩
        go_wp2
        go_ret
        exact ⟨by rw [cmpC, orI_ne HZ.out]; rfl, HC.out.2.2.trans hb1⟩
    · clear H1 H3
      have Q1 := Lib.hid q1
      clear q1
      by_cases hz : cmpI (thereC a) (thereC b) = 0
      · have HZ := Lib.hid hz
        rw [hz] at H2
        clear hz
        go_wp2_with fail
        refine H2.out.mono ?_
        rintro e w1 ⟨rfl, hb1⟩
        go_wp2
        go_roundw
        case rel => exact ⟨2, rfl, .inr (.inr (.inl ⟨rfl, Q1.out, HZ.out⟩)), HC.out.ext hb1⟩
        case measure => simp [intOf]
      · have hz' : (cmpI (thereC a) (thereC b) == 0) = false := by rw [beq_eq_false_iff_ne]; exact hz
        have HZ := Lib.hid hz
        clear hz
        go_wp2_with fail
        refine H2.out.mono ?_
        rintro e w1 ⟨rfl, hb1⟩
        go_wp2
        go_ret
        exact ⟨by rw [cmpC, Q1.out, orI_zero, orI_ne HZ.out]; rfl, HC.out.2.2.trans hb1⟩
    · clear H1 H2
      have Q1 := Lib.hid q1
      have Q2 := Lib.hid q2
      clear q1 q2
      by_cases hz : cmpS a.2.1 b.2.1 = 0
      · have HZ := Lib.hid hz
        rw [hz] at H3
        clear hz
        go_wp2_with fail
        refine H3.out.mono ?_
        rintro e w1 ⟨rfl, hb1⟩
        go_wp2
        go_roundw
        case rel => exact ⟨3, rfl, .inr (.inr (.inr ⟨rfl, by rw [cmpC, Q1.out, orI_zero, Q2.out, orI_zero, HZ.out]⟩)), HC.out.ext hb1⟩
        case measure => simp [intOf]
      · have hz' : (cmpS a.2.1 b.2.1 == 0) = false := by rw [beq_eq_false_iff_ne]; exact hz
        have HZ := Lib.hid hz
        clear hz
        go_wp2_with fail
        refine H3.out.mono ?_
        rintro e w1 ⟨rfl, hb1⟩
        go_wp2
        go_ret
        exact ⟨by rw [cmpC, Q1.out, orI_zero, Q2.out, orI_zero]; rfl, HC.out.2.2.trans hb1⟩
    · clear H1 H2 H3
      have HQ := Lib.hid q
      clear q
      go_wp2_with fail
      go_ret
      exact ⟨by rw [HQ.out]; rfl, HC.out.2.2⟩

set_option maxRecDepth 100000 in
set_option maxHeartbeats 400000 in
theorem joinC_any (a b : Cell) (w : World) : Calls Tryz.prog 108 #[cellV a, cellV b] w fun e w' => e = .returned (cellV (joinC a b)) ∧ Ext w w' := by
  have H1 := Lib.hid cmpC_any
  by_cases h : cmpC a b < 0
  · have HJ := Lib.hid (show joinC a b = b by simp [joinC, h])
    go_enter Tryz.func108, Tryz.ntmps108
    go_wp2_with fail
    refine (H1.out _ _ _).mono ?_
    rintro e w1 ⟨rfl, hb1⟩
    have c0 : w1.cell? ⟨w.heap.size + 1, 0, none⟩ = some (U b.1) := hb1.cell (by simp [go_sem])
    have c1 : w1.cell? ⟨w.heap.size + 1, 1, none⟩ = some (St b.2.1) := hb1.cell (by simp [go_sem])
    have c2 : w1.cell? ⟨w.heap.size + 1, 2, none⟩ = some (.bool b.2.2) := hb1.cell (by simp [go_sem])
    have d0 : w1.cell? ⟨w.heap.size + 2, 0, none⟩ = some (U 0) := hb1.cell (by simp [go_sem])
    have d1 : w1.cell? ⟨w.heap.size + 2, 1, none⟩ = some (St []) := hb1.cell (by simp [go_sem])
    have d2 : w1.cell? ⟨w.heap.size + 2, 2, none⟩ = some (.bool false) := hb1.cell (by simp [go_sem])
    have ff : ∀ o, w1.frozen? ⟨w.heap.size + 2, o, none⟩ = false := fun o => (hb1.frozen (by simp)).trans (by simp [go_sem])
    have f0 := ff 0
    have f1 := ff 1
    have f2 := ff 2
    go_wp2
    (try simp only [Exit.inBlock, Exit.then])
    refine bodyPost_ret (v := cellV b) (by simp [results, Tryz.f108, go_sem, c0, c1, c2, d0, d1, d2]) rfl ?_
    exact ⟨by rw [HJ.out], ((((((Ext.refl w).alloc _).alloc _).alloc _).trans hb1).set (by simp; omega) _ |>.set (by simp; omega) _ |>.set (by simp; omega) _)⟩
  · have HJ := Lib.hid (show joinC a b = a by simp [joinC, h])
    go_enter Tryz.func108, Tryz.ntmps108
    go_wp2_with fail
    refine (H1.out _ _ _).mono ?_
    rintro e w1 ⟨rfl, hb1⟩
    have c0 : w1.cell? ⟨w.heap.size, 0, none⟩ = some (U a.1) := hb1.cell (by simp [go_sem])
    have c1 : w1.cell? ⟨w.heap.size, 1, none⟩ = some (St a.2.1) := hb1.cell (by simp [go_sem])
    have c2 : w1.cell? ⟨w.heap.size, 2, none⟩ = some (.bool a.2.2) := hb1.cell (by simp [go_sem])
    have d0 : w1.cell? ⟨w.heap.size + 2, 0, none⟩ = some (U 0) := hb1.cell (by simp [go_sem])
    have d1 : w1.cell? ⟨w.heap.size + 2, 1, none⟩ = some (St []) := hb1.cell (by simp [go_sem])
    have d2 : w1.cell? ⟨w.heap.size + 2, 2, none⟩ = some (.bool false) := hb1.cell (by simp [go_sem])
    have ff : ∀ o, w1.frozen? ⟨w.heap.size + 2, o, none⟩ = false := fun o => (hb1.frozen (by simp)).trans (by simp [go_sem])
    have f0 := ff 0
    have f1 := ff 1
    have f2 := ff 2
    go_wp2
    (try simp only [Exit.inBlock, Exit.then])
    refine bodyPost_ret (v := cellV a) (by simp [results, Tryz.f108, go_sem, c0, c1, c2, d0, d1, d2]) rfl ?_
    exact ⟨by rw [HJ.out], ((((((Ext.refl w).alloc _).alloc _).alloc _).trans hb1).set (by simp; omega) _ |>.set (by simp; omega) _ |>.set (by simp; omega) _)⟩

set_option maxRecDepth 100000 in
set_option maxHeartbeats 400000 in
theorem mayC_any (c : Cell) (w : World) : Calls Tryz.prog 125 #[cellV c] w fun e w' => e = .returned (.bool (mayC c)) ∧ Ext w w' := by
  obtain ⟨n, s, g⟩ := c
  cases n with
  | zero =>
    cases s with
    | nil =>
      cases g <;>
      · go_enter Tryz.func125, Tryz.ntmps125
        go_wp2
        go_ret
        exact ⟨by simp [mayC], (Ext.refl _).alloc _⟩
    | cons x r =>
      have e1 : ((x :: r).toArray == (#[] : Array UInt8)) = false := by simp
      cases g <;>
      · go_enter Tryz.func125, Tryz.ntmps125
        go_wp2
        go_ret
        exact ⟨by simp [mayC], (Ext.refl _).alloc _⟩
  | succ n =>
    have h0 : (((n + 1 : Nat) : Int) == 0) = false := by rw [beq_eq_false_iff_ne]; omega
    have h1 : ((n : Int) + 1 == 0) = false := by rw [beq_eq_false_iff_ne]; omega
    by_cases r1 : n + 1 ≤ 281474976710656
    · have r2 : ((n : Int) + 1 ≤ 281474976710656) := by omega
      by_cases r3 : s.length ≤ 4096
      · have r4 : (s.length : Int) ≤ 4096 := by omega
        by_cases hs : s = []
        · subst hs
          cases g <;>
          · go_enter Tryz.func125, Tryz.ntmps125
            go_wp2
            go_ret
            exact ⟨by simp [mayC]; omega, (Ext.refl _).alloc _⟩
        · have e1 : (s.toArray == (#[] : Array UInt8)) = false := by simpa using hs
          have e2 : s.isEmpty = false := by simpa using hs
          have HM := Lib.hid (show mayC (n + 1, s, g) = !g by simp [mayC, r1, r3, hs])
          clear hs r1 r3
          cases g <;>
          · go_enter Tryz.func125, Tryz.ntmps125
            go_wp2
            go_ret
            exact ⟨by rw [HM.out]; first | rfl | simp [e2], (Ext.refl _).alloc _⟩
      · have r4 : ¬ (s.length : Int) ≤ 4096 := by omega
        go_enter Tryz.func125, Tryz.ntmps125
        go_wp2
        go_ret
        exact ⟨by simp [mayC]; omega, (Ext.refl _).alloc _⟩
    · have r2 : ¬ ((n : Int) + 1 ≤ 281474976710656) := by omega
      go_enter Tryz.func125, Tryz.ntmps125
      go_wp2
      go_ret
      exact ⟨by simp [mayC]; omega, (Ext.refl _).alloc _⟩

set_option maxRecDepth 100000 in
set_option maxHeartbeats 400000 in
theorem textC_any (c : Cell) (w : World) : Calls Tryz.prog 151 #[cellV c] w fun e w' => e = .returned (.tuple #[St (textC c).1, .bool (textC c).2]) ∧ Ext w w' := by
  obtain ⟨n, s, g⟩ := c
  cases n with
  | zero =>
    cases g <;>
    · go_enter Tryz.func151, Tryz.ntmps151
      go_wp2
      go_ret2
      exact ⟨by simp [textC], (Ext.refl _).alloc _⟩
  | succ n =>
    have h0 : (((n + 1 : Nat) : Int) == 0) = false := by rw [beq_eq_false_iff_ne]; omega
    have h1 : ((n : Int) + 1 == 0) = false := by rw [beq_eq_false_iff_ne]; omega
    cases g <;>
    · go_enter Tryz.func151, Tryz.ntmps151
      go_wp2
      go_ret2
      exact ⟨by simp [textC], (Ext.refl _).alloc _⟩
end Go.Proofs.YtdikcgmdmcfpfaaGreat
namespace Go.Proofs.YtdikcgmdmcfpfaaGreat
open Go.RowKit

/-- the cell behind a write, and the error's number -/
def writeC (c : Cell) (text : Str) (gone : Bool) : Cell × Nat :=
  if 4096 < text.length then ((0, [], false), 4) else if 281474976710656 ≤ c.1 then ((0, [], false), 9) else ((c.1 + 1, if gone then [] else text, gone), 0)

set_option maxRecDepth 100000 in
set_option maxHeartbeats 1000000 in
theorem writeC_any (c : Cell) (text : Str) (gone : Bool) (w : World) : Calls Tryz.prog 158 #[cellV c, St text, .bool gone] w fun e w' => e = .returned (.tuple #[cellV (writeC c text gone).1, I (writeC c text gone).2]) ∧ Ext w w' := by
  obtain ⟨n, s, g⟩ := c
  by_cases h1 : 4096 < text.length
  · have k1 : (text.length : Int) > 4096 := by omega
    have HW := Lib.hid (show writeC (n, s, g) text gone = ((0, [], false), 4) by simp [writeC, h1])
    clear h1
    go_enter Tryz.func158, Tryz.ntmps158
    go_wp2_with fail
    exact bodyPost_ret (v := .tuple #[.agg #[U 0, St [], .bool false], I 4]) (by simp [results, Tryz.f158, go_sem]) rfl ⟨by rw [HW.out]; rfl, ((Ext.refl w).alloc _).alloc _⟩
  · have k1 : ¬ (text.length : Int) > 4096 := by omega
    by_cases h2 : 281474976710656 ≤ n
    · have k2 : (n : Int) ≥ 281474976710656 := by omega
      have HW := Lib.hid (show writeC (n, s, g) text gone = ((0, [], false), 9) by simp [writeC, h1, h2])
      clear h1 h2
      go_enter Tryz.func158, Tryz.ntmps158
      go_wp2_with fail
      exact bodyPost_ret (v := .tuple #[.agg #[U 0, St [], .bool false], I 9]) (by simp [results, Tryz.f158, go_sem]) rfl ⟨by rw [HW.out]; rfl, ((Ext.refl w).alloc _).alloc _⟩
    · have k2 : ¬ (n : Int) ≥ 281474976710656 := by omega
      have k3 : IntKind.u64.wrap ((n : Int) + 1) = (n : Int) + 1 := by rw [wrap_u64]; omega
      have HW := Lib.hid (show writeC (n, s, g) text gone = ((n + 1, if gone then [] else text, gone), 0) by simp [writeC, h1, h2])
      clear h1 h2
      cases gone
      · go_enter Tryz.func158, Tryz.ntmps158
        go_wp2_with fail
        exact bodyPost_ret (v := .tuple #[.agg #[U (n + 1), St text, .bool false], I 0]) (by simp [results, Tryz.f158, go_sem]) rfl ⟨by rw [HW.out]; rfl, ((Ext.refl w).alloc _).alloc _⟩
      · go_enter Tryz.func158, Tryz.ntmps158
        go_wp2_with fail
        exact bodyPost_ret (v := .tuple #[.agg #[U (n + 1), St [], .bool true], I 0]) (by simp [results, Tryz.f158, go_sem]) rfl ⟨by rw [HW.out]; rfl, ((Ext.refl w).alloc _).alloc _⟩
end Go.Proofs.YtdikcgmdmcfpfaaGreat
namespace Go.Proofs.YtdikcgmdmcfpfaaGreat
open Go.RowKit Go.Shelf

def sameItem (a b : Item) : Bool := decide (a = b)
set_option maxRecDepth 100000 in
set_option maxHeartbeats 400000 in
theorem same1_any {S S' : Nat → Prop} {va vb : Value} {a b : Item} {w : World} (ha : Sl markT w S va a.2) (hb : Sl markT w S' vb b.2) :
    Calls Tryz.prog 175 #[.agg #[St a.1, va], .agg #[St b.1, vb]] w fun e w' => e = .returned (.bool (sameItem a b)) ∧ Ext w w' := by
  obtain ⟨at_, ad⟩ := a
  obtain ⟨bt, bd⟩ := b
  have hx := ((Ext.refl w).alloc (.cells #[St at_, va] 96)).alloc (.cells #[St bt, vb] 96)
  have H := Lib.hid (equal_dot (ha.ext (by decide) hx) (hb.ext (by decide) hx))
  obtain ⟨Aa, ca, rfl, -, -⟩ := ha.form
  obtain ⟨Ab, cb, rfl, -, -⟩ := hb.form
  clear ha hb
  by_cases h : at_ = bt
  · subst h
    have HF := Lib.hid (show sameItem (at_, ad) (at_, bd) = decide (ad = bd) by simp [sameItem])
    go_enter Tryz.func175, Tryz.ntmps175
    go_wp2_with fail
    refine H.out.mono ?_
    rintro e w2 ⟨rfl, hx2⟩
    go_wp2
    go_ret
    exact ⟨by rw [HF.out]; rfl, hx.trans hx2⟩
  · have HF := Lib.hid (show sameItem (at_, ad) (bt, bd) = false by simp [sameItem, h])
    have h1 : (at_ == bt) = false := by simpa using h
    clear h
    go_enter Tryz.func175, Tryz.ntmps175
    go_wp2
    go_ret
    exact ⟨by rw [HF.out]; rfl, hx⟩

set_option maxRecDepth 100000 in
set_option maxHeartbeats 1000000 in
theorem equalItems_any {S S' : Nat → Prop} {va vb : Value} {A B : List Item} {w : World} (ha : Sl itemT w S va A) (hb : Sl itemT w S' vb B) :
    Calls Tryz.prog 174 #[va, vb, .func (.func 175) #[] #[]] w fun e w' => e = .returned (.bool (decide (A = B))) ∧ Ext w w' := by
  have ha' := ha
  have hb' := hb
  obtain ⟨Aa, ca, rfl, h1, h2⟩ := ha.form
  obtain ⟨Ab, cb, rfl, h3, h4⟩ := hb.form
  have eg : ∀ args w, (callFunc 175 args).run Tryz.prog w = .ok (.enter 175 args) w := enters_of Tryz.func175 (by kernel_rfl) rfl
  clear ha hb
  by_cases hlen : A.length = B.length
  · have HE := Lib.hid hlen
    have k0 : ((A.length : Int) != (B.length : Int)) = false := by simp [hlen]
    have k1 : (A.length != B.length) = false := by simp [hlen]
    have k2 : ((A.length : Int) == (B.length : Int)) = true := by simp [hlen]
    have HAT := Lib.hid (fun (pre post : List Item) (m : Item) (wr : World) (h : Ext w wr) (hl : A = pre ++ m :: post) => item_at ha' h hl)
    have HBT := Lib.hid (fun (pre post : List Item) (m : Item) (wr : World) (h : Ext w wr) (hl : B = pre ++ m :: post) => item_at hb' h hl)
    have hlb : A.length ≤ B.length := by omega
    have HS1 := Lib.hid (fun (S S' : Nat → Prop) (va vb : Value) (a b : Item) (W : World) => @same1_any S S' va vb a b W)
    clear hlen ha' hb'
    go_enter Tryz.func174, Tryz.ntmps174
    go_wp2_with fail
    clear k0 k1 k2
    go_loopw [17] (fun i wr => ∃ pre pa pb, A = pre ++ pa ∧ B = pre ++ pb ∧ i = I pre.length ∧ Ext w wr) (fun i _ => A.length - (intOf i).toNat)
    case atStart => exact ⟨[], A, B, rfl, rfl, rfl, Ext.refl _⟩
    case round =>
      obtain ⟨pre, pa, pb, hla, hlb2, rfl, hx⟩ := hrel
      have hpp : pa.length = pb.length := by have := HE.out; rw [hla, hlb2] at this; simpa using this
      cases pa with
      | cons x pa =>
        cases pb with
        | nil => simp at hpp
        | cons y pb =>
          obtain ⟨b1, o1, vx, rfl, hxa, hxb, hsx⟩ := HAT.out pre pa x wr hx hla
          obtain ⟨b2, o2, vy, rfl, hya, hyb, hsy⟩ := HBT.out pre pb y wr hx hlb2
          have hlt : pre.length < A.length := by rw [hla]; simp
          have hltb : pre.length < B.length := by rw [hlb2]; simp
          have HLA := Lib.hid hla
          have HLB := Lib.hid hlb2
          have HX := Lib.hid hx
          have hx0 := hx.trans (((Ext.refl wr).alloc (.cells #[St x.1, vx] 96)).alloc (.cells #[St y.1, vy] 96))
          have hyc := ((Ext.refl wr).alloc (.cells #[St x.1, vx] 96)).cell hya
          have hyd := ((Ext.refl wr).alloc (.cells #[St x.1, vx] 96)).cell hyb
          have HC := Lib.hid (HS1.out _ _ _ _ _ _ _ (hsx.ext (by decide) hx0) (hsy.ext (by decide) hx0))
          have HX0 := Lib.hid hx0
          obtain ⟨Ax, cx, rfl, -, -⟩ := hsx.form
          obtain ⟨Ay, cy, rfl, -, -⟩ := hsy.form
          clear hla hlb2 hpp hx hsx hsy hx0
          by_cases hxy : x = y
          · subst hxy
            go_wp2_with fail
            refine HC.out.mono ?_
            rintro e w2 ⟨rfl, hx2⟩
            rw [show sameItem x x = true by simp [sameItem]]
            go_wp2_with fail
            go_roundw
            case rel => exact ⟨pre ++ [x], pa, pb, by rw [HLA.out]; simp, by rw [HLB.out]; simp, by simp, HX0.out.trans hx2⟩
            case measure => simp [intOf]; omega
          · have HF := Lib.hid (show decide (A = B) = false by
              rw [HLA.out, HLB.out]
              simp [hxy])
            have HXY := Lib.hid hxy
            clear hxy
            go_wp2_with fail
            refine HC.out.mono ?_
            rintro e w2 ⟨rfl, hx2⟩
            rw [show sameItem x y = false by simp [sameItem, HXY.out]]
            go_wp2_with fail
            go_ret
            exact ⟨by rw [HF.out]; rfl, HX0.out.trans hx2⟩
      | nil =>
        have hb0 : pb = [] := List.eq_nil_of_length_eq_zero (by simpa using hpp.symm)
        subst hb0
        rw [List.append_nil] at hla hlb2
        have hl : A.length = pre.length := by rw [hla]
        have HF := Lib.hid (show decide (A = B) = true by rw [hla, hlb2]; simp)
        have HX := Lib.hid hx
        clear hla hlb2 hpp hx
        go_wp2_with fail
        go_ret
        exact ⟨by rw [HF.out]; rfl, HX.out⟩
  · have HF := Lib.hid (show decide (A = B) = false by simp; intro e; exact hlen (by rw [e]))
    have k0 : ((A.length : Int) != (B.length : Int)) = true := by simp; omega
    have k2 : ((A.length : Int) == (B.length : Int)) = false := by rw [beq_eq_false_iff_ne]; omega
    clear ha' hb'
    go_enter Tryz.func174, Tryz.ntmps174
    go_wp2_with fail
    go_ret
    exact ⟨by rw [HF.out]; rfl, Ext.refl _⟩
end Go.Proofs.YtdikcgmdmcfpfaaGreat
namespace Go.Proofs.YtdikcgmdmcfpfaaGreat
open Go.RowKit Go.Shelf

abbrev entC (e : Entry) (v1 v2 v3 : Value) : Array Value := #[St e.key, v1, v2, v3, U e.cell.1, St e.cell.2.1, .bool e.cell.2.2]
abbrev entV (e : Entry) (v1 v2 v3 : Value) : Value := .agg (entC e v1 v2 v3)
/-- what an entry's three slices read as -/
structure EntAt (w : World) (S : Nat → Prop) (e : Entry) (v1 v2 v3 : Value) : Prop where
  seen : Sl markT w S v1 e.seen
  counts : Sl countT w S v2 e.counts
  items : Sl itemT w S v3 e.items
theorem EntAt.ext {w w' : World} {S : Nat → Prop} {e : Entry} {v1 v2 v3 : Value} (h : EntAt w S e v1 v2 v3) (he : Ext w w') : EntAt w' S e v1 v2 v3 :=
  ⟨h.seen.ext (by decide) he, h.counts.ext (by decide) he, h.items.ext (by decide) he⟩
theorem EntAt.mono {w : World} {S S' : Nat → Prop} {e : Entry} {v1 v2 v3 : Value} (h : EntAt w S e v1 v2 v3) (hs : ∀ b, b < w.heap.size → S b → S' b) : EntAt w S' e v1 v2 v3 :=
  ⟨h.seen.mono (by decide) hs, h.counts.mono (by decide) hs, h.items.mono (by decide) hs⟩

section
set_option maxRecDepth 100000
theorem eqIn_cell (d : Nat) (x y : Cell) (w : World) : (Op.equalIn (d + 1 + 1) 35 (.agg #[U x.1, St x.2.1, .bool x.2.2]) (.agg #[U y.1, St y.2.1, .bool y.2.2])).run Tryz.prog w = .ok (decide (x = y)) w := by
  have hS : Tryz.prog.underlying 35 = some (.struct (Tryz.prog.fieldsOf 35)) := by kernel_rfl
  have hp : Tryz.prog.stoodInHeld 35 = false := by kernel_rfl
  have u1 := Tryz.underlying9
  have u2 := Tryz.underlying23
  have u3 := Tryz.underlying4
  have a1 := Tryz.isAgg9
  have a2 := Tryz.isAgg23
  have a3 := Tryz.isAgg4
  have z1 := Tryz.sizeOf9
  have z2 := Tryz.sizeOf23
  have z3 := Tryz.sizeOf4
  rw [run_equalIn_agg w (d + 1) 35 _ _ hS hp]
  simp only [Program.fieldsOf, Tryz.underlying35]
  go_simp
  obtain ⟨x1, x2, x3⟩ := x
  obtain ⟨y1, y2, y3⟩ := y
  by_cases h1 : x1 = y1
  · by_cases h2 : x2 = y2
    · subst h1; subst h2
      cases x3 <;> cases y3 <;> simp
    · subst h1
      simp [h2]
  · have h4 : ¬ (x1 : Int) = y1 := fun e => h1 (Int.ofNat_inj.1 e)
    simp [h4, h1]
theorem eql_cell (x y : Cell) (w : World) : (binOp .eql 35 (.agg #[U x.1, St x.2.1, .bool x.2.2]) (.agg #[U y.1, St y.2.1, .bool y.2.2])).run Tryz.prog w = .ok (.bool (decide (x = y))) w := by
  rw [run_eql_struct, show (10000 : Nat) = 9998 + 1 + 1 from rfl, eqIn_cell]; rfl
end

def sameE (a b : Entry) : Bool := decide (a.key = b.key) && (decide (a.cell = b.cell) && (decide (a.seen = b.seen) && (decide (a.counts = b.counts) && decide (a.items = b.items))))
theorem sameE_iff {a b : Entry} : sameE a b = true ↔ a = b := by
  unfold sameE
  obtain ⟨a1, a2, a3, a4, a5⟩ := a
  obtain ⟨b1, b2, b3, b4, b5⟩ := b
  simp only [Bool.and_eq_true, decide_eq_true_eq, Entry.mk.injEq]
  constructor
  · rintro ⟨h1, h2, h3, h4, h5⟩; exact ⟨h1, h3, h4, h5, h2⟩
  · rintro ⟨h1, h3, h4, h5, h2⟩; exact ⟨h1, h2, h3, h4, h5⟩

set_option maxRecDepth 100000 in
set_option maxHeartbeats 1000000 in
theorem sameE_any {S S' : Nat → Prop} {a b : Entry} {a1 a2 a3 b1 b2 b3 : Value} {w : World} (ha : EntAt w S a a1 a2 a3) (hb : EntAt w S' b b1 b2 b3) :
    Calls Tryz.prog 102 #[entV a a1 a2 a3, entV b b1 b2 b3] w fun e w' => e = .returned (.bool (sameE a b)) ∧ Ext w w' := by
  have hgd : Tryz.prog.eqGuardType Tryz.prog.depth 35 = false := by kernel_rfl
  obtain ⟨ak, ae, ac, ai, x1, x2, x3⟩ := a
  obtain ⟨bk, bs, bc, bi, y1, y2, y3⟩ := b
  have hx := ((Ext.refl w).alloc (.cells (entC ⟨ak, ae, ac, ai, x1, x2, x3⟩ a1 a2 a3) 37)).alloc (.cells (entC ⟨bk, bs, bc, bi, y1, y2, y3⟩ b1 b2 b3) 37)
  have HA := Lib.hid ha
  have HB := Lib.hid hb
  obtain ⟨A1, n1, rfl, -, -⟩ := ha.seen.form
  obtain ⟨A2, n2, rfl, -, -⟩ := ha.counts.form
  obtain ⟨A3, n3, rfl, -, -⟩ := ha.items.form
  obtain ⟨B1, m1, rfl, -, -⟩ := hb.seen.form
  obtain ⟨B2, m2, rfl, -, -⟩ := hb.counts.form
  obtain ⟨B3, m3, rfl, -, -⟩ := hb.items.form
  clear ha hb
  by_cases hk : ak = bk
  · by_cases hc1 : x1 = y1
    · by_cases hc2 : x2 = y2
      · by_cases hc3 : x3 = y3
        · subst hk hc1 hc2 hc3
          have HD2 := Lib.hid (show sameE ⟨ak, ae, ac, ai, x1, x2, x3⟩ ⟨ak, bs, bc, bi, x1, x2, x3⟩ = (decide (ae = bs) && (decide (ac = bc) && decide (ai = bi))) by simp [sameE])
          have H1 := Lib.hid (equal_mark (HA.out.seen.ext (by decide) hx) (HB.out.seen.ext (by decide) hx))
          have c2 : ((w.alloc (.cells (entC ⟨ak, ae, ac, ai, x1, x2, x3⟩ (.slice A1 ae.length n1) (.slice A2 ac.length n2) (.slice A3 ai.length n3)) 37)).alloc (.cells (entC ⟨ak, bs, bc, bi, x1, x2, x3⟩ (.slice B1 bs.length m1) (.slice B2 bc.length m2) (.slice B3 bi.length m3)) 37)).cell? ⟨w.heap.size, 2, none⟩ = some (.slice A2 ac.length n2) := by simp [go_sem]
          have c3 : ((w.alloc (.cells (entC ⟨ak, ae, ac, ai, x1, x2, x3⟩ (.slice A1 ae.length n1) (.slice A2 ac.length n2) (.slice A3 ai.length n3)) 37)).alloc (.cells (entC ⟨ak, bs, bc, bi, x1, x2, x3⟩ (.slice B1 bs.length m1) (.slice B2 bc.length m2) (.slice B3 bi.length m3)) 37)).cell? ⟨w.heap.size, 3, none⟩ = some (.slice A3 ai.length n3) := by simp [go_sem]
          have d2 : ((w.alloc (.cells (entC ⟨ak, ae, ac, ai, x1, x2, x3⟩ (.slice A1 ae.length n1) (.slice A2 ac.length n2) (.slice A3 ai.length n3)) 37)).alloc (.cells (entC ⟨ak, bs, bc, bi, x1, x2, x3⟩ (.slice B1 bs.length m1) (.slice B2 bc.length m2) (.slice B3 bi.length m3)) 37)).cell? ⟨w.heap.size + 1, 2, none⟩ = some (.slice B2 bc.length m2) := by simp [go_sem]
          have d3 : ((w.alloc (.cells (entC ⟨ak, ae, ac, ai, x1, x2, x3⟩ (.slice A1 ae.length n1) (.slice A2 ac.length n2) (.slice A3 ai.length n3)) 37)).alloc (.cells (entC ⟨ak, bs, bc, bi, x1, x2, x3⟩ (.slice B1 bs.length m1) (.slice B2 bc.length m2) (.slice B3 bi.length m3)) 37)).cell? ⟨w.heap.size + 1, 3, none⟩ = some (.slice B3 bi.length m3) := by simp [go_sem]
          go_enter Tryz.func102, Tryz.ntmps102
          go_wp2_with fail
          refine H1.out.mono ?_
          rintro e w2 ⟨rfl, hx2⟩
          have e2 := hx2.cell c2
          have e3 := hx2.cell c3
          have f2 := hx2.cell d2
          have f3 := hx2.cell d3
          have hx02 := hx.trans hx2
          have H2 := Lib.hid (equal_count (HA.out.counts.ext (by decide) hx02) (HB.out.counts.ext (by decide) hx02))
          clear c2 c3 d2 d3 hx2
          by_cases h1 : ae = bs
          · have HD3 := Lib.hid (show sameE ⟨ak, ae, ac, ai, x1, x2, x3⟩ ⟨ak, bs, bc, bi, x1, x2, x3⟩ = (decide (ac = bc) && decide (ai = bi)) by rw [HD2.out]; simp [h1])
            rw [decide_eq_true h1]
            clear h1
            go_wp2_with fail
            refine H2.out.mono ?_
            rintro e w3 ⟨rfl, hx3⟩
            have g3 := hx3.cell e3
            have i3 := hx3.cell f3
            have hx03 := hx02.trans hx3
            have H3 := Lib.hid (equalItems_any (HA.out.items.ext (by decide) hx03) (HB.out.items.ext (by decide) hx03))
            clear e2 e3 f2 f3 hx3
            by_cases h2 : ac = bc
            · have HD4 := Lib.hid (show sameE ⟨ak, ae, ac, ai, x1, x2, x3⟩ ⟨ak, bs, bc, bi, x1, x2, x3⟩ = decide (ai = bi) by rw [HD3.out]; simp [h2])
              rw [decide_eq_true h2]
              clear h2
              go_wp2_with fail
              refine H3.out.mono ?_
              rintro e w4 ⟨rfl, hx4⟩
              go_wp2_with fail
              go_ret
              exact ⟨by rw [HD4.out]; rfl, hx03.trans hx4⟩
            · have HD4 := Lib.hid (show sameE ⟨ak, ae, ac, ai, x1, x2, x3⟩ ⟨ak, bs, bc, bi, x1, x2, x3⟩ = false by rw [HD3.out]; simp [h2])
              rw [decide_eq_false h2]
              clear h2
              go_wp2_with fail
              go_ret
              exact ⟨by rw [HD4.out]; rfl, hx03⟩
          · have HD3 := Lib.hid (show sameE ⟨ak, ae, ac, ai, x1, x2, x3⟩ ⟨ak, bs, bc, bi, x1, x2, x3⟩ = false by rw [HD2.out]; simp [h1])
            rw [decide_eq_false h1]
            clear h1
            go_wp2_with fail
            go_ret
            exact ⟨by rw [HD3.out]; rfl, hx02⟩
        · subst hk hc1 hc2
          have HD := Lib.hid (show sameE ⟨ak, ae, ac, ai, x1, x2, x3⟩ ⟨ak, bs, bc, bi, x1, x2, y3⟩ = false by simp [sameE, hc3])
          cases x3 <;> cases y3
          all_goals first | exact absurd rfl hc3 | skip
          all_goals
            clear hc3
            go_enter Tryz.func102, Tryz.ntmps102
            go_wp2_with fail
            go_ret
            exact ⟨by rw [HD.out]; rfl, hx⟩
      · subst hk hc1
        have HD := Lib.hid (show sameE ⟨ak, ae, ac, ai, x1, x2, x3⟩ ⟨ak, bs, bc, bi, x1, y2, y3⟩ = false by simp [sameE, hc2])
        have k1 : (x2 == y2) = false := by simpa using hc2
        clear hc2
        go_enter Tryz.func102, Tryz.ntmps102
        go_wp2_with fail
        go_ret
        exact ⟨by rw [HD.out]; rfl, hx⟩
    · subst hk
      have HD := Lib.hid (show sameE ⟨ak, ae, ac, ai, x1, x2, x3⟩ ⟨ak, bs, bc, bi, y1, y2, y3⟩ = false by simp [sameE, hc1])
      have k1 : ((x1 : Int) == (y1 : Int)) = false := by rw [beq_eq_false_iff_ne]; omega
      clear hc1
      go_enter Tryz.func102, Tryz.ntmps102
      go_wp2_with fail
      go_ret
      exact ⟨by rw [HD.out]; rfl, hx⟩
  · have HD := Lib.hid (show sameE ⟨ak, ae, ac, ai, x1, x2, x3⟩ ⟨bk, bs, bc, bi, y1, y2, y3⟩ = false by simp [sameE, hk])
    have k1 : (ak == bk) = false := by simpa using hk
    clear hk
    go_enter Tryz.func102, Tryz.ntmps102
    go_wp2_with fail
    go_ret
    exact ⟨by rw [HD.out]; rfl, hx⟩

def noneE : Entry := ⟨[], [], [], [], 0, [], false⟩
set_option maxRecDepth 100000 in
set_option maxHeartbeats 400000 in
theorem noneE_any {S : Nat → Prop} {a : Entry} {a1 a2 a3 : Value} {w : World} (ha : EntAt w S a a1 a2 a3) :
    Calls Tryz.prog 92 #[entV a a1 a2 a3] w fun e w' => e = .returned (.bool (sameE a noneE)) ∧ Ext w w' := by
  have hx := (Ext.refl w).alloc (.cells (entC a a1 a2 a3) 37)
  have hn : EntAt (w.alloc (.cells (entC a a1 a2 a3) 37)) (fun _ => False) noneE (.slice none 0 0) (.slice none 0 0) (.slice none 0 0) :=
    ⟨Sl.nil (T := markT) none 0 (by omega), Sl.nil (T := countT) none 0 (by omega), Sl.nil (T := itemT) none 0 (by omega)⟩
  have H1 := Lib.hid (sameE_any (ha.ext hx) hn)
  obtain ⟨A1, n1, rfl, -, -⟩ := ha.seen.form
  obtain ⟨A2, n2, rfl, -, -⟩ := ha.counts.form
  obtain ⟨A3, n3, rfl, -, -⟩ := ha.items.form
  clear ha hn
  go_enter Tryz.func92, Tryz.ntmps92
  go_wp2_with fail
  refine H1.out.mono ?_
  rintro e w2 ⟨rfl, hx2⟩
  go_wp2_with fail
  go_ret
  exact ⟨rfl, hx.trans hx2⟩
end Go.Proofs.YtdikcgmdmcfpfaaGreat
namespace Go.Proofs.YtdikcgmdmcfpfaaGreat
open Go.RowKit Go.Shelf

theorem entry_at {w wr : World} {S : Nat → Prop} {A : Option Addr} {n c : Nat} {l pre post : List Entry} {m : Entry} (h : Sl entryT w S (.slice A n c) l) (hb : Ext w wr) (hl : l = pre ++ m :: post) :
    ∃ b o v1 v2 v3, A = some ⟨b, o, none⟩ ∧ wr.cell? ⟨b, o + pre.length * 7, none⟩ = some (St m.key) ∧ wr.cell? ⟨b, o + pre.length * 7 + 1, none⟩ = some v1 ∧ wr.cell? ⟨b, o + pre.length * 7 + 2, none⟩ = some v2 ∧
      wr.cell? ⟨b, o + pre.length * 7 + 3, none⟩ = some v3 ∧ wr.cell? ⟨b, o + pre.length * 7 + 4, none⟩ = some (U m.cell.1) ∧ wr.cell? ⟨b, o + pre.length * 7 + 5, none⟩ = some (St m.cell.2.1) ∧ wr.cell? ⟨b, o + pre.length * 7 + 6, none⟩ = some (.bool m.cell.2.2) ∧ EntAt w S m v1 v2 v3 := by
  obtain ⟨b, o, vs, c', hv, hS, ⟨v1, v2, v3, rfl, h1, h2, h3⟩, hc⟩ := h.at_ hl
  injection hv with e1 e2 e3
  subst e1
  exact ⟨b, o, v1, v2, v3, rfl, hb.cell (hc 0 _ rfl), hb.cell (hc 1 _ rfl), hb.cell (hc 2 _ rfl), hb.cell (hc 3 _ rfl), hb.cell (hc 4 _ rfl), hb.cell (hc 5 _ rfl), hb.cell (hc 6 _ rfl), ⟨h1, h2, h3⟩⟩

/-- places, from the i-th entry on -/
def plF : Nat → List (Str × Int) → List Entry → List (Str × Int)
  | _, L, [] => L
  | i, L, e :: r => plF (i + 1) (if e.key ∈ L.map Prod.fst then L else putL L e.key (i : Int)) r
def lookL {κ ν : Type} [DecidableEq κ] (L : List (κ × ν)) (k : κ) : Option ν := L.lookup k
theorem lookL_cons {κ ν : Type} [DecidableEq κ] (p : κ × ν) (L : List (κ × ν)) (k : κ) : lookL (p :: L) k = if k = p.1 then some p.2 else lookL L k := by
  obtain ⟨a, b⟩ := p
  unfold lookL
  by_cases hx : k = a
  · subst hx
    simp
  · have : (k == a) = false := by simpa using hx
    simp [List.lookup_cons, this, hx]
theorem lookL_snoc {κ ν : Type} [DecidableEq κ] {L : List (κ × ν)} {k x : κ} {v : ν} (h : k ∉ L.map Prod.fst) : lookL (L ++ [(k, v)]) x = match lookL L x with | some u => some u | none => if x = k then some v else none := by
  induction L with
  | nil => simp only [List.nil_append, lookL_cons]; rfl
  | cons p l ih =>
    simp only [List.map_cons, List.mem_cons, not_or] at h
    simp only [List.cons_append, lookL_cons]
    by_cases hx : x = p.1
    · simp [hx]
    · simp only [if_neg hx]
      exact ih h.2
theorem lookL_mem {κ ν : Type} [DecidableEq κ] {L : List (κ × ν)} {k : κ} : decide (k ∈ L.map Prod.fst) = (lookL L k).isSome := by
  induction L with
  | nil => rfl
  | cons p l ih =>
    rw [lookL_cons]
    by_cases hx : k = p.1
    · simp [hx]
    · rw [if_neg hx, ← ih]
      simp [hx]
theorem plF_lookup : ∀ (l : List Entry) (i : Nat) (L : List (Str × Int)) (k : Str), lookL (plF i L l) k = match lookL L k with | some v => some v | none => (l.findIdx? (fun e => decide (e.key = k))).map fun j => ((i + j : Nat) : Int)
  | [], i, L, k => by
    simp only [plF, List.findIdx?_nil, Option.map_none]
    cases lookL L k <;> rfl
  | e :: r, i, L, k => by
    rw [plF, plF_lookup r]
    by_cases hm : e.key ∈ L.map Prod.fst
    · rw [if_pos hm]
      cases hL : lookL L k with
      | some v => rfl
      | none =>
        have hk : e.key ≠ k := by
          rintro rfl
          have := lookL_mem (L := L) (k := e.key)
          rw [hL] at this
          simp [hm] at this
        simp only [List.findIdx?_cons, decide_eq_false hk, Bool.false_eq_true, if_false, Option.map_map]
        congr 1
        funext j
        simp
        omega
    · rw [if_neg hm, putL, if_neg hm, lookL_snoc hm]
      cases hL : lookL L k with
      | some v => rfl
      | none =>
        by_cases hk : k = e.key
        · subst hk
          simp [List.findIdx?_cons]
        · simp only [if_neg hk, List.findIdx?_cons, decide_eq_false (Ne.symm hk), Bool.false_eq_true, if_false, Option.map_map]
          congr 1
          funext j
          simp
          omega

theorem run_makeHint (n : Int) (w : World) : (Instr.makeMap 112 (some (I n))).run Tryz.prog w = .ok (.map (some w.heap.size)) (w.alloc (.map #[] 0)) := by
  simp [Instr.makeMap, run_underlying Tryz.underlying112, asInt, asIntOf]

set_option maxRecDepth 100000 in
set_option maxHeartbeats 1000000 in
theorem places_any {S : Nat → Prop} {v : Value} {l : List Entry} {w : World} (hv : Sl entryT w S v l) :
    Calls Tryz.prog 52 #[v] w fun e w' => ∃ m, e = .returned (.map (some m)) ∧ w.heap.size ≤ m ∧ MapIs St I w' m (plF 0 [] l) ∧ Ext w w' := by
  have hv' := hv
  obtain ⟨A, c, rfl, hc1, hc2⟩ := hv.form
  have HAT := Lib.hid (fun (pre post : List Entry) (m : Entry) (wr : World) (h : Ext w wr) (hl : l = pre ++ m :: post) => entry_at hv' h hl)
  have hmm := run_makeHint
  clear hv hv'
  go_enter Tryz.func52, Tryz.ntmps52
  go_wp2_with fail
  go_loopw [13] (fun i wr => ∃ pre post L, l = pre ++ post ∧ i = I pre.length ∧ Hid (plF 0 [] l = plF pre.length L post) ∧ MapIs St I wr w.heap.size L ∧ Ext w wr) (fun i _ => l.length - (intOf i).toNat)
  case atStart => exact ⟨[], l, [], rfl, rfl, Lib.hid rfl, MapIs.new w, (Ext.refl w).alloc _⟩
  case round =>
    obtain ⟨pre, post, L, hl, rfl, hpl, hM, hx⟩ := hrel
    cases post with
    | cons m post =>
      obtain ⟨b, o, v1, v2, v3, rfl, e0, e1, e2, e3, e4, e5, e6, hEA⟩ := HAT.out pre post m wr hx hl
      obtain ⟨A1, n1, rfl, -, -⟩ := hEA.seen.form
      obtain ⟨A2, n2, rfl, -, -⟩ := hEA.counts.form
      obtain ⟨A3, n3, rfl, -, -⟩ := hEA.items.form
      have hlt : pre.length < l.length := by rw [hl]; simp
      have HL := Lib.hid hl
      have hx1 := (Ext.refl wr).alloc (.cells #[St m.key, .slice A1 m.seen.length n1, .slice A2 m.counts.length n2, .slice A3 m.items.length n3, U m.cell.1, St m.cell.2.1, .bool m.cell.2.2] 37)
      have hM1 := hM.ext hx1
      have hlk := (run_lookup_MapIs (P := Tryz.prog) (z := 0) Tryz.underlying112 keyOkS zeroI hM1 m.key).2
      have hb0 := hM.lt
      obtain ⟨z, hz⟩ : ∃ z, getL 0 L m.key = z := ⟨_, rfl⟩
      rw [hz] at hlk
      have HX := Lib.hid (hx.trans hx1)
      have HX0 := Lib.hid hx
      have HPL := Lib.hid (show plF 0 [] l = plF (pre.length + 1) (if m.key ∈ L.map Prod.fst then L else putL L m.key (pre.length : Int)) post from hpl.out)
      clear hl hEA hpl hM hx hx1 hz
      by_cases hmem : m.key ∈ L.map Prod.fst
      · simp only [hmem, decide_true] at hlk
        rw [if_pos hmem] at HPL
        have HM := Lib.hid hM1
        clear hmem hM1
        go_wp2_with fail
        go_roundw
        case rel => exact ⟨pre ++ [m], post, L, by rw [HL.out]; simp, by simp, by simpa using HPL, HM.out, HX.out⟩
        case measure => simp [intOf]; omega
      · simp only [hmem, decide_false] at hlk
        rw [if_neg hmem] at HPL
        obtain ⟨W2, hup, hM2, ht2⟩ := run_update_MapIs (P := Tryz.prog) Tryz.underlying112 keyOkS hM1 m.key (pre.length : Int)
        have HM := Lib.hid hM2
        have HX2 := Lib.hid (HX.out.turned ht2 (Nat.le_refl _))
        clear hmem hM1 hM2 ht2
        go_wp2_with fail
        go_roundw
        case rel => exact ⟨pre ++ [m], post, _, by rw [HL.out]; simp, by simp, by simpa using HPL, HM.out, HX2.out⟩
        case measure => simp [intOf]; omega
    | nil =>
      rw [List.append_nil] at hl
      have hln : l.length = pre.length := by rw [hl]
      have HM := Lib.hid hM
      have HX := Lib.hid hx
      have HPL := hpl
      clear hl hpl hM hx
      go_wp2_with fail
      go_ret
      exact ⟨_, rfl, Nat.le_refl _, by rw [HPL.out]; exact HM.out, HX.out⟩
end Go.Proofs.YtdikcgmdmcfpfaaGreat
namespace Go.Proofs.YtdikcgmdmcfpfaaGreat
open Go.RowKit Go.Shelf

/-- a row of items of the call's own, of which those of A have dots of the call's own (not in the row itself), those of B have them still in S -/
def HalfRow (W : World) (base : Nat) (S : Nat → Prop) (v : Value) (A B : List Item) : Prop :=
  ∃ va vb : List (List Value), va.length = A.length ∧ vb.length = B.length ∧ (∀ (i : Nat) x vs, A[i]? = some x → va[i]? = some vs → itemT.rd W (fun b => base ≤ b ∧ ¬ ownBlk v b) x vs) ∧ (∀ (i : Nat) x vs, B[i]? = some x → vb[i]? = some vs → itemT.rd W S x vs) ∧
    Own W base 96 2 v (A.length + B.length) (va.flatten ++ vb.flatten)

theorem HalfRow.start {W : World} {base : Nat} {S : Nat → Prop} {v : Value} {B : List Item} (h : OwnL itemT 96 W base S v B) : HalfRow W base S v [] B := by
  obtain ⟨vss, h1, h2, h3⟩ := h
  refine ⟨[], vss, rfl, h1, by simp, h2, ?_⟩
  simp only [List.length_nil, Nat.zero_add, List.flatten_nil, List.nil_append]
  exact h3
theorem HalfRow.done {W : World} {base : Nat} {S : Nat → Prop} {v : Value} {A : List Item} (h : HalfRow W base S v A []) : OwnL itemT 96 W base (fun b => base ≤ b) v A := by
  obtain ⟨va, vb, h1, h2, h3, h4, h5⟩ := h
  obtain rfl : vb = [] := List.eq_nil_of_length_eq_zero h2
  refine ⟨va, h1, fun i x vs hx hv => itemT.mono (h3 i x vs hx hv) (fun b _ h => h.1), ?_⟩
  simp only [List.length_nil, Nat.add_zero, List.flatten_nil, List.append_nil] at h5
  exact h5
theorem HalfRow.ext {W W' : World} {base : Nat} {S : Nat → Prop} {v : Value} {A B : List Item} (h : HalfRow W base S v A B) (he : Ext W W') : HalfRow W' base S v A B := by
  obtain ⟨va, vb, h1, h2, h3, h4, h5⟩ := h
  exact ⟨va, vb, h1, h2, fun i x vs hx hv => itemT.keep (h3 i x vs hx hv) (fun b _ hb => he.block b hb), fun i x vs hx hv => itemT.keep (h4 i x vs hx hv) (fun b _ hb => he.block b hb), h5.ext he⟩
/-- the next item's dots -/
theorem HalfRow.next {W : World} {base : Nat} {S : Nat → Prop} {v : Value} {A B : List Item} {it : Item} (h : HalfRow W base S v A (it :: B)) :
    ∃ g cap dv, v = .slice (some ⟨g, 0, none⟩) (A.length + (B.length + 1)) cap ∧ A.length + (B.length + 1) ≤ cap ∧ cap ≤ 9223372036854775807 ∧ base ≤ g ∧ W.cell? ⟨g, A.length * 2 + 1, none⟩ = some dv ∧ W.frozen? ⟨g, A.length * 2 + 1, none⟩ = false ∧ Sl markT W S dv it.2 := by
  obtain ⟨va, vb, h1, h2, h3, h4, h5⟩ := h
  cases vb with
  | nil => simp at h2
  | cons c vb =>
    obtain ⟨dv, rfl, hs⟩ := h4 0 it c rfl rfl
    have hf := itemsFlat h1 h3
    obtain ⟨g, cap, tail, rfl, hg, hrow, hc, hm, hl⟩ := h5.row (by simp; omega)
    have e1 : (va.flatten ++ ([St it.1, dv] :: vb).flatten)[A.length * 2 + 1]? = some dv := by rw [← hf, List.getElem?_append_right (by omega)]; simp
    exact ⟨g, cap, dv, rfl, hc, hm, hg, hrow.cell e1, hrow.frozen _, hs⟩
/-- its dots in a row of their own -/
theorem HalfRow.put {W : World} {base g cap b0 : Nat} {S : Nat → Prop} {A B : List Item} {it : Item} {dv' : Value} (hk : ∀ b, S b → b < base) (h : HalfRow W base S (.slice (some ⟨g, 0, none⟩) (A.length + (B.length + 1)) cap) A (it :: B))
    (hown : Own W b0 97 2 dv' it.2.length (it.2.flatMap markC)) (hb0 : base ≤ b0) (hg0 : g < b0) :
    HalfRow (W.setCell ⟨g, A.length * 2 + 1, none⟩ dv') base S (.slice (some ⟨g, 0, none⟩) (A.length + (B.length + 1)) cap) (A ++ [it]) B := by
  obtain ⟨va, vb, h1, h2, h3, h4, h5⟩ := h
  cases vb with
  | nil => simp at h2
  | cons c vb =>
    obtain ⟨dv, rfl, hs⟩ := h4 0 it c rfl rfl
    have hf := itemsFlat h1 h3
    obtain ⟨g', cap', tail, e, hbg, hrow, hc, hm, hl⟩ := h5.row (by simp; omega)
    cases e
    have hc0 : A.length + (B.length + 1) ≤ cap := hc
    have hog : ownBlk (.slice (some ⟨g, 0, none⟩) (A.length + (B.length + 1)) cap) g := ⟨g, _, _, rfl, by omega, rfl⟩
    have hset := hrow.set (j := A.length * 2 + 1) (by simp [hf]) dv'
    have e1 : (va.flatten ++ ([St it.1, dv] :: vb).flatten).set (A.length * 2 + 1) dv' = (va ++ [[St it.1, dv']]).flatten ++ vb.flatten := by
      rw [← hf, List.set_append_right _ _ (by omega)]; simp
    rw [e1] at hset
    have hfb : (vb.flatten).length = B.length * 2 := itemsFlat (W := W) (S := S) (by simpa using h2) (fun i x vs hx hv => h4 (i + 1) x vs hx hv)
    have hown' : Own (W.setCell ⟨g, A.length * 2 + 1, none⟩ dv') b0 97 2 dv' it.2.length (it.2.flatMap markC) :=
      hown.keep fun b hb hlt => Below.heap_setCell _ _ _ _ (fun e => by have := (hown.base_le hb).1; have e2 : b = g := e; omega)
    refine ⟨va ++ [[St it.1, dv']], vb, by simp [h1], by simpa using h2, fun i x vs hx hv => ?_, fun i x vs hx hv => ?_, ?_⟩
    · by_cases hil : i < A.length
      · rw [List.getElem?_append_left hil] at hx
        rw [List.getElem?_append_left (by omega)] at hv
        exact itemT.keep (h3 i x vs hx hv) fun b hb _ => Below.heap_setCell _ _ _ _ (fun e => hb.2 (e ▸ hog))
      · rw [List.getElem?_append_right (by omega)] at hx
        rw [List.getElem?_append_right (by omega)] at hv
        have hi0 : i - A.length = 0 := by
          have := (List.getElem?_eq_some_iff.1 hx).1
          simp at this
          exact this
        rw [hi0] at hx
        rw [h1, hi0] at hv
        simp at hx hv
        subst hx; subst hv
        refine ⟨dv', rfl, hown'.slOwn.mono (by decide) fun b hlt hb => ?_⟩
        have := (hown'.base_le hb).1
        exact ⟨by omega, fun ⟨g2, n2, c2, e, _, e2⟩ => by cases e; omega⟩
    · exact itemT.keep (h4 (i + 1) x vs hx hv) fun b hb _ => Below.heap_setCell _ _ _ _ (fun e => by have := hk b hb; have e2 : b = g := e; omega)
    · have hlen : ((va ++ [[St it.1, dv']]).flatten ++ vb.flatten).length = (A.length + (B.length + 1)) * 2 := by simp [hf, hfb]; omega
      have := hset.own (k := 2) (n := A.length + (B.length + 1)) hbg hc hm (by
        simp only [List.length_append] at hl hlen ⊢
        simp [hf, hfb] at hl ⊢
        omega) (List.take_of_length_le (by rw [hlen]; exact Nat.le_refl _)) hlen
      rw [show (A ++ [it]).length + B.length = A.length + (B.length + 1) by simp; omega]
      exact this

/-- an entry's slices in memory of the call's own -/
structure EntNew (w : World) (base : Nat) (e : Entry) (v1 v2 v3 : Value) : Prop where
  seen : Own w base 25 2 v1 e.seen.length (e.seen.flatMap markC)
  counts : Own w base 93 3 v2 e.counts.length (e.counts.flatMap countC)
  items : OwnL itemT 96 w base (fun b => base ≤ b) v3 e.items
theorem EntNew.ext {w w' : World} {base : Nat} {e : Entry} {v1 v2 v3 : Value} (h : EntNew w base e v1 v2 v3) (he : Ext w w') : EntNew w' base e v1 v2 v3 := ⟨h.seen.ext he, h.counts.ext he, h.items.ext he⟩
theorem EntNew.lower {w : World} {base base' : Nat} {e : Entry} {v1 v2 v3 : Value} (h : EntNew w base e v1 v2 v3) (hb : base' ≤ base) : EntNew w base' e v1 v2 v3 :=
  ⟨h.seen.lower hb, h.counts.lower hb, (h.items.lower hb).mono fun b _ h => Nat.le_trans hb h⟩
theorem EntNew.at {w : World} {base : Nat} {e : Entry} {v1 v2 v3 : Value} (h : EntNew w base e v1 v2 v3) : EntAt w (fun b => base ≤ b) e v1 v2 v3 :=
  ⟨own_slMark h.seen, (OwnL.flat_iff (S := fun b => base ≤ b).2 h.counts).sl (by decide) (fun _ _ h => h) (fun _ h _ => h), h.items.sl (by decide) (fun _ _ h => h) (fun _ h _ => h)⟩
end Go.Proofs.YtdikcgmdmcfpfaaGreat
