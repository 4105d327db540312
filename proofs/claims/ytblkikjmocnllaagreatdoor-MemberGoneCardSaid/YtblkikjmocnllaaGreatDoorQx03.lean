/- gossamerlaw20.MemberGone: the walk. Printed by src/Gone1.py. -/
import Derived.Test.YtblkikjmocnllaaGreatDoorQx01
import Derived.Test.YtblkikjmocnllaaGreatDoorQx02
import Derived.Test.YtblkikjmocnllaaGreatDoorQv43
set_option linter.unusedVariables false
set_option linter.unusedSimpArgs false
set_option linter.unusedSectionVars false
namespace Go.Proofs.YtblkikjmocnllaaGreatDoor
open Go.RowKit Go.Shelf

theorem low_join {l : List Mbr} (h40 : l.length ≤ 40) (hlow : ∀ x ∈ l, LowM x) : JoinOk l where
  len := by omega
  path x hx := by have := (hlow x hx).path; omega
  keeper x hx := by have := (hlow x hx).keeper; omega
  words x hx z hz := by have := (hlow x hx).words z hz; omega
  gone x hx := by have := (hlow x hx).gone; omega
  wlen x hx := by have := (hlow x hx).wlen; omega
theorem known_may {l : List Mbr} {p : Str} (hm : may20 l = true) (h : knownM l p = 4) : mayP p = true := by
  unfold knownM at h
  rw [at_find] at h
  cases hf : findP l p with
  | some x =>
    have := (ok_parts ((may_facts hm).ok x (findP_mem hf))).1
    rw [findP_path hf] at this
    exact this
  | none =>
    rw [hf] at h
    cases hp : mayP p with
    | true => rfl
    | false =>
      exfalso
      have h1 : forgottenM l p = false := by unfold forgottenM; rw [hp]; rfl
      have h2 : parP p = [] := by
        unfold mayP at hp
        unfold parP
        rw [if_pos (by have : ¬ 0 < deepP p := of_decide_eq_false hp; omega)]
      have h3 : chainP p = [] := by rw [chainP_rest]; unfold restC; rw [if_pos h2]
      simp only [h1, h3, voidChain] at h
      simp at h
theorem may_kids {l : List Mbr} (hm : may20 l = true) {x : Mbr} (hx : x ∈ l) : 0 ≤ x.kids := ((ok_parts ((may_facts hm).ok x hx)).2.2.2).2.1.1
structure GoneJ (j : List Mbr) (path : Str) : Prop where
  small : SmallL j
  plen : ∀ x ∈ j, x.path.length < 3000000000
  kids : ∀ x ∈ j, (-9223372036854775808 : Int) ≤ x.kids
  may : ∀ x ∈ j, mayP x.path = true
  apart : ∀ x ∈ j, x.path ≠ path ∧ path ∉ chainP x.path ∧ ∀ w ∈ x.words, w.of ≠ path
  known : knownM j path = 4
  adm : ∀ x p, admitM j (parP path) = (x, p, 0) → p ≠ path ∧ x.length = j.length + 1
theorem gone_j {a b : List Mbr} {path : Str} (ha : may20 a = true) (hb : may20 b = true) (la : ∀ x ∈ a, LowM x) (lb : ∀ x ∈ b, LowM x) (ja : JoinOk a) (jb : JoinOk b) (hf : forgottenM a path = true) : GoneJ (joinL a b) path where
  small := bare_small (join_small ja jb)
  plen x hx := by
    obtain ⟨y, hy, e, -⟩ := join_in ha hb hf hx
    rw [e]
    rcases mergeL_mem hy with h | h | ⟨u, hu, v, hv, -, rfl⟩
    · have := (la y h).path; omega
    · have := (lb y h).path; omega
    · have := (la u hu).path
      show u.path.length < _
      omega
  kids x hx := by
    obtain ⟨y, hy, -, e, -⟩ := join_in ha hb hf hx
    rw [e]
    rcases mergeL_mem hy with h | h | ⟨u, hu, v, hv, -, rfl⟩
    · have := may_kids ha h; omega
    · have := may_kids hb h; omega
    · have := may_kids ha hu
      show _ ≤ max u.kids v.kids
      omega
  may x hx := by
    obtain ⟨y, hy, e, -⟩ := join_in ha hb hf hx
    rw [e]
    exact (merge_may ha hb hy).1
  apart x hx := gone_apart ha hb hf hx
  known := gone_known ha hb hf
  adm x p h := gone_admit ha hb hf h

set_option maxRecDepth 100000 in
set_option maxHeartbeats 8000000 in
theorem gone_walk {S S' : Nat → Prop} {va vb : Value} {a b : List Mbr} {path : Str} {w : World} (hva : Sl mbrT w S va a) (hga : HugeOk a) (hvb : Sl mbrT w S' vb b) (hgb : HugeOk b) (hp : path.length ≤ 1125899906842624) (ht : Pow w) :
    Calls Tryz.prog 7 #[va, vb, St path] w fun e w' => e = .returned (.bool true) ∧ Ext w w' := by
  have HAL := Lib.hid (fun W (he : Ext w W) => alive20_any W (ht.below he))
  have HT := Lib.hid (fun W (he : Ext w W) => ht.below he)
  have HLA := Lib.hid (large_any hva hga)
  have HLB := Lib.hid (fun W (he : Ext w W) => large_any (hvb.ext (by decide) he) hgb)
  have HVA := Lib.hid hva
  have HVB := Lib.hid hvb
  have HGA := Lib.hid hga
  have HGB := Lib.hid hgb
  obtain ⟨A, ca, rfl, -, -⟩ := hva.form
  obtain ⟨B, cb, rfl, -, -⟩ := hvb.form
  clear hva hvb hga hgb ht
  go_enter Tryz.func7, Tryz.ntmps7
  go_wp2_with fail
  refine HLA.out.mono ?_
  rintro e w1 ⟨hb, hx1⟩
  rcases hb with rfl | ⟨rfl, a40, alow⟩
  · clear HLA
    go_wp2_with fail
    refine (HAL.out _ hx1).mono ?_
    rintro e wz ⟨rfl, hz⟩
    go_wp2_with fail
    go_ret
    exact ⟨rfl, hx1.trans hz⟩
  have HX1 := Lib.hid hx1
  have HAL1 := Lib.hid alow
  clear alow hx1 HLA
  go_wp2_with fail
  refine (HLB.out _ HX1.out).mono ?_
  rintro e w2 ⟨hb, hx2⟩
  have HX2 := Lib.hid (HX1.out.trans hx2)
  rcases hb with rfl | ⟨rfl, b40, blow⟩
  · clear HLB
    go_wp2_with fail
    refine (HAL.out _ HX2.out).mono ?_
    rintro e wz ⟨rfl, hz⟩
    go_wp2_with fail
    go_ret
    exact ⟨rfl, HX2.out.trans hz⟩
  have HBL1 := Lib.hid blow
  clear blow hx2 HLB
  by_cases hpl : path.length ≤ 256
  case neg =>
    have e1 : (path.length : Int) > 256 := by omega
    go_wp2_with fail
    refine (HAL.out _ HX2.out).mono ?_
    rintro e wz ⟨rfl, hz⟩
    go_wp2_with fail
    go_ret
    exact ⟨rfl, HX2.out.trans hz⟩
  have e1 : ¬ (path.length : Int) > 256 := by omega
  have HMA := Lib.hid (mmay_any (HVA.out.ext (by decide) HX2.out) (low_tidy a40 HAL1.out HGA.out))
  go_wp2_with fail
  refine HMA.out.mono ?_
  rintro e w3 ⟨rfl, hx3⟩
  have HX3 := Lib.hid (HX2.out.trans hx3)
  clear hx3 HMA
  cases hma : may20 a
  case' false =>
    clear hma
    go_wp2_with fail
    refine (HAL.out _ HX3.out).mono ?_
    rintro e wz ⟨rfl, hz⟩
    go_wp2_with fail
    go_ret
    exact ⟨rfl, HX3.out.trans hz⟩
  case' true =>
  have HMAA := Lib.hid hma
  clear hma
  have HMB := Lib.hid (mmay_any (HVB.out.ext (by decide) HX3.out) (low_tidy b40 HBL1.out HGB.out))
  go_wp2_with fail
  refine HMB.out.mono ?_
  rintro e w4 ⟨rfl, hx4⟩
  have HX4 := Lib.hid (HX3.out.trans hx4)
  clear hx4 HMB
  cases hmb : may20 b
  case' false =>
    clear hmb
    go_wp2_with fail
    refine (HAL.out _ HX4.out).mono ?_
    rintro e wz ⟨rfl, hz⟩
    go_wp2_with fail
    go_ret
    exact ⟨rfl, HX4.out.trans hz⟩
  case' true =>
  have HMBB := Lib.hid hmb
  clear hmb
  have HKN := Lib.hid (known_any (HVA.out.ext (by decide) HX4.out) path (by omega))
  obtain ⟨kn, hkn⟩ : ∃ x, knownM a path = x := ⟨_, rfl⟩
  rw [hkn] at HKN
  go_wp2_with fail
  refine HKN.out.mono ?_
  rintro e w5 ⟨rfl, hx5⟩
  have HX5 := Lib.hid (HX4.out.trans hx5)
  clear hx5 HKN
  by_cases hk4 : kn = 4
  case neg =>
    have e2 : ((kn : Int) != 4) = true := by rw [bne_iff_ne]; omega
    clear hkn
    go_wp2_with fail
    refine (HAL.out _ HX5.out).mono ?_
    rintro e wz ⟨rfl, hz⟩
    go_wp2_with fail
    go_ret
    exact ⟨rfl, HX5.out.trans hz⟩
  have e2 : ((kn : Int) != 4) = false := by rw [hk4]; rfl
  have HMP := Lib.hid (known_may HMAA.out (hkn.trans hk4))
  have HHD := Lib.hid (had_any (HVA.out.ext (by decide) HX5.out) (low_tidy a40 HAL1.out HGA.out).small path)
  clear hkn hk4
  go_wp2_with fail
  refine HHD.out.mono ?_
  rintro e w6 ⟨rfl, hx6⟩
  have HX6 := Lib.hid (HX5.out.trans hx6)
  clear hx6 HHD
  cases hfn : findP a path
  case' some y =>
    simp only [Option.isSome_some]
    clear hfn
    go_wp2_with fail
    refine (HAL.out _ HX6.out).mono ?_
    rintro e wz ⟨rfl, hz⟩
    go_wp2_with fail
    go_ret
    exact ⟨rfl, HX6.out.trans hz⟩
  case' none =>
  simp only [Option.isSome_none]
  clear hfn
  have HFO := Lib.hid (refForgot_any (HVA.out.ext (by decide) HX6.out) path HMP.out (by omega))
  go_wp2_with fail
  refine HFO.out.mono ?_
  rintro e w7 ⟨rfl, hx7⟩
  have HX7 := Lib.hid (HX6.out.trans hx7)
  clear hx7 HFO
  cases hfg : forgottenM a path
  case' false =>
    clear hfg
    go_wp2_with fail
    refine (HAL.out _ HX7.out).mono ?_
    rintro e wz ⟨rfl, hz⟩
    go_wp2_with fail
    go_ret
    exact ⟨rfl, HX7.out.trans hz⟩
  case' true =>
  have ja := low_join a40 HAL1.out
  have jb := low_join b40 HBL1.out
  have HGJ := Lib.hid (gone_j HMAA.out HMBB.out HAL1.out HBL1.out ja jb hfg)
  have HJN := Lib.hid (join_any (HVA.out.ext (by decide) HX7.out) (HVB.out.ext (by decide) HX7.out) ja jb (by have := (may_facts HMAA.out).pos; omega))
  generalize joinL a b = j at *
  clear hfg ja jb
  go_wp2_with fail
  refine HJN.out.mono ?_
  rintro e w8 ⟨vj, rfl, hj, hx8⟩
  have HX8 := Lib.hid (HX7.out.trans hx8)
  obtain ⟨J, cj, rfl, -, -⟩ := hj.form
  have HVJ := Lib.hid hj
  have HAT := Lib.hid (fun (pre post : List Mbr) (x : Mbr) W (he : Ext w8 W) (hl : j = pre ++ x :: post) => mbr_at (wr := W) hj (fun b _ hb => he.block b hb) hl)
  clear hj hx8 HJN
  have hjl := HGJ.out.small.len
  go_wp2_with fail
  go_loopw [8] (fun i wr => ∃ pre post, j = pre ++ post ∧ i = I pre.length ∧ Ext w8 wr) (fun i _ => j.length - (intOf i).toNat)
  case atStart => exact ⟨[], j, rfl, rfl, Ext.refl _⟩
  case round =>
    obtain ⟨pre, post, hl, rfl, hx⟩ := hrel
    have HX := Lib.hid hx
    cases post with
    | nil =>
      rw [List.append_nil] at hl
      have hln : pre.length = j.length := by rw [hl]
      clear hl hx
      rw [hln]
      have HPA := Lib.hid (fun W => refParent_any (p := path) HMP.out (by omega) W)
      have HADM := Lib.hid (fun W (he : Ext w8 W) => admit_any (HVJ.out.ext (by decide) he) HGJ.out.small HGJ.out.plen HGJ.out.kids (parP path) (HT.out W (HX8.out.trans he)))
      have HKJ := Lib.hid (fun W (he : Ext w8 W) => known_any (HVJ.out.ext (by decide) he) path (by omega))
      rw [HGJ.out.known] at HKJ
      go_wp2_with fail
      refine (HPA.out _).mono ?_
      rintro e w9 ⟨rfl, hx9⟩
      have HX9 := Lib.hid (HX.out.trans hx9)
      clear hx9
      go_wp2_with fail
      refine (HADM.out _ HX9.out).mono ?_
      rintro e w10 ⟨vx, rfl, hs10, hx10⟩
      obtain ⟨X, cx, rfl, -, -⟩ := hs10.form
      have HXA := Lib.hid (HX9.out.trans hx10)
      rcases had : admitM j (parP path) with ⟨m, ch, ee⟩
      have HAD := Lib.hid (show ee = 0 → ch ≠ path ∧ m.length = j.length + 1 from fun h => HGJ.out.adm m ch (by rw [had, h]))
      clear had hs10 hx10 HADM
      go_wp2_with fail
      refine (HKJ.out _ HXA.out).mono ?_
      rintro e w11 ⟨rfl, hx11⟩
      have HXB := Lib.hid (HXA.out.trans hx11)
      clear hx11 HKJ
      by_cases he : ee = 0
      · obtain ⟨h1, h2⟩ := HAD.out he
        subst he
        have g1 : (ch != path) = true := by simpa using h1
        have g1' : (ch == path) = false := by simpa using h1
        have g2 : ((m.length : Int) == (j.length : Int) + 1) = true := by rw [h2]; simp
        have g3 : (m.length : Int) = (j.length : Int) + 1 := by omega
        clear h1 h2
        go_wp2_with fail
        refine (HAL.out _ (HX8.out.trans HXB.out)).mono ?_
        rintro e wz ⟨rfl, hz⟩
        go_wp2_with fail
        go_ret
        exact ⟨rfl, (HX8.out.trans HXB.out).trans hz⟩
      · have g1 : ((ee : Int) != 0) = true := by rw [bne_iff_ne]; omega
        go_wp2_with fail
        refine (HAL.out _ (HX8.out.trans HXB.out)).mono ?_
        rintro e wz ⟨rfl, hz⟩
        go_wp2_with fail
        go_ret
        exact ⟨rfl, (HX8.out.trans HXB.out).trans hz⟩
    | cons x post =>
      have hlt : pre.length < j.length := by rw [hl]; simp
      have hxm : x ∈ j := by rw [hl]; simp
      obtain ⟨b0, o0, A1, c1, A2, c2, he, -, h1, h2, hc⟩ := HAT.out pre post x _ hx hl
      cases he
      obtain ⟨k0, k1, k2, k3, k4, k5, k6, k7, k8, k9, k10, k11, k12, k13, k14⟩ := mbr_c15 hc
      obtain ⟨n1, n2, n3⟩ := HGJ.out.apart x hxm
      have g1 : (x.path == path) = false := by simpa using n1
      have HUN := Lib.hid (fun W => refUnder_any (HGJ.out.may x hxm) (by have := HGJ.out.plen x hxm; omega) path W)
      rw [decide_eq_false n2] at HUN
      have hwl := (HGJ.out.small.each x hxm).2
      have HN3 := Lib.hid n3
      have HLL := Lib.hid hl
      have HW2 := Lib.hid h2
      clear hl hx h1 h2 hc n1 n2 n3 hxm k1 k2 k3 k4 k5 k6 k7 k8 k9 k10 k11 k12 k13
      go_wp2_with fail
      refine (HUN.out _).mono ?_
      rintro e w9 ⟨rfl, hx9⟩
      have HX9 := Lib.hid (HX.out.trans hx9)
      replace k14 := hx9.cell k14
      have HW2 := Lib.hid (HW2.out.ext (by decide) hx9)
      clear hx9 k0 HUN
      go_wp2_with fail
      go_loopw [9] (fun i wr => ∃ p1 p2, x.words = p1 ++ p2 ∧ i = I p1.length ∧ w9 = wr) (fun i _ => x.words.length - (intOf i).toNat)
      case atStart => exact ⟨[], x.words, rfl, rfl, rfl⟩
      case round =>
        obtain ⟨p1, p2, hl2, rfl, rfl⟩ := hrel
        cases p2 with
        | nil =>
          rw [List.append_nil] at hl2
          have hln : p1.length = x.words.length := by rw [hl2]
          clear hl2
          rw [hln]
          go_wp2_with fail
          go_roundw
          case rel => exact ⟨pre ++ [x], post, by rw [HLL.out]; simp, by simp, HX9.out⟩
          case measure => simp [intOf]; omega
        | cons y p2 =>
          have hlt2 : p1.length < x.words.length := by rw [hl2]; simp
          obtain ⟨b1, o1, he, y0, -⟩ := word_at HW2.out (Ext.refl _) hl2
          cases he
          have g2 : (y.of == path) = false := by have := HN3.out y (by rw [hl2]; simp); simpa using this
          have HL2 := Lib.hid hl2
          clear hl2
          go_wp2_with fail
          go_roundw
          case rel => exact ⟨p1 ++ [y], p2, by rw [HL2.out]; simp, by simp, by first | rfl | trivial⟩
          case measure => simp [intOf]; omega
end Go.Proofs.YtblkikjmocnllaaGreatDoor
