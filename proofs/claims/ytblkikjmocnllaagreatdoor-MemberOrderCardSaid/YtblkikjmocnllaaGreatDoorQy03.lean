/- gossamerlaw20.MemberOrder: the walk. Printed by gen_morder1.py. -/
import Derived.Test.YtblkikjmocnllaaGreatDoorQy01
import Derived.Test.YtblkikjmocnllaaGreatDoorQy02
import Derived.Test.YtblkikjmocnllaaGreatDoorQv43
import Derived.Deep.CutRange
set_option linter.unusedVariables false
set_option linter.unusedSimpArgs false
set_option linter.unusedSectionVars false
namespace Go.Proofs.YtblkikjmocnllaaGreatDoor
open Go.RowKit Go.Shelf

set_option maxRecDepth 100000 in
set_option maxHeartbeats 8000000 in
theorem order_walk {S S' S'' : Nat → Prop} {va vb vc : Value} {a b c : List Mbr} {path : Str} {w : World} (hva : Sl mbrT w S va a) (hga : HugeOk a) (hvb : Sl mbrT w S' vb b) (hgb : HugeOk b) (hvc : Sl mbrT w S'' vc c) (hgc : HugeOk c) (hp : path.length ≤ 1125899906842624) (ht : Pow w) :
    Calls Tryz.prog 4 #[va, vb, vc, St path] w fun e w' => e = .returned (.bool true) ∧ Ext w w' := by
  have HAL := Lib.hid (fun W (he : Ext w W) => alive20_any W (ht.below he))
  have HLA := Lib.hid (large_any hva hga)
  have HLB := Lib.hid (fun W (he : Ext w W) => large_any (hvb.ext (by decide) he) hgb)
  have HLC := Lib.hid (fun W (he : Ext w W) => large_any (hvc.ext (by decide) he) hgc)
  have HVA := Lib.hid hva
  have HVB := Lib.hid hvb
  have HVC := Lib.hid hvc
  have HGA := Lib.hid hga
  have HGB := Lib.hid hgb
  have HGC := Lib.hid hgc
  obtain ⟨A, ca, rfl, -, -⟩ := hva.form
  obtain ⟨B, cb, rfl, -, -⟩ := hvb.form
  obtain ⟨C, cc, rfl, -, -⟩ := hvc.form
  clear hva hvb hvc hga hgb hgc ht
  go_enter Tryz.func4, Tryz.ntmps4
  go_wp2_with fail
  refine HLA.out.mono ?_
  rintro e w1 ⟨hb, hx1⟩
  have HX1 := Lib.hid (hx1)
  rcases hb with rfl | ⟨rfl, a40, alow⟩
  · clear HLA hx1
    go_wp2_with fail
    refine (HAL.out _ HX1.out).mono ?_
    rintro e wz ⟨rfl, hz⟩
    go_wp2_with fail
    go_ret
    exact ⟨rfl, HX1.out.trans hz⟩
  have HAL1 := Lib.hid alow
  clear alow hx1 HLA
  go_wp2_with fail
  refine (HLB.out _ HX1.out).mono ?_
  rintro e w2 ⟨hb, hx2⟩
  have HX2 := Lib.hid (HX1.out.trans hx2)
  rcases hb with rfl | ⟨rfl, b40, blow⟩
  · clear HLB hx2
    go_wp2_with fail
    refine (HAL.out _ HX2.out).mono ?_
    rintro e wz ⟨rfl, hz⟩
    go_wp2_with fail
    go_ret
    exact ⟨rfl, HX2.out.trans hz⟩
  have HBL1 := Lib.hid blow
  clear blow hx2 HLB
  go_wp2_with fail
  refine (HLC.out _ HX2.out).mono ?_
  rintro e w3 ⟨hb, hx3⟩
  have HX3 := Lib.hid (HX2.out.trans hx3)
  rcases hb with rfl | ⟨rfl, c40, clow⟩
  · clear HLC hx3
    go_wp2_with fail
    refine (HAL.out _ HX3.out).mono ?_
    rintro e wz ⟨rfl, hz⟩
    go_wp2_with fail
    go_ret
    exact ⟨rfl, HX3.out.trans hz⟩
  have HCL1 := Lib.hid clow
  clear clow hx3 HLC
  by_cases hpl : path.length ≤ 256
  case neg =>
    have e1 : (path.length : Int) > 256 := by omega
    go_wp2_with fail
    refine (HAL.out _ HX3.out).mono ?_
    rintro e wz ⟨rfl, hz⟩
    go_wp2_with fail
    go_ret
    exact ⟨rfl, HX3.out.trans hz⟩
  have e1 : ¬ (path.length : Int) > 256 := by omega
  have HMA := Lib.hid (mmay_any (HVA.out.ext (by decide) HX3.out) (low_tidy a40 HAL1.out HGA.out))
  go_wp2_with fail
  refine HMA.out.mono ?_
  rintro e w4 ⟨rfl, hx4⟩
  have HX4 := Lib.hid (HX3.out.trans hx4)
  clear hx4 HMA
  cases hma : may20 a
  case' false =>
    clear hma
    go_wp2_with fail
    refine (HAL.out _ HX4.out).mono ?_
    rintro e wz ⟨rfl, hz⟩
    go_wp2_with fail
    go_ret
    exact ⟨rfl, HX4.out.trans hz⟩
  case' true =>
  have HMAA := Lib.hid hma
  clear hma
  have HMB := Lib.hid (mmay_any (HVB.out.ext (by decide) HX4.out) (low_tidy b40 HBL1.out HGB.out))
  go_wp2_with fail
  refine HMB.out.mono ?_
  rintro e w5 ⟨rfl, hx5⟩
  have HX5 := Lib.hid (HX4.out.trans hx5)
  clear hx5 HMB
  cases hmb : may20 b
  case' false =>
    clear hmb
    go_wp2_with fail
    refine (HAL.out _ HX5.out).mono ?_
    rintro e wz ⟨rfl, hz⟩
    go_wp2_with fail
    go_ret
    exact ⟨rfl, HX5.out.trans hz⟩
  case' true =>
  have HMBB := Lib.hid hmb
  clear hmb
  have HMC := Lib.hid (mmay_any (HVC.out.ext (by decide) HX5.out) (low_tidy c40 HCL1.out HGC.out))
  go_wp2_with fail
  refine HMC.out.mono ?_
  rintro e w6 ⟨rfl, hx6⟩
  have HX6 := Lib.hid (HX5.out.trans hx6)
  clear hx6 HMC
  cases hmc : may20 c
  case' false =>
    clear hmc
    go_wp2_with fail
    refine (HAL.out _ HX6.out).mono ?_
    rintro e wz ⟨rfl, hz⟩
    go_wp2_with fail
    go_ret
    exact ⟨rfl, HX6.out.trans hz⟩
  case' true =>
  have HMCC := Lib.hid hmc
  clear hmc
  have LA := Lib.hid (low_j a40 HAL1.out HGA.out)
  have LB := Lib.hid (low_j b40 HBL1.out HGB.out)
  have LC := Lib.hid (low_j c40 HCL1.out HGC.out)
  have LAB := Lib.hid (LA.out.join LB.out)
  have LBC := Lib.hid (LB.out.join LC.out)
  have HPA := Lib.hid (may_facts HMAA.out).pos
  have HPB := Lib.hid (may_facts HMBB.out).pos
  have HPC := Lib.hid (may_facts HMCC.out).pos
  have HPJ := Lib.hid (join_pos HMAA.out HMBB.out)
  have HPK := Lib.hid (join_pos HMBB.out HMCC.out)
  have HEC := Lib.hid (join_comm a b)
  have HEG := Lib.hid (join_group HMAA.out HMBB.out HMCC.out)
  have HEB := Lib.hid (join_back HMAA.out HMBB.out)
  have HES := Lib.hid (join_self HMAA.out HMBB.out)
  have HKA := Lib.hid (known_rises HMAA.out HMBB.out)
  have HKB := Lib.hid (known_rises HMBB.out HMAA.out)
  rw [← HEC.out] at HKB
  have HEA := Lib.hid (fun m (hm : m ∈ a) => join_each HMAA.out HMBB.out hm)
  have HMJ := Lib.hid (join_may HMAA.out HMBB.out)
  have HJ7 := Lib.hid (join_any (HVA.out.ext (by decide) HX6.out) (HVB.out.ext (by decide) HX6.out) (LA.out.ok (by decide)) (LB.out.ok (by decide)) (by have := HPA.out; omega))
  go_wp2_with fail
  refine HJ7.out.mono ?_
  rintro e w7 ⟨v7, rfl, hj7, hx7⟩
  have HX7 := Lib.hid (HX6.out.trans hx7)
  obtain ⟨J7, c7, rfl, -, -⟩ := hj7.form
  have HV7 := Lib.hid hj7
  have HD7 := Lib.hid hx7
  clear hj7 HJ7 hx7
  have HJ8 := Lib.hid (join_any (HVB.out.ext (by decide) HX7.out) (HVA.out.ext (by decide) HX7.out) (LB.out.ok (by decide)) (LA.out.ok (by decide)) (by have := HPA.out; omega))
  rw [← HEC.out] at HJ8
  go_wp2_with fail
  refine HJ8.out.mono ?_
  rintro e w8 ⟨v8, rfl, hj8, hx8⟩
  have HX8 := Lib.hid (HX7.out.trans hx8)
  obtain ⟨J8, c8, rfl, -, -⟩ := hj8.form
  have HV8 := Lib.hid hj8
  have HD8 := Lib.hid hx8
  clear hj8 HJ8 hx8
  have HS9 := Lib.hid (refSame_any (HV7.out.ext (by decide) (HD8.out)) (HV8.out))
  go_wp2_with fail
  refine HS9.out.mono ?_
  rintro e w9 ⟨rfl, hx9⟩
  have HX9 := Lib.hid (HX8.out.trans hx9)
  have HD9 := Lib.hid hx9
  clear HS9 hx9
  have HJ10 := Lib.hid (join_any (HV7.out.ext (by decide) ((HD8.out).trans HD9.out)) (HVC.out.ext (by decide) HX9.out) (LAB.out.ok (by decide)) (LC.out.ok (by decide)) (by have := HPC.out; omega))
  go_wp2_with fail
  refine HJ10.out.mono ?_
  rintro e w10 ⟨v10, rfl, hj10, hx10⟩
  have HX10 := Lib.hid (HX9.out.trans hx10)
  obtain ⟨J10, c10, rfl, -, -⟩ := hj10.form
  have HV10 := Lib.hid hj10
  have HD10 := Lib.hid hx10
  clear hj10 HJ10 hx10
  have HJ11 := Lib.hid (join_any (HVB.out.ext (by decide) HX10.out) (HVC.out.ext (by decide) HX10.out) (LB.out.ok (by decide)) (LC.out.ok (by decide)) (by have := HPC.out; omega))
  go_wp2_with fail
  refine HJ11.out.mono ?_
  rintro e w11 ⟨v11, rfl, hj11, hx11⟩
  have HX11 := Lib.hid (HX10.out.trans hx11)
  obtain ⟨J11, c11, rfl, -, -⟩ := hj11.form
  have HV11 := Lib.hid hj11
  have HD11 := Lib.hid hx11
  clear hj11 HJ11 hx11
  have HJ12 := Lib.hid (join_any (HVA.out.ext (by decide) HX11.out) (HV11.out) (LA.out.ok (by decide)) (LBC.out.ok (by decide)) (by have := HPA.out; omega))
  rw [← HEG.out] at HJ12
  go_wp2_with fail
  refine HJ12.out.mono ?_
  rintro e w12 ⟨v12, rfl, hj12, hx12⟩
  have HX12 := Lib.hid (HX11.out.trans hx12)
  obtain ⟨J12, c12, rfl, -, -⟩ := hj12.form
  have HV12 := Lib.hid hj12
  have HD12 := Lib.hid hx12
  clear hj12 HJ12 hx12
  have HS13 := Lib.hid (refSame_any (HV10.out.ext (by decide) ((HD11.out).trans HD12.out)) (HV12.out))
  go_wp2_with fail
  refine HS13.out.mono ?_
  rintro e w13 ⟨rfl, hx13⟩
  have HX13 := Lib.hid (HX12.out.trans hx13)
  have HD13 := Lib.hid hx13
  clear HS13 hx13
  have HJ14 := Lib.hid (join_any (HV7.out.ext (by decide) ((((((HD8.out).trans HD9.out).trans HD10.out).trans HD11.out).trans HD12.out).trans HD13.out)) (HVA.out.ext (by decide) HX13.out) (LAB.out.ok (by decide)) (LA.out.ok (by decide)) (by have := HPA.out; omega))
  rw [HEB.out] at HJ14
  go_wp2_with fail
  refine HJ14.out.mono ?_
  rintro e w14 ⟨v14, rfl, hj14, hx14⟩
  have HX14 := Lib.hid (HX13.out.trans hx14)
  obtain ⟨J14, c14, rfl, -, -⟩ := hj14.form
  have HV14 := Lib.hid hj14
  have HD14 := Lib.hid hx14
  clear hj14 HJ14 hx14
  have HS15 := Lib.hid (refSame_any (HV14.out) (HV7.out.ext (by decide) (((((((HD8.out).trans HD9.out).trans HD10.out).trans HD11.out).trans HD12.out).trans HD13.out).trans HD14.out)))
  go_wp2_with fail
  refine HS15.out.mono ?_
  rintro e w15 ⟨rfl, hx15⟩
  have HX15 := Lib.hid (HX14.out.trans hx15)
  have HD15 := Lib.hid hx15
  clear HS15 hx15
  have HJ16 := Lib.hid (join_any (HV7.out.ext (by decide) ((((((((HD8.out).trans HD9.out).trans HD10.out).trans HD11.out).trans HD12.out).trans HD13.out).trans HD14.out).trans HD15.out)) (HV7.out.ext (by decide) ((((((((HD8.out).trans HD9.out).trans HD10.out).trans HD11.out).trans HD12.out).trans HD13.out).trans HD14.out).trans HD15.out)) (LAB.out.ok (by decide)) (LAB.out.ok (by decide)) (by have := HPJ.out; omega))
  rw [HES.out] at HJ16
  go_wp2_with fail
  refine HJ16.out.mono ?_
  rintro e w16 ⟨v16, rfl, hj16, hx16⟩
  have HX16 := Lib.hid (HX15.out.trans hx16)
  obtain ⟨J16, c16, rfl, -, -⟩ := hj16.form
  have HV16 := Lib.hid hj16
  have HD16 := Lib.hid hx16
  clear hj16 HJ16 hx16
  have HS17 := Lib.hid (refSame_any (HV16.out) (HV7.out.ext (by decide) (((((((((HD8.out).trans HD9.out).trans HD10.out).trans HD11.out).trans HD12.out).trans HD13.out).trans HD14.out).trans HD15.out).trans HD16.out)))
  go_wp2_with fail
  refine HS17.out.mono ?_
  rintro e w17 ⟨rfl, hx17⟩
  have HX17 := Lib.hid (HX16.out.trans hx17)
  have HD17 := Lib.hid hx17
  clear HS17 hx17
  go_upto_region 6 with fail
  have HLJ := Lib.hid (show (joinL a b).length ≤ 80 from LAB.out.len)
  have HTJ := Lib.hid (LAB.out.tidy (by decide))
  have HSJ := Lib.hid HTJ.out.small
  have HPJK := Lib.hid LAB.out.keeper
  generalize joinL a b = j at *
  have HKA := Lib.hid (HKA.out path)
  have HKB := Lib.hid (HKB.out path)
  obtain ⟨ka, hka⟩ : ∃ x, knownM a path = x := ⟨_, rfl⟩
  obtain ⟨kb, hkb⟩ : ∃ x, knownM b path = x := ⟨_, rfl⟩
  obtain ⟨kj, hkj⟩ : ∃ x, knownM j path = x := ⟨_, rfl⟩
  rw [hka, hkj] at HKA
  rw [hkb, hkj] at HKB
  have n1 : ¬ (kj : Int) < ka := by have := HKA.out; omega
  have n2 : ¬ (kj : Int) < kb := by have := HKB.out; omega
  have HKK := Lib.hid (And.intro hka (And.intro hkb hkj))
  clear hka hkb hkj
  have HDF := Lib.hid ((((((((((HD8.out).trans HD9.out).trans HD10.out).trans HD11.out).trans HD12.out).trans HD13.out).trans HD14.out).trans HD15.out).trans HD16.out).trans HD17.out)
  have HXW := Lib.hid (fun W (he : Ext w17 W) => And.intro (HX17.out.trans he) (HDF.out.trans he))
  go_cut [106] from 81 to 106 (fun s106 wx => s106 = .bool false ∧ Ext w wx ∧ Ext w7 wx)
  case first =>
    have HK18 := Lib.hid (known_any (HV7.out.ext (by decide) ((((((((((HD8.out).trans HD9.out).trans HD10.out).trans HD11.out).trans HD12.out).trans HD13.out).trans HD14.out).trans HD15.out).trans HD16.out).trans HD17.out)) path (by omega))
    rw [HKK.out.2.2] at HK18
    go_wp2_with fail
    refine HK18.out.mono ?_
    rintro e w18 ⟨rfl, hx18⟩
    have HX18 := Lib.hid (HX17.out.trans hx18)
    have HD18 := Lib.hid hx18
    clear HK18 hx18
    have HK19 := Lib.hid (known_any (HVA.out.ext (by decide) HX18.out) path (by omega))
    rw [HKK.out.1] at HK19
    go_wp2_with fail
    refine HK19.out.mono ?_
    rintro e w19 ⟨rfl, hx19⟩
    have HX19 := Lib.hid (HX18.out.trans hx19)
    have HD19 := Lib.hid hx19
    clear HK19 hx19
    have HK20 := Lib.hid (known_any (HV7.out.ext (by decide) ((((((((((((HD8.out).trans HD9.out).trans HD10.out).trans HD11.out).trans HD12.out).trans HD13.out).trans HD14.out).trans HD15.out).trans HD16.out).trans HD17.out).trans HD18.out).trans HD19.out)) path (by omega))
    rw [HKK.out.2.2] at HK20
    go_wp2_with fail
    refine HK20.out.mono ?_
    rintro e w20 ⟨rfl, hx20⟩
    have HX20 := Lib.hid (HX19.out.trans hx20)
    have HD20 := Lib.hid hx20
    clear HK20 hx20
    have HK21 := Lib.hid (known_any (HVB.out.ext (by decide) HX20.out) path (by omega))
    rw [HKK.out.2.1] at HK21
    go_wp2_with fail
    refine HK21.out.mono ?_
    rintro e w21 ⟨rfl, hx21⟩
    have HX21 := Lib.hid (HX20.out.trans hx21)
    have HD21 := Lib.hid hx21
    clear HK21 hx21
    have HMY := Lib.hid (mmay_any (HV7.out.ext (by decide) ((((((((((((((HD8.out).trans HD9.out).trans HD10.out).trans HD11.out).trans HD12.out).trans HD13.out).trans HD14.out).trans HD15.out).trans HD16.out).trans HD17.out).trans HD18.out).trans HD19.out).trans HD20.out).trans HD21.out)) HTJ.out)
    by_cases h24 : j.length ≤ 24
    case' pos =>
      rw [HMJ.out h24] at HMY
      have g1 : (j.length : Int) ≤ 24 := by omega
      clear h24
      go_wp2_with fail
      refine HMY.out.mono ?_
      rintro e w22 ⟨rfl, hx22⟩
      go_wp2_with fail
      go_meet
      exact ⟨rfl, HX21.out.trans hx22, ((((((((((((((HD8.out).trans HD9.out).trans HD10.out).trans HD11.out).trans HD12.out).trans HD13.out).trans HD14.out).trans HD15.out).trans HD16.out).trans HD17.out).trans HD18.out).trans HD19.out).trans HD20.out).trans HD21.out).trans hx22⟩
    case' neg =>
      have g1 : ¬ (j.length : Int) ≤ 24 := by omega
      have g2 : decide ((j.length : Int) ≤ 24) = false := decide_eq_false g1
      clear HMY
      go_wp2_with fail
      go_meet
      exact ⟨rfl, HX21.out, (((((((((((((HD8.out).trans HD9.out).trans HD10.out).trans HD11.out).trans HD12.out).trans HD13.out).trans HD14.out).trans HD15.out).trans HD16.out).trans HD17.out).trans HD18.out).trans HD19.out).trans HD20.out).trans HD21.out⟩
  case rest =>
  obtain ⟨rfl, hXF, hDF⟩ := hcut
  have HXF := Lib.hid hXF
  have HDF := Lib.hid hDF
  clear hXF hDF HXW
  generalize wc = wf at *
  go_wp2_with fail
  clear n1 n2 HMJ HTJ HKA HKB
  go_loopw [10] (fun i wr => ∃ pre post, a = pre ++ post ∧ i = I pre.length ∧ Ext wf wr) (fun i _ => a.length - (intOf i).toNat)
  case atStart => exact ⟨[], a, rfl, rfl, Ext.refl _⟩
  case round =>
    obtain ⟨pre, post, hl, rfl, hx⟩ := hrel
    have HX := Lib.hid (HXF.out.trans hx)
    have HD := Lib.hid (HDF.out.trans hx)
    have HXR := Lib.hid hx
    cases post with
    | nil =>
      rw [List.append_nil] at hl
      have hln : pre.length = a.length := by rw [hl]
      have d1 : ¬ (pre.length : Int) < a.length := by omega
      clear hl hx hln
      go_wp2_with fail
      refine (HAL.out _ HX.out).mono ?_
      rintro e wz ⟨rfl, hz⟩
      go_wp2_with fail
      go_ret
      exact ⟨rfl, HX.out.trans hz⟩
    | cons x post =>
      have hlt : pre.length < a.length := by rw [hl]; simp
      have hlt2 : (pre.length : Int) < a.length := by omega
      have hxm : x ∈ a := by rw [hl]; simp
      have HLL := Lib.hid hl
      obtain ⟨b0, o0, A1, c1, A2, c2, he, -, -, -, hc⟩ := mbr_at (wr := wr) HVA.out (fun b _ hb => HX.out.block b hb) hl
      cases he
      have HEX := Lib.hid (HEA.out x hxm)
      have HPL := Lib.hid (LA.out.path x hxm)
      have HPK := Lib.hid (LA.out.keeper x hxm)
      obtain ⟨k0, -⟩ := mbr_c15 hc
      have HC := Lib.hid hc
      have HOF := Lib.hid (of_any (HV7.out.ext (by decide) HD.out) HSJ.out x.path)
      clear hl hx hc hxm
      go_wp2_with fail
      refine HOF.out.mono ?_
      rintro e w3 ⟨u1, u2, rfl, ho, hx3⟩
      obtain ⟨M1, m1, rfl, -, -⟩ := ho.gone.form
      obtain ⟨M2, m2, rfl, -, -⟩ := ho.words.form
      have HX3 := Lib.hid hx3
      replace k0 := hx3.cell k0
      clear hx3 HOF ho
      rcases hf : findP j x.path with _ | y
      · simp only [Option.getD_none, Option.isSome_none]
        have hkn : knownM j x.path = 4 := by
          rcases HEX.out with h | ⟨y, h, -⟩
          · exact h.2
          · rw [hf] at h; cases h
        have HKN := Lib.hid (fun W (he : Ext w7 W) => known_any (HV7.out.ext (by decide) he) x.path (by have := HPL.out; omega))
        rw [hkn] at HKN
        generalize mbr0 = m at *
        generalize m.gone.length = g1
        generalize m.words.length = g2
        have hxa := (Ext.refl w3).alloc (.cells #[St m.path, U8 m.status, I m.kids, I m.cut, U m.last, .slice M1 g1 m1, St m.plan.keeper, U m.plan.round, St m.plan.live, St m.plan.by_, U m.plan.cap, St m.plan.owner, U m.plan.base, .bool m.plan.done, .slice M2 g2 m2] 48)
        replace k0 := hxa.cell k0
        have HXA := Lib.hid (HX3.out.trans hxa)
        have HDA := Lib.hid (HD.out.trans HXA.out)
        unfold mbrV
        clear hf hkn HEX hxa
        go_wp2_with fail
        generalize w3.alloc (.cells #[St m.path, U8 m.status, I m.kids, I m.cut, U m.last, .slice M1 g1 m1, St m.plan.keeper, U m.plan.round, St m.plan.live, St m.plan.by_, U m.plan.cap, St m.plan.owner, U m.plan.base, .bool m.plan.done, .slice M2 g2 m2] 48) = W1 at *
        generalize w3.heap.size = gm at *
        refine wp_region_cut (by kernel_rfl) ?_
        change wpAny _ _ _ _ _ _ _ W1.drew
        replace k0 := (Ext.refl W1).drew.cell k0
        refine wpAny_still (k := 0) (n := 9) (by kernel_rfl) (by decide) ?_
        simp only [List.drop_zero, List.drop_succ_cons, List.take_succ_cons, List.take_zero, List.take_nil, Nat.reduceSub, List.drop_nil]
        generalize hA : Act.mk _ _ = A0; repeat (refine wpStill_step (fun K2 hK2 => ?_); subst hA; go_simp; (try rw [if_neg (by decide)]); generalize hA : Act.mk _ _ = A0; refine hK2 A0 ?_; clear hK2 K2)
        refine wpStill_nil ?_
        subst hA
        refine wpAny_next (k := 9) 10 (by decide) (by decide) (by kernel_rfl) ?_
        simp only [List.drop_zero, List.drop_succ_cons, List.take_succ_cons, List.take_zero, List.take_nil, Nat.reduceSub, List.drop_nil]
        go_wp2_with fail
        refine (HKN.out _ HDA.out.drew).mono ?_
        rintro e w6 ⟨rfl, hb1⟩
        have hX := (Ext.refl W1).drew.trans hb1
        clear k0
        go_wp2_with fail
        refine wpAny_still (k := 10) (n := 54) (by kernel_rfl) (by decide) ?_
        simp only [List.drop_zero, List.drop_succ_cons, List.take_succ_cons, List.take_zero, List.take_nil, Nat.reduceSub, List.drop_nil]
        generalize hA : Act.mk _ _ = A0; repeat (refine wpStill_step (fun K2 hK2 => ?_); subst hA; go_simp; (try rw [if_neg (by decide)]); generalize hA : Act.mk _ _ = A0; refine hK2 A0 ?_; clear hK2 K2)
        refine wpStill_nil ?_
        subst hA
        refine wpAny_last (k := 54) (by kernel_rfl) ?_
        simp only [List.drop_zero, List.drop_succ_cons, List.take_succ_cons, List.take_zero, List.take_nil, Nat.reduceSub, List.drop_nil]
        go_wp2_with fail
        go_roundw
        case rel => exact ⟨pre ++ [x], post, by rw [HLL.out]; simp, by simp, (HXR.out.trans HXA.out).trans hX⟩
        case measure => simp [intOf]; omega
      · simp only [Option.getD_some, Option.isSome_some]
        have hyy : x.kids ≤ y.kids ∧ x.last ≤ y.last ∧ x.status ≤ y.status ∧ laterM y.plan x.plan = y.plan := by
          rcases HEX.out with h | ⟨z, h, h2⟩
          · rw [hf] at h; cases h.1
          · rw [hf] at h; injection h with h; subst h; exact h2
        obtain ⟨y1, y2, y3, y4⟩ := hyy
        have HLT := Lib.hid (fun W => later_any y.plan x.plan (by have := HPJK.out y (findP_mem hf); omega) (by have := HPK.out; omega) W)
        rw [y4] at HLT
        have q1 : ¬ y.kids < x.kids := by omega
        have q2 : ¬ (y.last : Int) < x.last := by omega
        have q3 : ¬ (y.status : Int) < x.status := by omega
        have q4 : decide (y.kids < x.kids) = false := decide_eq_false q1
        have q5 : decide ((y.last : Int) < x.last) = false := decide_eq_false q2
        have q6 : decide ((y.status : Int) < x.status) = false := decide_eq_false q3
        have q2n : ¬ y.last < x.last := by omega
        have q3n : ¬ y.status < x.status := by omega
        have q5n : decide (y.last < x.last) = false := decide_eq_false q2n
        have q6n : decide (y.status < x.status) = false := decide_eq_false q3n
        have HQ : ∀ w, (binOp .neq 45 (.agg #[St y.plan.keeper, U y.plan.round, St y.plan.live, St y.plan.by_, U y.plan.cap, St y.plan.owner, U y.plan.base, .bool y.plan.done]) (.agg #[St y.plan.keeper, U y.plan.round, St y.plan.live, St y.plan.by_, U y.plan.cap, St y.plan.owner, U y.plan.base, .bool y.plan.done])).run Tryz.prog w = .ok (.bool false) w := rneq_plan y.plan
        generalize y.gone.length = g1
        generalize y.words.length = g2
        have hxa := (Ext.refl w3).alloc (.cells #[St y.path, U8 y.status, I y.kids, I y.cut, U y.last, .slice M1 g1 m1, St y.plan.keeper, U y.plan.round, St y.plan.live, St y.plan.by_, U y.plan.cap, St y.plan.owner, U y.plan.base, .bool y.plan.done, .slice M2 g2 m2] 48)
        have HXA := Lib.hid (HX3.out.trans hxa)
        have HDA := Lib.hid (HD.out.trans HXA.out)
        have HRY := Lib.hid (rowNew w3 48 [St y.path, U8 y.status, I y.kids, I y.cut, U y.last, .slice M1 g1 m1, St y.plan.keeper, U y.plan.round, St y.plan.live, St y.plan.by_, U y.plan.cap, St y.plan.owner, U y.plan.base, .bool y.plan.done, .slice M2 g2 m2])
        unfold mbrV
        clear hf HEX hxa y1 y2 y3 y4
        go_wp2_with fail
        generalize w3.alloc (.cells #[St y.path, U8 y.status, I y.kids, I y.cut, U y.last, .slice M1 g1 m1, St y.plan.keeper, U y.plan.round, St y.plan.live, St y.plan.by_, U y.plan.cap, St y.plan.owner, U y.plan.base, .bool y.plan.done, .slice M2 g2 m2] 48) = W1 at *
        generalize w3.heap.size = gm at *
        have HW1 := Lib.hid (fun W (he : Ext W1 W) => show (W.cell? ⟨gm, 1, none⟩ = some (U8 y.status) ∧ W.cell? ⟨gm, 2, none⟩ = some (I y.kids) ∧ W.cell? ⟨gm, 4, none⟩ = some (U y.last) ∧ W.cell? ⟨gm, 6, none⟩ = some (St y.plan.keeper) ∧ W.cell? ⟨gm, 7, none⟩ = some (U y.plan.round) ∧ W.cell? ⟨gm, 8, none⟩ = some (St y.plan.live) ∧ W.cell? ⟨gm, 9, none⟩ = some (St y.plan.by_) ∧ W.cell? ⟨gm, 10, none⟩ = some (U y.plan.cap) ∧ W.cell? ⟨gm, 11, none⟩ = some (St y.plan.owner) ∧ W.cell? ⟨gm, 12, none⟩ = some (U y.plan.base) ∧ W.cell? ⟨gm, 13, none⟩ = some (.bool y.plan.done) ∧ W.cell? ⟨b0, o0 + pre.length * 15 + 1, none⟩ = some (U8 x.status) ∧ W.cell? ⟨b0, o0 + pre.length * 15 + 2, none⟩ = some (I x.kids) ∧ W.cell? ⟨b0, o0 + pre.length * 15 + 4, none⟩ = some (U x.last) ∧ W.cell? ⟨b0, o0 + pre.length * 15 + 6, none⟩ = some (St x.plan.keeper) ∧ W.cell? ⟨b0, o0 + pre.length * 15 + 7, none⟩ = some (U x.plan.round) ∧ W.cell? ⟨b0, o0 + pre.length * 15 + 8, none⟩ = some (St x.plan.live) ∧ W.cell? ⟨b0, o0 + pre.length * 15 + 9, none⟩ = some (St x.plan.by_) ∧ W.cell? ⟨b0, o0 + pre.length * 15 + 10, none⟩ = some (U x.plan.cap) ∧ W.cell? ⟨b0, o0 + pre.length * 15 + 11, none⟩ = some (St x.plan.owner) ∧ W.cell? ⟨b0, o0 + pre.length * 15 + 12, none⟩ = some (U x.plan.base) ∧ W.cell? ⟨b0, o0 + pre.length * 15 + 13, none⟩ = some (.bool x.plan.done) ∧ Ext W1 W) from by
          obtain ⟨j0, j1, j2, j3, j4, j5, j6, j7, j8, j9, j10, j11, j12, j13, j14⟩ := RowIs.c15 (HRY.out.ext he)
          obtain ⟨i0, i1, i2, i3, i4, i5, i6, i7, i8, i9, i10, i11, i12, i13, i14⟩ := mbr_c15 (fun j u hj => (HXA.out.trans he).cell (HC.out j u hj))
          exact ⟨j1, j2, j4, j6, j7, j8, j9, j10, j11, j12, j13, i1, i2, i4, i6, i7, i8, i9, i10, i11, i12, i13, he⟩)
        clear HRY HC k0
        unfold planV at HLT
        refine wp_region_cut (by kernel_rfl) ?_
        change wpAny _ _ _ _ _ _ _ W1.drew
        obtain ⟨j1, j2, j4, j6, j7, j8, j9, j10, j11, j12, j13, i1, i2, i4, i6, i7, i8, i9, i10, i11, i12, i13, -⟩ := HW1.out _ (Ext.refl _).drew
        refine wpAny_still (k := 0) (n := 43) (by kernel_rfl) (by decide) ?_
        simp only [List.drop_zero, List.drop_succ_cons, List.take_succ_cons, List.take_zero, List.take_nil, Nat.reduceSub, List.drop_nil]
        generalize hA : Act.mk _ _ = A0; repeat (refine wpStill_step (fun K2 hK2 => ?_); subst hA; go_simp; (try rw [if_neg (by decide)]); generalize hA : Act.mk _ _ = A0; refine hK2 A0 ?_; clear hK2 K2)
        refine wpStill_nil ?_
        subst hA
        refine wpAny_next (k := 43) 44 (by decide) (by decide) (by kernel_rfl) ?_
        simp only [List.drop_zero, List.drop_succ_cons, List.take_succ_cons, List.take_zero, List.take_nil, Nat.reduceSub, List.drop_nil]
        go_wp2_with fail
        clear j1 j2 j4 j6 j7 j8 j9 j10 j11 j12 j13 i1 i2 i4 i6 i7 i8 i9 i10 i11 i12 i13
        refine wpAny_factsK (k := 44) (n := 54) [fun v _ => v = .pointer (some ⟨gm, 6, none⟩), fun v _ => v = .agg #[St y.plan.keeper, U y.plan.round, St y.plan.live, St y.plan.by_, U y.plan.cap, St y.plan.owner, U y.plan.base, .bool y.plan.done], fun v _ => v = .slice (some ⟨b0, o0, none⟩) a.length ca, fun v _ => v = I pre.length, fun v _ => v = .pointer (some ⟨b0, o0 + pre.length * 15, none⟩), fun v _ => v = .pointer (some ⟨b0, o0 + pre.length * 15 + 6, none⟩), fun v _ => v = .agg #[St x.plan.keeper, U x.plan.round, St x.plan.live, St x.plan.by_, U x.plan.cap, St x.plan.owner, U x.plan.base, .bool x.plan.done], fun v _ => v = .agg #[St y.plan.keeper, U y.plan.round, St y.plan.live, St y.plan.by_, U y.plan.cap, St y.plan.owner, U y.plan.base, .bool y.plan.done], fun v _ => v = .pointer (some ⟨gm, 6, none⟩), fun v _ => v = .agg #[St y.plan.keeper, U y.plan.round, St y.plan.live, St y.plan.by_, U y.plan.cap, St y.plan.owner, U y.plan.base, .bool y.plan.done]] [167, 168, 169, 170, 171, 172, 173, 174, 175, 176] (by kernel_rfl) rfl (by kernel_rfl) ?hR ?hstep ?hend
        case hR =>
          simp only [List.mem_cons, List.not_mem_nil, or_false, forall_eq_or_imp, forall_eq]
          exact ⟨fun v _ _ h _ => h, fun v _ _ h _ => h, fun v _ _ h _ => h, fun v _ _ h _ => h, fun v _ _ h _ => h, fun v _ _ h _ => h, fun v _ _ h _ => h, fun v _ _ h _ => h, fun v _ _ h _ => h, fun v _ _ h _ => h⟩
        case hstep =>
          simp only [List.length_cons, List.length_nil, Nat.reduceAdd, List.drop_zero, List.drop_succ_cons, List.take_succ_cons, List.take_zero, List.take_nil, Nat.reduceSub, List.drop_nil, stepsK, and_true]
          refine ⟨?_, ?_, ?_, ?_, ?_, ?_, ?_, ?_, ?_, ?_⟩
          · intro z V he f
            have h0 : z 166 = .bool false := by first | exact f.1 | exact f.2.1 | exact f.2.2.1 | exact f.2.2.2.1
            have h1 : z 11 = .pointer (some ⟨gm, 0, none⟩) := by first | exact f.1 | exact f.2.1 | exact f.2.2.1 | exact f.2.2.2.1
            clear f
            go_wp
            exact stepQ_ok rfl (Ext.refl _)
          · intro z V he f
            have h0 : z 166 = .bool false := by first | exact f.1 | exact f.2.1 | exact f.2.2.1 | exact f.2.2.2.1
            have h1 : z 167 = .pointer (some ⟨gm, 6, none⟩) := by first | exact f.1 | exact f.2.1 | exact f.2.2.1 | exact f.2.2.2.1
            obtain ⟨j1, j2, j4, j6, j7, j8, j9, j10, j11, j12, j13, i1, i2, i4, i6, i7, i8, i9, i10, i11, i12, i13, -⟩ := HW1.out _ ((Ext.refl W1).drew.trans he)
            clear f
            go_wp
            exact stepQ_ok rfl (Ext.refl _)
          · intro z V he f
            have h0 : z 166 = .bool false := by first | exact f.1 | exact f.2.1 | exact f.2.2.1 | exact f.2.2.2.1
            have h1 : z 0 = .slice (some ⟨b0, o0, none⟩) a.length ca := by first | exact f.1 | exact f.2.1 | exact f.2.2.1 | exact f.2.2.2.1
            clear f
            go_wp
            exact stepQ_ok rfl (Ext.refl _)
          · intro z V he f
            have h0 : z 166 = .bool false := by first | exact f.1 | exact f.2.1 | exact f.2.2.1 | exact f.2.2.2.1
            have h1 : z 10 = I pre.length := by first | exact f.1 | exact f.2.1 | exact f.2.2.1 | exact f.2.2.2.1
            clear f
            go_wp
            exact stepQ_ok rfl (Ext.refl _)
          · intro z V he f
            have h0 : z 166 = .bool false := by first | exact f.1 | exact f.2.1 | exact f.2.2.1 | exact f.2.2.2.1
            have h1 : z 169 = .slice (some ⟨b0, o0, none⟩) a.length ca := by first | exact f.1 | exact f.2.1 | exact f.2.2.1 | exact f.2.2.2.1
            have h2 : z 170 = I pre.length := by first | exact f.1 | exact f.2.1 | exact f.2.2.1 | exact f.2.2.2.1
            clear f
            go_wp
            exact stepQ_ok rfl (Ext.refl _)
          · intro z V he f
            have h0 : z 166 = .bool false := by first | exact f.1 | exact f.2.1 | exact f.2.2.1 | exact f.2.2.2.1
            have h1 : z 171 = .pointer (some ⟨b0, o0 + pre.length * 15, none⟩) := by first | exact f.1 | exact f.2.1 | exact f.2.2.1 | exact f.2.2.2.1
            clear f
            go_wp
            exact stepQ_ok rfl (Ext.refl _)
          · intro z V he f
            have h0 : z 166 = .bool false := by first | exact f.1 | exact f.2.1 | exact f.2.2.1 | exact f.2.2.2.1
            have h1 : z 172 = .pointer (some ⟨b0, o0 + pre.length * 15 + 6, none⟩) := by first | exact f.1 | exact f.2.1 | exact f.2.2.1 | exact f.2.2.2.1
            obtain ⟨j1, j2, j4, j6, j7, j8, j9, j10, j11, j12, j13, i1, i2, i4, i6, i7, i8, i9, i10, i11, i12, i13, -⟩ := HW1.out _ ((Ext.refl W1).drew.trans he)
            clear f
            go_wp
            exact stepQ_ok rfl (Ext.refl _)
          · intro z V he f
            have h0 : z 166 = .bool false := by first | exact f.1 | exact f.2.1 | exact f.2.2.1 | exact f.2.2.2.1
            have h1 : z 168 = .agg #[St y.plan.keeper, U y.plan.round, St y.plan.live, St y.plan.by_, U y.plan.cap, St y.plan.owner, U y.plan.base, .bool y.plan.done] := by first | exact f.1 | exact f.2.1 | exact f.2.2.1 | exact f.2.2.2.1
            have h2 : z 173 = .agg #[St x.plan.keeper, U x.plan.round, St x.plan.live, St x.plan.by_, U x.plan.cap, St x.plan.owner, U x.plan.base, .bool x.plan.done] := by first | exact f.1 | exact f.2.1 | exact f.2.2.1 | exact f.2.2.2.1
            clear f
            go_wp
            refine (HLT.out _).mono ?_
            rintro e w6 ⟨rfl, hb1⟩
            dsimp only
            go_wp
            refine stepQ_ok (v := .agg #[St y.plan.keeper, U y.plan.round, St y.plan.live, St y.plan.by_, U y.plan.cap, St y.plan.owner, U y.plan.base, .bool y.plan.done]) ?_ hb1
            rfl
          · intro z V he f
            have h0 : z 166 = .bool false := by first | exact f.1 | exact f.2.1 | exact f.2.2.1 | exact f.2.2.2.1
            have h1 : z 11 = .pointer (some ⟨gm, 0, none⟩) := by first | exact f.1 | exact f.2.1 | exact f.2.2.1 | exact f.2.2.2.1
            clear f
            go_wp
            exact stepQ_ok rfl (Ext.refl _)
          · intro z V he f
            have h0 : z 166 = .bool false := by first | exact f.1 | exact f.2.1 | exact f.2.2.1 | exact f.2.2.2.1
            have h1 : z 175 = .pointer (some ⟨gm, 6, none⟩) := by first | exact f.1 | exact f.2.1 | exact f.2.2.1 | exact f.2.2.2.1
            obtain ⟨j1, j2, j4, j6, j7, j8, j9, j10, j11, j12, j13, i1, i2, i4, i6, i7, i8, i9, i10, i11, i12, i13, -⟩ := HW1.out _ ((Ext.refl W1).drew.trans he)
            clear f
            go_wp
            exact stepQ_ok rfl (Ext.refl _)
        case hend =>
          intro z V he f
          have h167 : z 167 = .pointer (some ⟨gm, 6, none⟩) := f.1
          have h168 : z 168 = .agg #[St y.plan.keeper, U y.plan.round, St y.plan.live, St y.plan.by_, U y.plan.cap, St y.plan.owner, U y.plan.base, .bool y.plan.done] := f.2.1
          have h169 : z 169 = .slice (some ⟨b0, o0, none⟩) a.length ca := f.2.2.1
          have h170 : z 170 = I pre.length := f.2.2.2.1
          have h171 : z 171 = .pointer (some ⟨b0, o0 + pre.length * 15, none⟩) := f.2.2.2.2.1
          have h172 : z 172 = .pointer (some ⟨b0, o0 + pre.length * 15 + 6, none⟩) := f.2.2.2.2.2.1
          have h173 : z 173 = .agg #[St x.plan.keeper, U x.plan.round, St x.plan.live, St x.plan.by_, U x.plan.cap, St x.plan.owner, U x.plan.base, .bool x.plan.done] := f.2.2.2.2.2.2.1
          have h174 : z 174 = .agg #[St y.plan.keeper, U y.plan.round, St y.plan.live, St y.plan.by_, U y.plan.cap, St y.plan.owner, U y.plan.base, .bool y.plan.done] := f.2.2.2.2.2.2.2.1
          have h175 : z 175 = .pointer (some ⟨gm, 6, none⟩) := f.2.2.2.2.2.2.2.2.1
          have h176 : z 176 = .agg #[St y.plan.keeper, U y.plan.round, St y.plan.live, St y.plan.by_, U y.plan.cap, St y.plan.owner, U y.plan.base, .bool y.plan.done] := f.2.2.2.2.2.2.2.2.2.1
          simp only [List.length_cons, List.length_nil, Nat.reduceAdd, List.drop_zero, List.drop_succ_cons, putAll, Act.put, List.setIfInBounds_toArray, List.set_cons_succ, List.set_cons_zero, h167, h168, h169, h170, h171, h172, h173, h174, h175, h176]
          have hX := (Ext.refl W1).drew.trans he
          clear f h167 h168 h169 h170 h171 h172 h173 h174 h175 h176
          go_wp2_with fail
          go_roundw
          case rel => exact ⟨pre ++ [x], post, by rw [HLL.out]; simp, by simp, (HXR.out.trans HXA.out).trans hX⟩
          case measure => simp [intOf]; omega
end Go.Proofs.YtblkikjmocnllaaGreatDoor
