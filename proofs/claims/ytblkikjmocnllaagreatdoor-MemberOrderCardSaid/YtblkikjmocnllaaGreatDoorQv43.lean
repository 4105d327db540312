/- Contracts of the functions that the statement goes through, and plain laws of them. -/
import Derived.Test.YtblkikjmocnllaaGreatDoorQv21
import Derived.Test.YtblkikjmocnllaaGreatDoorQv20
import Derived.Test.YtblkikjmocnllaaGreatDoorQv42
import Derived.Test.YtblkikjmocnllaaGreatDoorQv29
import Derived.KernelRfl
import Derived.Test.YtblkikjmocnllaaGreatDoorQv18
import Derived.Test.YtblkikjmocnllaaGreatDoorQv32
set_option linter.unusedVariables false
set_option linter.unusedSimpArgs false
set_option linter.unusedSectionVars false
namespace Go.Proofs.YtblkikjmocnllaaGreatDoor
open Go.RowKit Go.Shelf
abbrev s1 : Str := [49]
abbrev s11 : Str := [49, 46, 49]
abbrev s12 : Str := [49, 46, 50]
def mm (p : Str) (st : Nat) (k : Int) (la : Nat) (g : List Span) : Mbr := ⟨p, st, k, 0, la, g, plan0, []⟩
def aA1 : List Mbr := [mm s1 2 1 0 [], mm s11 1 0 0 []]
def aA2 : List Mbr := [mm s1 2 2 0 [], mm s11 1 0 0 [], mm s12 1 0 0 []]
def aM : Mbr := mm s1 2 2 0 [(1, 2)]
def aB : List Mbr := [aM, mm s11 1 0 0 [], mm s12 1 0 0 []]
def aBB : List Mbr := [aM, mm s12 1 0 0 []]
def aJ : List Mbr := [aM, mm s12 1 0 0 []]
def aU : List Mbr := [aM, mm s12 2 0 0 []]
def aV : List Mbr := [aM, mm s12 3 0 7 []]
theorem chl1 : childP s1 1 = (s11, 0) := by
 unfold childP
 rw [if_neg (show ¬ deepP s1 = 0 by have : deepP s1 = 1 := by kernel_rfl
                                    omega), if_neg (by omega), if_neg (show ¬ deepP s1 = 8 by have : deepP s1 = 1 := by kernel_rfl
                                                                                              omega), itoa_pos (by omega), show (1 : Int).toNat = 1 from rfl, Lib.decDigits_one (by omega)]
 rfl
theorem chl2 : childP s1 2 = (s12, 0) := by
 unfold childP
 rw [if_neg (show ¬ deepP s1 = 0 by have : deepP s1 = 1 := by kernel_rfl
                                    omega), if_neg (by omega), if_neg (show ¬ deepP s1 = 8 by have : deepP s1 = 1 := by kernel_rfl
                                                                                              omega), itoa_pos (by omega), show (2 : Int).toNat = 2 from rfl, Lib.decDigits_one (by omega)]
 rfl
def admitK (l : List Mbr) (p : Str) (ch : Int → Str × Nat) : List Mbr × Str × Nat := match idxP l p with
 | none => ([], [], 200)
 | some i => match l[i]? with
   | none => ([], [], 200)
   | some x => if x.status ≠ 2 then ([], [], 200) else if 24 ≤ l.length ∨ 1073741824 ≤ x.kids then ([], [], 6)
     else if (ch (x.kids + 1)).2 ≠ 0 then ([], [], (ch (x.kids + 1)).2)
     else (putM (l.set i { x with kids := x.kids + 1 }) (newM (ch (x.kids + 1)).1 x), (ch (x.kids + 1)).1, 0)
theorem admitK_is (l : List Mbr) (p : Str) : admitM l p = admitK l p (childP p) := rfl
theorem admitK_at {l : List Mbr} {p c : Str} {i : Nat} {x : Mbr} (h1 : idxP l p = some i) (h2 : l[i]? = some x) (h3 : childP p (x.kids + 1) = (c, 0)) : admitM l p = admitK l p (fun _ => (c, 0)) := by
 rw [admitK_is]
 unfold admitK
 rw [h1]
 simp only [h2, h3]
theorem adm1 : admitM [mbrB] s1 = (aA1, s11, 0) := (admitK_at (i := 0) (x := mbrB) (c := s11) (by kernel_rfl) rfl chl1).trans (by kernel_rfl)
theorem adm2 : admitM aA1 s1 = (aA2, s12, 0) := (admitK_at (i := 0) (x := mm s1 2 1 0 []) (c := s12) (by kernel_rfl) rfl chl2).trans (by kernel_rfl)
theorem putB : putM aA2 aM = aB := by kernel_rfl
theorem bareB : bareM aB = aBB := by kernel_rfl
theorem spans0 : spansM [] [] = [] := by unfold spansM; simp; rfl
theorem spans1 : spansM [] [(1, 2)] = [(1, 2)] := by
 unfold spansM
 have : (([] ++ [(1, 2)] : List Span).filter sp) = [(1, 2)] := by decide
 rw [this, List.mergeSort_singleton]
 rfl
def aMg : List Mbr := [mm s1 2 2 0 (spansM [] [(1, 2)]), mm s11 1 0 0 [], mm s12 1 0 0 (spansM [] [])]
theorem mrgJ : mergeL Mbr.path joinedM aA2 aBB = aMg := by kernel_rfl
theorem mrgJ2 : aMg = [aM, mm s11 1 0 0 [], mm s12 1 0 0 []] := by unfold aMg; rw [spans0, spans1]; rfl
theorem joinJ : joinL aA2 aBB = aJ := by
 unfold joinL
 rw [mrgJ, mrgJ2]
 kernel_rfl
theorem upJ : upM aJ s12 = (aU, 0) := by kernel_rfl
theorem leaveU : leaveM aU s12 7 = (aV, 0) := by kernel_rfl
theorem leaveV : leaveM aV s1 0 = ([], 2) := by kernel_rfl
theorem findV : findP aV s12 = some (mm s12 3 0 7 []) := by kernel_rfl
theorem laterK : (laterM ⟨s11, 5, [], [], 0, [], 0, false⟩ ⟨s1, 1, [], [], 0, [], 0, false⟩) = ⟨s1, 1, [], [], 0, [], 0, false⟩ := by kernel_rfl
theorem known1 : knownM aJ s11 = 4 := by kernel_rfl
theorem known2 : knownM aJ [49, 46, 49, 46, 53] = 4 := by kernel_rfl
theorem known3 : knownM aJ [49, 46, 51] = 0 := by kernel_rfl
theorem mayV : may20 aV = true := by kernel_rfl
end Go.Proofs.YtblkikjmocnllaaGreatDoor
namespace Go.Proofs.YtblkikjmocnllaaGreatDoor
open Go.RowKit Go.Shelf
structure TinyL (l : List Mbr) : Prop where
 len : l.length ≤ 4
 each : ∀ x ∈ l, x.path.length ≤ 3 ∧ 0 ≤ x.kids ∧ x.gone.length ≤ 1 ∧ x.words = [] ∧ x.plan = plan0
theorem TinyL.small {l : List Mbr} (h : TinyL l) : SmallL l := ⟨by have := h.len; omega, fun x hx => by have := h.each x hx; rw [this.2.2.2.1]; simp; omega⟩
theorem TinyL.join {l : List Mbr} (h : TinyL l) : JoinOk l where
 len := by have := h.len; omega
 path x hx := by have := h.each x hx; omega
 keeper x hx := by rw [(h.each x hx).2.2.2.2]; decide
 words x hx z hz := by rw [(h.each x hx).2.2.2.1] at hz; cases hz
 gone x hx := by have := h.each x hx; omega
 wlen x hx := by rw [(h.each x hx).2.2.2.1]; decide
theorem TinyL.tidy {l : List Mbr} (h : TinyL l) : TidyL l where
 len := by have := h.len; omega
 path x hx := by have := h.each x hx; omega
 gone x hx := by have := h.each x hx; omega
 wlen x hx := by rw [(h.each x hx).2.2.2.1]; decide
 keeper x hx := by rw [(h.each x hx).2.2.2.2]; decide
 live x hx := by rw [(h.each x hx).2.2.2.2]; decide
 owner x hx := by rw [(h.each x hx).2.2.2.2]; decide
 words x hx z hz := by rw [(h.each x hx).2.2.2.1] at hz; cases hz
theorem tiny0 : TinyL [mbrB] := ⟨by decide, by intro x hx; simp at hx; subst hx; decide⟩
theorem tinyA1 : TinyL aA1 := ⟨by decide, by intro x hx; simp [aA1] at hx; rcases hx with rfl | rfl <;> decide⟩
theorem tinyA2 : TinyL aA2 := ⟨by decide, by intro x hx; simp [aA2] at hx; rcases hx with rfl | rfl | rfl <;> decide⟩
theorem tinyB : TinyL aB := ⟨by decide, by intro x hx; simp [aB] at hx; rcases hx with rfl | rfl | rfl <;> decide⟩
theorem tinyBB : TinyL aBB := ⟨by decide, by intro x hx; simp [aBB] at hx; rcases hx with rfl | rfl <;> decide⟩
theorem tinyJ : TinyL aJ := ⟨by decide, by intro x hx; simp [aJ] at hx; rcases hx with rfl | rfl <;> decide⟩
theorem tinyU : TinyL aU := ⟨by decide, by intro x hx; simp [aU] at hx; rcases hx with rfl | rfl <;> decide⟩
theorem tinyV : TinyL aV := ⟨by decide, by intro x hx; simp [aV] at hx; rcases hx with rfl | rfl <;> decide⟩
set_option maxRecDepth 100000 in
set_option maxHeartbeats 8000000 in
theorem alive20_any (w : World) (ht : Pow w) : Calls Tryz.prog 10 #[] w fun e w' => e = .returned (.bool true) ∧ Ext w w' := by
 have HT := Lib.hid ht
 clear ht
 go_enter Tryz.func10, Tryz.ntmps10
 go_wp2_with fail
 refine (begin_any _).mono ?_
 rintro e w1 ⟨v0, rfl, h0, hx1⟩
 have HX1 := Lib.hid hx1
 have HA1 := Lib.hid (admit_any h0 tiny0.small (fun x hx => by have := tiny0.each x hx; omega) (fun x hx => by have := tiny0.each x hx; omega) s1 (HT.out.below HX1.out))
 rw [adm1] at HA1
 obtain ⟨B0, b0, rfl, -, -⟩ := h0.form
 clear h0 hx1
 go_wp2_with fail
 refine HA1.out.mono ?_
 rintro e w2 ⟨v1, rfl, h1, hx2⟩
 have HX2 := Lib.hid (HX1.out.trans hx2)
 have HA2 := Lib.hid (admit_any h1 tinyA1.small (fun x hx => by have := tinyA1.each x hx; omega) (fun x hx => by have := tinyA1.each x hx; omega) s1 (HT.out.below HX2.out))
 rw [adm2] at HA2
 obtain ⟨B1, b1, rfl, -, -⟩ := h1.form
 clear h1 hx2 HA1
 go_wp2_with fail
 refine HA2.out.mono ?_
 rintro e w3 ⟨v2, rfl, h2, hx3⟩
 have HX3 := Lib.hid (HX2.out.trans hx3)
 have H2 := Lib.hid h2
 obtain ⟨B2, b2, rfl, -, -⟩ := h2.form
 have hxs := (Ext.refl w3).alloc (.cells #[.int .i64 1, .int .i64 2] 76)
 have hsp : Sl spanT (w3.alloc (.cells #[.int .i64 1, .int .i64 2] 76)) (fun _ => True) (.slice (some ⟨w3.heap.size, 0, none⟩) 1 1) aM.gone := by
   have r := rowNew w3 76 [.int .i64 1, .int .i64 2]
   have ho : Own (w3.alloc (.cells #[.int .i64 1, .int .i64 2] 76)) w3.heap.size 76 2 (.slice (some ⟨w3.heap.size, 0, none⟩) 1 1) 1 (aM.gone.flatMap spanC) := ⟨rfl, .inr ⟨w3.heap.size, 1, #[.int .i64 1, .int .i64 2], rfl, Nat.le_refl _, by unfold RowIs at r; simpa using r, Nat.le_refl _, by omega, rfl, rfl⟩⟩
   exact (own_slSpan (l := aM.gone) ho).mono (by decide) fun _ _ _ => trivial
 have HPU := Lib.hid (put_any (m := aM) (v1 := .slice (some ⟨w3.heap.size, 0, none⟩) 1 1) (v2 := .slice none 0 0) (h2.ext (by decide) hxs) tinyA2.small (by decide) (fun x hx => by have := tinyA2.each x hx; omega) hsp (Sl.nil none 0 (by omega)) (by decide) (by decide) (by decide))
 rw [putB] at HPU
 have HPU := Lib.hid (show Calls Tryz.prog 31 #[.slice B2 aA2.length b2, .agg #[.string ⟨#[49]⟩, .int .u8 2, .int .i64 2, .int .i64 0, .int .u64 0, .slice (some ⟨w3.heap.size, 0, none⟩) 1 1, .string ⟨#[]⟩, .int .u64 0, .string ⟨#[]⟩, .string ⟨#[]⟩, .int .u64 0, .string ⟨#[]⟩, .int .u64 0, .bool false, .slice none 0 0]] (w3.alloc (.cells #[.int .i64 1, .int .i64 2] 76)) _ from HPU.out)
 have HXS := Lib.hid (HX3.out.trans hxs)
 have HXQ := Lib.hid hxs
 clear h2 hx3 HA2 hsp hxs
 go_wp2_with fail
 refine HPU.out.mono ?_
 rintro e w4 ⟨v3, rfl, h3, hx4⟩
 have HX4 := Lib.hid (HXS.out.trans hx4)
 have H2 := Lib.hid (H2.out.ext (by decide) (HXQ.out.trans hx4))
 have HBA := Lib.hid (bare_any h3 tinyB.small (by decide) (fun x hx => by have := tinyB.each x hx; omega))
 rw [bareB] at HBA
 obtain ⟨B3, b3, rfl, -, -⟩ := h3.form
 clear h3 hx4 HPU HXS HXQ
 go_wp2_with fail
 refine HBA.out.mono ?_
 rintro e w5 ⟨v4, rfl, h4, hx5⟩
 have HX5 := Lib.hid (HX4.out.trans hx5)
 have HJO := Lib.hid (join_any (H2.out.ext (by decide) hx5) h4 tinyA2.join tinyBB.join (by decide))
 rw [joinJ] at HJO
 obtain ⟨B4, b4, rfl, -, -⟩ := h4.form
 clear h4 hx5 HBA
 go_wp2_with fail
 refine HJO.out.mono ?_
 rintro e w6 ⟨v5, rfl, h5, hx6⟩
 have HX6 := Lib.hid (HX5.out.trans hx6)
 have H5 := Lib.hid h5
 have HUP := Lib.hid (up_any h5 tinyJ.small s12)
 rw [upJ] at HUP
 obtain ⟨B5, b5, rfl, -, -⟩ := h5.form
 clear h5 hx6 HJO
 go_wp2_with fail
 refine HUP.out.mono ?_
 rintro e w7 ⟨v6, rfl, h6, hx7⟩
 have HX7 := Lib.hid (HX6.out.trans hx7)
 have H5 := Lib.hid (H5.out.ext (by decide) hx7)
 have HLE := Lib.hid (leave_any h6 tinyU.small s12 7)
 rw [leaveU] at HLE
 obtain ⟨B6, b6, rfl, -, -⟩ := h6.form
 clear h6 hx7 HUP
 go_wp2_with fail
 refine HLE.out.mono ?_
 rintro e w8 ⟨v7, rfl, h7, hx8⟩
 have HX8 := Lib.hid (HX7.out.trans hx8)
 have H5 := Lib.hid (H5.out.ext (by decide) hx8)
 have H7 := Lib.hid h7
 have HOF := Lib.hid (of_any h7 tinyV.small s12)
 rw [findV] at HOF
 simp only [Option.getD_some, Option.isSome_some] at HOF
 obtain ⟨B7, b7, rfl, -, -⟩ := h7.form
 clear h7 hx8 HLE
 go_wp2_with fail
 refine HOF.out.mono ?_
 rintro e w9 ⟨u1, u2, rfl, ho, hx9⟩
 obtain ⟨G1, g1, rfl, -, -⟩ := ho.gone.form
 obtain ⟨G2, g2, rfl, -, -⟩ := ho.words.form
 have hxm := (Ext.refl w9).alloc (.cells #[.string ⟨#[49, 46, 50]⟩, .int .u8 3, .int .i64 0, .int .i64 0, .int .u64 7, .slice G1 0 g1, .string ⟨#[]⟩, .int .u64 0, .string ⟨#[]⟩, .string ⟨#[]⟩, .int .u64 0, .string ⟨#[]⟩, .int .u64 0, .bool false, .slice G2 0 g2] 48)
 have rM := rowNew w9 48 [.string ⟨#[49, 46, 50]⟩, .int .u8 3, .int .i64 0, .int .i64 0, .int .u64 7, .slice G1 0 g1, .string ⟨#[]⟩, .int .u64 0, .string ⟨#[]⟩, .string ⟨#[]⟩, .int .u64 0, .string ⟨#[]⟩, .int .u64 0, .bool false, .slice G2 0 g2]
 have HRM := Lib.hid rM
 have HX9 := Lib.hid ((HX8.out.trans hx9).trans hxm)
 have H5 := Lib.hid (H5.out.ext (by decide) (hx9.trans hxm))
 have H7 := Lib.hid (H7.out.ext (by decide) (hx9.trans hxm))
 clear ho hx9 hxm rM HOF
 unfold mbrV mm plan0
 go_wp2_with fail
 have HLV := Lib.hid (leave_any H7.out tinyV.small s1 0)
 rw [leaveV] at HLV
 refine HLV.out.mono ?_
 rintro e w10 ⟨v8, rfl, h8, hx10⟩
 have HX10 := Lib.hid (HX9.out.trans hx10)
 have H5 := Lib.hid (H5.out.ext (by decide) hx10)
 have H7 := Lib.hid (H7.out.ext (by decide) hx10)
 have HRM := Lib.hid (HRM.out.ext hx10)
 obtain ⟨B8, b8, rfl, -, -⟩ := h8.form
 have hla := fun W => later_any ⟨s11, 5, [], [], 0, [], 0, false⟩ ⟨s1, 1, [], [], 0, [], 0, false⟩ (by decide) (by decide) W
 simp only [laterK] at hla
 have HLA := Lib.hid (fun W => show Calls Tryz.prog 23 #[.agg #[.string ⟨#[49, 46, 49]⟩, .int .u64 5, .string ⟨#[]⟩, .string ⟨#[]⟩, .int .u64 0, .string ⟨#[]⟩, .int .u64 0, .bool false], .agg #[.string ⟨#[49]⟩, .int .u64 1, .string ⟨#[]⟩, .string ⟨#[]⟩, .int .u64 0, .string ⟨#[]⟩, .int .u64 0, .bool false]] W (fun e w' => e = .returned (.agg #[.string ⟨#[49]⟩, .int .u64 1, .string ⟨#[]⟩, .string ⟨#[]⟩, .int .u64 0, .string ⟨#[]⟩, .int .u64 0, .bool false]) ∧ Ext W w') from hla W)
 clear h8 hx10 hla HLV
 go_wp2_with fail
 refine (HLA.out _).mono ?_
 rintro e w11 ⟨rfl, hx11⟩
 have hxp := (Ext.refl w11).alloc (.cells #[.string ⟨#[49]⟩, .int .u64 1, .string ⟨#[]⟩, .string ⟨#[]⟩, .int .u64 0, .string ⟨#[]⟩, .int .u64 0, .bool false] 45)
 have rP := rowNew w11 45 [.string ⟨#[49]⟩, .int .u64 1, .string ⟨#[]⟩, .string ⟨#[]⟩, .int .u64 0, .string ⟨#[]⟩, .int .u64 0, .bool false]
 obtain ⟨W12, hW12⟩ : ∃ W12, w11.alloc (.cells #[.string ⟨#[49]⟩, .int .u64 1, .string ⟨#[]⟩, .string ⟨#[]⟩, .int .u64 0, .string ⟨#[]⟩, .int .u64 0, .bool false] 45) = W12 := ⟨_, rfl⟩
 have hr0 : RowIs W12 w11.heap.size 45 [.string ⟨#[49]⟩, .int .u64 1, .string ⟨#[]⟩, .string ⟨#[]⟩, .int .u64 0, .string ⟨#[]⟩, .int .u64 0, .bool false] [] := by rw [← hW12]; exact rP
 have hx12 : Ext w11 W12 := by rw [← hW12]; exact hxp
 have HW12 := Lib.hid hW12
 have HX12 := Lib.hid ((HX10.out.trans hx11).trans hx12)
 have H5 := Lib.hid (H5.out.ext (by decide) (hx11.trans hx12))
 have H7 := Lib.hid (H7.out.ext (by decide) (hx11.trans hx12))
 have hm := HRM.out.ext (hx11.trans hx12)
 have HCE := Lib.hid (fun W (he : Ext W12 W) => show W.cell? ⟨w9.heap.size, 1, none⟩ = some (.int .u8 3) ∧ W.cell? ⟨w9.heap.size, 4, none⟩ = some (.int .u64 7) ∧ W.cell? ⟨w11.heap.size, 0, none⟩ = some (.string ⟨#[49]⟩) from ⟨(hm.ext he).cell (j := 1) rfl, (hm.ext he).cell (j := 4) rfl, (hr0.ext he).cell (j := 0) rfl⟩)
 have HK1 := Lib.hid (fun W (he : Ext W12 W) => known_any (H5.out.ext (by decide) he) s11 (by decide))
 have HK2 := Lib.hid (fun W (he : Ext W12 W) => known_any (H5.out.ext (by decide) he) [49, 46, 49, 46, 53] (by decide))
 have HK3 := Lib.hid (fun W (he : Ext W12 W) => known_any (H5.out.ext (by decide) he) [49, 46, 51] (by decide))
 have HMY := Lib.hid (fun W (he : Ext W12 W) => mmay_any (H7.out.ext (by decide) he) tinyV.tidy)
 have HCP := Lib.hid (fun W (he : Ext W12 W) => copyM_any (H7.out.ext (by decide) he) tinyV.small)
 rw [known1] at HK1
 rw [known2] at HK2
 rw [known3] at HK3
 rw [mayV] at HMY
 have e1 : ((aA2.length : Int) == 3) = true := rfl
 have e2 : ((aJ.length : Int) == 2) = true := rfl
 clear hx11 hxp rP hr0 hx12 hW12 hm HLA
 go_wp2_with fail
 rw [HW12.out]
 refine (HK1.out _ (Ext.refl _)).mono ?_
 rintro e w13 ⟨rfl, y1⟩
 go_wp2_with fail
 refine (HK2.out _ y1).mono ?_
 rintro e w14 ⟨rfl, y2⟩
 have Y2 := Lib.hid (y1.trans y2)
 clear y1 y2
 go_wp2_with fail
 refine (HK3.out _ Y2.out).mono ?_
 rintro e w15 ⟨rfl, y3⟩
 have Y3 := Lib.hid (Y2.out.trans y3)
 clear y3
 obtain ⟨q1, q2, q3⟩ := HCE.out _ Y3.out
 go_wp2_with fail
 refine (HMY.out _ Y3.out).mono ?_
 rintro e w16 ⟨rfl, y4⟩
 have Y4 := Lib.hid (Y3.out.trans y4)
 clear y4
 go_wp2_with fail
 refine (HCP.out _ Y4.out).mono ?_
 rintro e w17 ⟨v9, rfl, hcp, y5⟩
 have Y5 := Lib.hid (Y4.out.trans y5)
 have HSA := Lib.hid (same_any (H7.out.ext (by decide) Y5.out) hcp.sl)
 clear y5 hcp
 go_wp2_with fail
 refine HSA.out.mono ?_
 rintro e w18 ⟨rfl, y6⟩
 go_wp2_with fail
 go_ret
 exact ⟨rfl, HX12.out.trans (Y5.out.trans y6)⟩
end Go.Proofs.YtblkikjmocnllaaGreatDoor
namespace Go.Proofs.YtblkikjmocnllaaGreatDoor
open Go.RowKit Go.Shelf
theorem putM_mem {l : List Mbr} {m y : Mbr} (h : y ∈ putM l m) : y = m ∨ y ∈ l := by
 unfold putM at h
 rcases List.mem_append.1 h with h | h
 · exact .inr (List.mem_filter.1 (List.mem_of_mem_take h)).1
 · rcases List.mem_cons.1 h with h | h
   · exact .inl h
   · exact .inr (List.mem_filter.1 (List.mem_of_mem_drop h)).1
theorem putM_len (l : List Mbr) (m : Mbr) : 0 < (putM l m).length ∧ (putM l m).length ≤ l.length + 1 := by
 have h1 : (dropP l m.path).length ≤ l.length := List.length_filter_le _ _
 unfold putM
 simp only [List.length_append, List.length_cons, List.length_take, List.length_drop]
 omega
theorem low_tidy {l : List Mbr} (h40 : l.length ≤ 40) (hlow : ∀ x ∈ l, LowM x) (hg : HugeOk l) : TidyL l where
 len := by omega
 path x hx := by have := (hlow x hx).path; omega
 gone x hx := by have := (hlow x hx).gone; omega
 wlen x hx := by have := (hlow x hx).wlen; omega
 keeper x hx := by have := (hlow x hx).keeper; omega
 live x hx := by have := hg.live x hx; omega
 owner x hx := by have := (hlow x hx).owner; omega
 words x hx s hs := by have := (hlow x hx).words s hs; omega
structure PutOk (l : List Mbr) : Prop where
 small : SmallL l
 path : ∀ x ∈ l, x.path.length < 4294967296
 len : l.length ≤ 1000
theorem PutOk.put {l : List Mbr} (h : PutOk l) {m : Mbr} (hl : l.length ≤ 999) (h1 : m.path.length < 4294967296) (h2 : m.gone.length ≤ 4294967296) (h3 : m.words.length ≤ 4294967296) : PutOk (putM l m) where
 small := ⟨by have := (putM_len l m).2; omega, fun x hx => by
   rcases putM_mem hx with rfl | hx
   · exact ⟨h2, h3⟩
   · exact h.small.each x hx⟩
 path x hx := by
   rcases putM_mem hx with rfl | hx
   · exact h1
   · exact h.path x hx
 len := by have := (putM_len l m).2; omega
theorem bare_small {l : List Mbr} (h : SmallL l) : SmallL (bareM l) := by
 have h1 : ∀ y ∈ bareM l, ∃ x ∈ l, y.gone = x.gone ∧ y.words.length ≤ x.words.length := by
   intro y hy
   unfold bareM at hy
   obtain ⟨z, hz, rfl⟩ := List.mem_map.1 hy
   have hz2 := (List.mem_filter.1 hz).1
   obtain ⟨x, hx, rfl⟩ := List.mem_map.1 hz2
   refine ⟨x, hx, vset_gone l x, ?_⟩
   show ((vset l x).words.filter _).length ≤ _
   rw [vset_words]
   exact List.length_filter_le _ _
 refine ⟨?_, fun y hy => ?_⟩
 · have h2 : (bareM l).length ≤ l.length := by
     unfold bareM leftM voidedM
     rw [List.length_map]
     refine Nat.le_trans (List.length_filter_le _ _) ?_
     rw [List.length_map]
     exact Nat.le_refl _
   have := h.len
   omega
 · obtain ⟨x, hx, e1, e2⟩ := h1 y hy
   have := h.each x hx
   rw [e1]
   omega
set_option maxRecDepth 100000 in
set_option maxHeartbeats 8000000 in
theorem void_walk {S : Nat → Prop} {v : Value} {l : List Mbr} {path : Str} {n : Nat} {w : World} (hv : Sl mbrT w S v l) (hg : HugeOk l) (hp : path.length ≤ 1125899906842624) (hn : n < 65536) (ht : Pow w) :
   Calls Tryz.prog 6 #[v, St path, .int .u16 n] w fun e w' => e = .returned (.bool true) ∧ Ext w w' := by
 have HAL := Lib.hid (fun W (he : Ext w W) => alive20_any W (ht.below he))
 have HLA := Lib.hid (large_any hv hg)
 have HV := Lib.hid hv
 have HG := Lib.hid hg
 obtain ⟨A, c, rfl, -, -⟩ := hv.form
 clear hv hg ht
 go_enter Tryz.func6, Tryz.ntmps6
 go_wp2_with fail
 refine HLA.out.mono ?_
 rintro e w1 ⟨hb, hx1⟩
 rcases hb with rfl | ⟨rfl, h40, hlow⟩
 · clear HLA
   go_wp2_with fail
   refine (HAL.out _ hx1).mono ?_
   rintro e wz ⟨rfl, hz⟩
   go_wp2_with fail
   go_ret
   exact ⟨rfl, Ext.trans hx1 hz⟩
 have HTD := Lib.hid (low_tidy h40 hlow HG.out)
 have HLW := Lib.hid hlow
 have HX1 := Lib.hid hx1
 clear hlow hx1 HLA
 by_cases hpl : path.length ≤ 256
 case neg =>
   have e1 : (path.length : Int) > 256 := by omega
   go_wp2_with fail
   refine (HAL.out _ HX1.out).mono ?_
   rintro e wz ⟨rfl, hz⟩
   go_wp2_with fail
   go_ret
   exact ⟨rfl, Ext.trans HX1.out hz⟩
 have e1 : ¬ (path.length : Int) > 256 := by omega
 have HMY := Lib.hid (mmay_any (HV.out.ext (by decide) HX1.out) HTD.out)
 go_wp2_with fail
 refine HMY.out.mono ?_
 rintro e w2 ⟨rfl, hx2⟩
 have HX2 := Lib.hid (HX1.out.trans hx2)
 clear hx2 HMY
 cases hmay : may20 l
 case' false =>
   clear hmay
   go_wp2_with fail
   refine (HAL.out _ HX2.out).mono ?_
   rintro e wz ⟨rfl, hz⟩
   go_wp2_with fail
   go_ret
   exact ⟨rfl, Ext.trans HX2.out hz⟩
 case' true =>
 have HMAY := Lib.hid hmay
 clear hmay
 by_cases h24 : l.length < 24
 case neg =>
   have e2 : (l.length : Int) ≥ 24 := by omega
   go_wp2_with fail
   refine (HAL.out _ HX2.out).mono ?_
   rintro e wz ⟨rfl, hz⟩
   go_wp2_with fail
   go_ret
   exact ⟨rfl, Ext.trans HX2.out hz⟩
 have e2 : ¬ (l.length : Int) ≥ 24 := by omega
 have HOF := Lib.hid (of_any (HV.out.ext (by decide) HX2.out) HTD.out.small path)
 go_wp2_with fail
 refine HOF.out.mono ?_
 rintro e w3 ⟨u1, u2, rfl, ho, hx3⟩
 have HX3 := Lib.hid (HX2.out.trans hx3)
 obtain ⟨M1, m1, rfl, -, -⟩ := ho.gone.form
 obtain ⟨M2, m2, rfl, -, -⟩ := ho.words.form
 clear hx3 HOF
 cases hf : findP l path
 case' none =>
   rw [hf] at ho
   simp only [Option.getD_none, Option.isSome_none] at ho ⊢
   have HXZ := Lib.hid (fun o => HX3.out.alloc o)
   clear ho hf
   generalize mbr0 = m at *
   unfold mbrV
   go_wp2_with fail
   refine (HAL.out _ (HXZ.out _)).mono ?_
   rintro e wz ⟨rfl, hz⟩
   go_wp2_with fail
   go_ret
   exact ⟨rfl, Ext.trans (HXZ.out _) hz⟩
 case' some m =>
 rw [hf] at ho
 simp only [Option.getD_some, Option.isSome_some] at ho ⊢
 have HF := Lib.hid hf
 have hmx := findP_mem hf
 have HLM := Lib.hid (HLW.out m hmx)
 have hmok := (ok_parts ((may_facts HMAY.out).ok m hmx))
 have hmpath := findP_path hf
 have HPP := Lib.hid (show mayP path = true by rw [← hmpath]; exact hmok.1)
 have HFM := Lib.hid hmok.2.2.2
 have hxm := (Ext.refl w3).alloc (.cells #[St m.path, U8 m.status, I m.kids, I m.cut, U m.last, .slice M1 m.gone.length m1, St m.plan.keeper, U m.plan.round, St m.plan.live, St m.plan.by_, U m.plan.cap, St m.plan.owner, U m.plan.base, .bool m.plan.done, .slice M2 m.words.length m2] 48)
 have HXM := Lib.hid (HX3.out.trans hxm)
 have HRM := Lib.hid (rowNew w3 48 [St m.path, U8 m.status, I m.kids, I m.cut, U m.last, .slice M1 m.gone.length m1, St m.plan.keeper, U m.plan.round, St m.plan.live, St m.plan.by_, U m.plan.cap, St m.plan.owner, U m.plan.base, .bool m.plan.done, .slice M2 m.words.length m2])
 have HS1 := Lib.hid (And.intro (((own_slSpan ho.gone).mono (S' := fun b => w2.heap.size ≤ b ∧ b < w3.heap.size) (by decide) (fun b hb h => ⟨h, hb⟩)).ext (by decide) hxm) (((own_slWord ho.words).mono (S' := fun b => w2.heap.size ≤ b ∧ b < w3.heap.size) (by decide) (fun b hb h => ⟨h, hb⟩)).ext (by decide) hxm))
 obtain ⟨k0, k1, k2, k3, k4, k5, k6, k7, k8, k9, k10, k11, k12, k13, k14⟩ := RowIs.c15 HRM.out
 clear ho hf hmx hmok hmpath hxm
 unfold mbrV
 by_cases hst : m.status = 4
 case neg =>
   have e3 : ((m.status : Int) != 4) = true := by rw [bne_iff_ne]; omega
   go_wp2_with fail
   refine (HAL.out _ HXM.out).mono ?_
   rintro e wz ⟨rfl, hz⟩
   go_wp2_with fail
   go_ret
   exact ⟨rfl, Ext.trans HXM.out hz⟩
 have e3 : ((m.status : Int) != 4) = false := by rw [hst]; rfl
 have HST := Lib.hid hst
 clear hst
 by_cases hfo : path = [49]
 case pos =>
   have e4 : (path == [49]) = true := by simpa using hfo
   go_wp2_with fail
   refine (HAL.out _ HXM.out).mono ?_
   rintro e wz ⟨rfl, hz⟩
   go_wp2_with fail
   go_ret
   exact ⟨rfl, Ext.trans HXM.out hz⟩
 have e4 : (path == [49]) = false := by simpa using hfo
 clear hfo
 have HDE := Lib.hid (fun W => refDeep_any (p := path) HPP.out (by omega) W)
 go_wp2_with fail
 refine (HDE.out _).mono ?_
 rintro e w4 ⟨rfl, hx4⟩
 have HX4 := Lib.hid (HXM.out.trans hx4)
 have HRM := Lib.hid (HRM.out.ext hx4)
 have HS1 := Lib.hid (And.intro (HS1.out.1.ext (by decide) hx4) (HS1.out.2.ext (by decide) hx4))
 obtain ⟨k0, k1, k2, k3, k4, k5, k6, k7, k8, k9, k10, k11, k12, k13, k14⟩ := RowIs.c15 HRM.out
 clear hx4 HDE
 by_cases hde : deepP path < 7
 case neg =>
   have e5 : ((deepP path : Nat) : Int) ≥ 7 := by omega
   go_wp2_with fail
   refine (HAL.out _ HX4.out).mono ?_
   rintro e wz ⟨rfl, hz⟩
   go_wp2_with fail
   go_ret
   exact ⟨rfl, Ext.trans HX4.out hz⟩
 have e5 : ¬ ((deepP path : Nat) : Int) ≥ 7 := by omega
 obtain ⟨kv, hkv⟩ : ∃ kv : Nat, 1 + n % 6 = kv := ⟨_, rfl⟩
 have hkz : (1 : Int) + (n : Int) % 6 = (kv : Int) := by omega
 have hk1 : 1 ≤ kv := by omega
 have hk2 : kv ≤ 6 := by omega
 have htm : (n : Int).tmod 6 = (n : Int) % 6 := by rw [Int.tmod_eq_emod_of_nonneg (by omega)]
 obtain ⟨child, hch⟩ : ∃ child, childP path kv = (child, 0) := by
   have hd0 : 0 < deepP path := by have := HPP.out; unfold mayP at this; simpa using this
   exact ⟨_, by unfold childP; rw [if_neg (by omega), if_neg (by omega), if_neg (by omega)]⟩
 have HCH := Lib.hid hch
 have HCI := Lib.hid (fun W => refChild_any (p := path) HPP.out (by omega) kv hk1 (by omega) W)
 rw [hch] at HCI
 clear hch hkv
 go_wp2_with fail
 refine (HCI.out _).mono ?_
 rintro e w5 ⟨rfl, hx5⟩
 have HX5 := Lib.hid (HX4.out.trans hx5)
 have HRM := Lib.hid (HRM.out.ext hx5)
 have HS1 := Lib.hid (And.intro (HS1.out.1.ext (by decide) hx5) (HS1.out.2.ext (by decide) hx5))
 have HHD := Lib.hid (had_any (HV.out.ext (by decide) HX5.out) HTD.out.small child)
 clear hx5 HCI
 go_wp2_with fail
 refine HHD.out.mono ?_
 rintro e w6 ⟨rfl, hx6⟩
 have HX6 := Lib.hid (HX5.out.trans hx6)
 have HRM := Lib.hid (HRM.out.ext hx6)
 have HS1 := Lib.hid (And.intro (HS1.out.1.ext (by decide) hx6) (HS1.out.2.ext (by decide) hx6))
 clear hx6 HHD
 cases hnf : findP l child
 case' some y =>
   simp only [Option.isSome_some]
   clear hnf
   go_wp2_with fail
   refine (HAL.out _ HX6.out).mono ?_
   rintro e wz ⟨rfl, hz⟩
   go_wp2_with fail
   go_ret
   exact ⟨rfl, Ext.trans HX6.out hz⟩
 case' none =>
 simp only [Option.isSome_none]
 have HNF := Lib.hid hnf
 have hcp := childP_ok HCH.out
 have hcl : child.length ≤ 300 := by
   have := dec_len (u := (kv : Int).toNat) (by omega)
   rw [hcp.2.2.2.2]
   simp only [List.length_append, List.length_cons]
   omega
 have hcm : mayP child = true := by
   have := childP_deep HCH.out
   unfold mayP
   simp; omega
 have HMAYC := Lib.hid hcm
 have HFO := Lib.hid (refForgot_any (HV.out.ext (by decide) HX6.out) child hcm (by omega))
 clear hnf hcp hcm
 go_wp2_with fail
 refine HFO.out.mono ?_
 rintro e w7 ⟨rfl, hx7⟩
 have HX7 := Lib.hid (HX6.out.trans hx7)
 have hrm := HRM.out.ext hx7
 have HS1 := Lib.hid (And.intro (HS1.out.1.ext (by decide) hx7) (HS1.out.2.ext (by decide) hx7))
 clear hx7 HFO
 cases hfg : forgottenM l child
 case' true =>
   clear hfg hrm
   go_wp2_with fail
   refine (HAL.out _ HX7.out).mono ?_
   rintro e wz ⟨rfl, hz⟩
   go_wp2_with fail
   go_ret
   exact ⟨rfl, Ext.trans HX7.out hz⟩
 case' false =>
 have HFG := Lib.hid hfg
 have hgw : w.heap.size ≤ w3.heap.size := HX3.out.size
 have hgl := hrm.lt
 have hxs : Ext w (w7.setCell ⟨w3.heap.size, 2, none⟩ (I (max m.kids kv))) := Ext.set HX7.out (p := ⟨w3.heap.size, 2, none⟩) hgw _
 have hrs : RowIs (w7.setCell ⟨w3.heap.size, 2, none⟩ (I (max m.kids kv))) w3.heap.size 48 [St m.path, U8 m.status, I (max m.kids kv), I m.cut, U m.last, .slice M1 m.gone.length m1, St m.plan.keeper, U m.plan.round, St m.plan.live, St m.plan.by_, U m.plan.cap, St m.plan.owner, U m.plan.base, .bool m.plan.done, .slice M2 m.words.length m2] [] := hrm.set (j := 2) (by simp) (I (max m.kids kv))
 have hkp : ∀ b, w2.heap.size ≤ b → b < w3.heap.size → (w7.setCell ⟨w3.heap.size, 2, none⟩ (I (max m.kids kv))).heap[b]? = w7.heap[b]? := fun b _ hb => Below.heap_setCell _ ⟨w3.heap.size, 2, none⟩ _ b (show b ≠ w3.heap.size by omega)
 have HS1 := Lib.hid (show Sl spanT (w7.setCell ⟨w3.heap.size, 2, none⟩ (I (max m.kids kv))) (fun b => w2.heap.size ≤ b ∧ b < w3.heap.size) (.slice M1 m.gone.length m1) m.gone ∧ Sl wordT (w7.setCell ⟨w3.heap.size, 2, none⟩ (I (max m.kids kv))) (fun b => w2.heap.size ≤ b ∧ b < w3.heap.size) (.slice M2 m.words.length m2) m.words from
   ⟨(HS1.out.1).keep (by decide) (fun b hb _ => hkp b hb.1 hb.2), (HS1.out.2).keep (by decide) (fun b hb _ => hkp b hb.1 hb.2)⟩)
 obtain ⟨k0, k1, k2, k3, k4, k5, k6, k7, k8, k9, k10, k11, k12, k13, k14⟩ := RowIs.c15 hrm
 have f2 := hrm.frozen 2
 have HRS := Lib.hid hrs
 have HXS := Lib.hid hxs
 clear hfg hgw hgl hxs hrs hkp hrm
 go_wp2_with fail
 have hll := (may_facts HMAY.out).pos
 have hpo : PutOk l := ⟨HTD.out.small, fun x hx => by have := HTD.out.path x hx; omega, by omega⟩
 have hlm := HLM.out
 have hmpl : m.path.length < 4294967296 := by have := hlm.path; omega
 have hmgl : m.gone.length ≤ 4294967296 := by have := hlm.gone; omega
 have hmwl : m.words.length ≤ 4294967296 := by have := hlm.wlen; omega
 have hpo1 := hpo.put (m := { m with kids := max m.kids kv }) (by omega) hmpl hmgl hmwl
 have hl1 := putM_len l { m with kids := max m.kids kv }
 have hpo2 := hpo1.put (m := ⟨child, 2, 1, 0, 0, [], plan0, []⟩) (by omega) (show child.length < 4294967296 by omega) (Nat.zero_le _) (Nat.zero_le _)
 have hl2 := putM_len (putM l { m with kids := max m.kids kv }) ⟨child, 2, 1, 0, 0, [], plan0, []⟩
 have HPU := Lib.hid (show Calls Tryz.prog 31 #[.slice A l.length c, .agg #[St m.path, U8 m.status, I (max m.kids kv), I m.cut, U m.last, .slice M1 m.gone.length m1, St m.plan.keeper, U m.plan.round, St m.plan.live, St m.plan.by_, U m.plan.cap, St m.plan.owner, U m.plan.base, .bool m.plan.done, .slice M2 m.words.length m2]] (w7.setCell ⟨w3.heap.size, 2, none⟩ (I (max m.kids kv))) _ from put_any (m := { m with kids := max m.kids kv }) (v1 := .slice M1 m.gone.length m1) (v2 := .slice M2 m.words.length m2) (HV.out.ext (by decide) HXS.out) hpo.small hll hpo.path HS1.out.1 HS1.out.2 hmpl hmgl hmwl)
 have HP1 := Lib.hid hpo1
 have HP2 := Lib.hid hpo2
 have HL1 := Lib.hid hl1.1
 have HL2 := Lib.hid hl2.1
 clear hll hpo hlm hmpl hmgl hmwl hpo1 hl1 hpo2 hl2 k0 k1 k2 k3 k4 k5 k6 k7 k8 k9 k10 k11 k12 k13 k14 f2
 refine HPU.out.mono ?_
 rintro e w8 ⟨v1, rfl, h8, hx8⟩
 have HX8 := Lib.hid (HXS.out.trans hx8)
 have HRS := Lib.hid (HRS.out.ext hx8)
 have HPV := Lib.hid (show Calls Tryz.prog 31 #[v1, .agg #[St child, .int .u8 2, .int .i64 1, .int .i64 0, .int .u64 0, .slice none 0 0, .string ⟨#[]⟩, .int .u64 0, .string ⟨#[]⟩, .string ⟨#[]⟩, .int .u64 0, .string ⟨#[]⟩, .int .u64 0, .bool false, .slice none 0 0]] w8 _ from put_any (m := ⟨child, 2, 1, 0, 0, [], plan0, []⟩) (v1 := .slice none 0 0) (v2 := .slice none 0 0) h8 HP1.out.small HL1.out HP1.out.path (Sl.nil (S := fun _ => True) none 0 (by omega)) (Sl.nil none 0 (by omega)) (show child.length < 4294967296 by omega) (Nat.zero_le _) (Nat.zero_le _))
 obtain ⟨B8, b8, rfl, -, -⟩ := h8.form
 clear h8 hx8 HPU
 go_wp2_with fail
 refine HPV.out.mono ?_
 rintro e w9 ⟨v2, rfl, h9, hx9⟩
 have HX9 := Lib.hid (HX8.out.trans hx9)
 have HRS := Lib.hid (HRS.out.ext hx9)
 have HBA := Lib.hid (bare_any h9 HP2.out.small HL2.out HP2.out.path)
 obtain ⟨grand, hgr⟩ : ∃ grand, childP child 1 = (grand, 0) := by
   have hd0 := childP_deep HCH.out
   exact ⟨_, by unfold childP; rw [if_neg (by omega), if_neg (by omega), if_neg (by omega)]⟩
 obtain ⟨x, hfx, hsx, hkx⟩ := void_law HMAY.out HF.out HST.out HCH.out HNF.out HFG.out hgr
 have HBS := Lib.hid (bare_small HP2.out.small)
 have HGR := Lib.hid hgr
 have hgl : grand.length ≤ 400 := by
   have hcp := childP_ok hgr
   have := dec_len (u := (1 : Int).toNat) (by decide)
   rw [hcp.2.2.2.2]
   simp only [List.length_append, List.length_cons]
   omega
 obtain ⟨B9, b9, rfl, -, -⟩ := h9.form
 clear h9 hx9 HPV hgr HP1 HL1 HP2 HL2
 generalize bareM (putM (putM l { m with kids := max m.kids kv }) ⟨child, 2, 1, 0, 0, [], plan0, []⟩) = bb at *
 go_wp2_with fail
 refine HBA.out.mono ?_
 rintro e w10 ⟨v3, rfl, h10, hx10⟩
 have HX10 := Lib.hid (HX9.out.trans hx10)
 have HRS := Lib.hid (HRS.out.ext hx10)
 have H10 := Lib.hid h10
 have HOB := Lib.hid (of_any h10 HBS.out child)
 rw [hfx] at HOB
 simp only [Option.getD_some, Option.isSome_some] at HOB
 obtain ⟨B10, b10, rfl, -, -⟩ := h10.form
 clear h10 hx10 HBA hfx
 go_wp2_with fail
 refine HOB.out.mono ?_
 rintro e w11 ⟨q1, q2, rfl, ho, hx11⟩
 obtain ⟨X1, x1, rfl, -, -⟩ := ho.gone.form
 obtain ⟨X2, x2, rfl, -, -⟩ := ho.words.form
 have hxa := (Ext.refl w11).alloc (.cells #[St x.path, U8 x.status, I x.kids, I x.cut, U x.last, .slice X1 x.gone.length x1, St x.plan.keeper, U x.plan.round, St x.plan.live, St x.plan.by_, U x.plan.cap, St x.plan.owner, U x.plan.base, .bool x.plan.done, .slice X2 x.words.length x2] 48)
 have rX := rowNew w11 48 [St x.path, U8 x.status, I x.kids, I x.cut, U x.last, .slice X1 x.gone.length x1, St x.plan.keeper, U x.plan.round, St x.plan.live, St x.plan.by_, U x.plan.cap, St x.plan.owner, U x.plan.base, .bool x.plan.done, .slice X2 x.words.length x2]
 have HX11 := Lib.hid ((HX10.out.trans hx11).trans hxa)
 have HRX := Lib.hid rX
 have hms := HRS.out.ext (hx11.trans hxa)
 have HMS := Lib.hid hms
 have H10 := Lib.hid (H10.out.ext (by decide) (hx11.trans hxa))
 have c1 := rX.cell (j := 1) rfl
 have c3 := hms.cell (j := 3) rfl
 unfold mbrV
 clear ho hx11 hxa rX hms HOB HRS
 have HCG := Lib.hid (fun W => refChild_any (p := child) HMAYC.out (by omega) 1 (by omega) (by omega) W)
 have hgr2 := HGR.out
 rw [show ((1 : Nat) : Int) = 1 from rfl, hgr2] at HCG
 clear hgr2
 by_cases hv : 0 < m.cut ∧ m.cut ≤ kv
 case' pos =>
   rw [decide_eq_true hv] at hsx
   have hs4 : x.status = 4 := by simpa using hsx
   rw [if_pos hs4] at hkx
   have g1 : m.cut > 0 := hv.1
   have g2 : (kv : Int) ≥ m.cut := hv.2
   have g3 : ((x.status : Int) == 4) = true := by rw [hs4]; rfl
   obtain ⟨kn, hkn⟩ : ∃ kn : Nat, kn = 4 := ⟨4, rfl⟩
   rw [← hkn] at hkx
   have g4 : ((kn : Int) == 4) = true := by rw [hkn]; rfl
   clear hv hsx hs4 hkn
 case' neg =>
   rw [decide_eq_false hv] at hsx
   have hs4 : x.status ≠ 4 := by simpa using hsx
   rw [if_neg hs4] at hkx
   have g3 : ((x.status : Int) == 4) = false := by rw [beq_eq_false_iff_ne]; omega
   obtain ⟨kn, hkn⟩ : ∃ kn : Nat, kn = 0 := ⟨0, rfl⟩
   rw [← hkn] at hkx
   have g4 : ((kn : Int) == 0) = true := by rw [hkn]; rfl
   by_cases g1 : m.cut > 0
   case' pos => have g2 : ¬ (kv : Int) ≥ m.cut := fun h => hv ⟨g1, h⟩
   all_goals clear hv hsx hs4 hkn
 all_goals
   go_wp2_with fail
   refine (HCG.out _).mono ?_
   rintro e w12 ⟨rfl, hx12⟩
   have c1 := (HRX.out.ext hx12).cell (j := 1) rfl
   have HKN := Lib.hid (known_any (H10.out.ext (by decide) hx12) grand (by omega))
   rw [hkx] at HKN
   have HX12 := Lib.hid (HX11.out.trans hx12)
   clear hx12
   go_wp2_with fail
   refine HKN.out.mono ?_
   rintro e w13 ⟨rfl, hx13⟩
   go_wp2_with fail
   refine (HAL.out _ (HX12.out.trans hx13)).mono ?_
   rintro e w14 ⟨rfl, hx14⟩
   go_wp2_with fail
   go_ret
   exact ⟨rfl, (HX12.out.trans hx13).trans hx14⟩
end Go.Proofs.YtblkikjmocnllaaGreatDoor
