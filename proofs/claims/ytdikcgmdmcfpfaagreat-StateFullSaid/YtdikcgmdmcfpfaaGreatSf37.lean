/- gossamerlaw16.StateFull: the walk. -/
import Derived.Test.YtdikcgmdmcfpfaaGreatSf36
import Derived.Laws.BytesArg
set_option linter.unusedVariables false
set_option linter.unusedSimpArgs false
set_option linter.unusedSectionVars false
namespace Go.Proofs.YtdikcgmdmcfpfaaGreat
open Go.RowKit Go.Shelf

theorem own_mark1 {w : World} {g base : Nat} {m : Mark} (h : RowIs w g 25 [St m.1, U m.2] []) (hb : base ≤ g) : Own w base 25 2 (.slice (some ⟨g, 0, none⟩) 1 1) 1 ([m].flatMap markC) :=
  RowIs.own h hb (by omega) (by omega) rfl rfl rfl

def fullT (i : Nat) : Str := [UInt8.ofNat (97 + i / 100), UInt8.ofNat (48 + i / 10 % 10), UInt8.ofNat (48 + i % 10)]
theorem conv3 (k : Nat) (W : World) : (convert 31 9 (.slice (some ⟨W.heap.size, 0, none⟩) 3 3)).run Tryz.prog (W.alloc (.cells #[.int .u8 (97 + (k : Int) / 100), .int .u8 (48 + (k : Int) / 10 % 10), .int .u8 (48 + (k : Int) % 10)] 5)) = .ok (St (fullT k)) (W.alloc (.cells #[.int .u8 (97 + (k : Int) / 100), .int .u8 (48 + (k : Int) / 10 % 10), .int .u8 (48 + (k : Int) % 10)] 5)) := by
  rw [run_convert_bytes_arg _ 31 5 Tryz.underlying31 Tryz.underlying5 W.heap.size 0 3 3 [97 + (k : Int) / 100, 48 + (k : Int) / 10 % 10, 48 + (k : Int) % 10] rfl (fun i hi => by
    rcases (show i = 0 ∨ i = 1 ∨ i = 2 by omega) with rfl | rfl | rfl <;> simp [go_sem]) 9 Tryz.underlying9]
  have e1 : (97 + (k : Int) / 100).toNat = 97 + k / 100 := by omega
  have e2 : (48 + (k : Int) / 10 % 10).toNat = 48 + k / 10 % 10 := by omega
  have e3 : (48 + (k : Int) % 10).toNat = 48 + k % 10 := by omega
  simp only [strOfNums, List.map_cons, List.map_nil, e1, e2, e3]
  rfl

theorem fullK_is (k : Nat) : ((⟨#[35]⟩ : ByteArray) ++ ⟨(fullT k).toArray⟩) = ⟨(fullK k).toArray⟩ := by
  apply ByteArray.ext
  simp [fullT, fullK]

/-- what is made of the state -/
structure FullAt (w : World) (b : Nat) (vE : Value) (k : Nat) : Prop where
  row : RowIs w (b + 1) 30 [.slice (some ⟨b, 0, none⟩) 1 1, vE, .slice none 0 0] []
  all : RowIs w b 25 [St [49], U 1] []
  ents : RowE w b (b + 1) vE (fullL k)
theorem FullAt.ext {w w' : World} {b k : Nat} {vE : Value} (h : FullAt w b vE k) (he : Ext w w') : FullAt w' b vE k := ⟨h.row.ext he, h.all.ext he, h.ents.ext he⟩

set_option maxRecDepth 100000 in
set_option maxHeartbeats 2000000 in
theorem full_walk (a : Int) (h1 : -128 ≤ a) (h2 : a < 128) (w : World) : Calls Tryz.prog 3 #[.int .i8 a] w fun r w' => r = .returned (.bool true) ∧ Ext w w' := by
  have hx0 : Ext w ((w.alloc (.cells #[St [49], U 1] 25)).alloc (.cells #[.slice (some ⟨w.heap.size, 0, none⟩) 1 1, .slice none 0 0, .slice none 0 0] 30)) := ((Ext.refl w).alloc _).alloc _
  have hF0 : FullAt ((w.alloc (.cells #[St [49], U 1] 25)).alloc (.cells #[.slice (some ⟨w.heap.size, 0, none⟩) 1 1, .slice none 0 0, .slice none 0 0] 30)) w.heap.size (.slice none 0 0) 0 := ⟨by have h := rowNew (w.alloc (.cells #[St [49], U 1] 25)) 30 [.slice (some ⟨w.heap.size, 0, none⟩) 1 1, .slice none 0 0, .slice none 0 0]; simp only [World.size_alloc] at h; exact h,
    (rowNew w 25 [St [49], U 1]).alloc _, RowE.nil _ _ _ _⟩
  have HF0 := Lib.hid hF0
  have HX0 := Lib.hid hx0
  clear hF0 hx0
  go_enter Tryz.func3, Tryz.ntmps3
  go_wp2_with fail
  generalize ((w.alloc (.cells #[St [49], U 1] 25)).alloc (.cells #[.slice (some ⟨w.heap.size, 0, none⟩) 1 1, .slice none 0 0, .slice none 0 0] 30)) = W0 at *
  obtain ⟨n, hn1, hn2, hn⟩ : ∃ n : Nat, 254 ≤ n ∧ n ≤ 257 ∧ 254 + a % 4 = (n : Int) := ⟨(254 + a % 4).toNat, by omega, by omega, by omega⟩
  rw [hn]
  clear hn
  generalize a % 256 % 4 = y1
  generalize a % 256 = y2
  generalize a % 4 = y3
  clear h1 h2
  go_loopw [5] (fun i wr => ∃ k vE, k ≤ n ∧ i = I k ∧ FullAt wr w.heap.size vE k ∧ Ext w wr) (fun i _ => n - (intOf i).toNat)
  case atStart => exact ⟨0, _, by omega, rfl, HF0.out, HX0.out⟩
  case round =>
    obtain ⟨k, vE, hk, rfl, hF, hx⟩ := hrel
    by_cases hlt : k < n
    · obtain ⟨AE, cE, rfl, -, -⟩ := hF.ents.form
      rw [fullL_len] at *
      have hxa : Ext wr (wr.alloc (.cells #[.int .u8 (97 + (k : Int) / 100), .int .u8 (48 + (k : Int) / 10 % 10), .int .u8 (48 + (k : Int) % 10)] 5)) := (Ext.refl wr).alloc _
      have hxb : Ext (wr.alloc (.cells #[.int .u8 (97 + (k : Int) / 100), .int .u8 (48 + (k : Int) / 10 % 10), .int .u8 (48 + (k : Int) % 10)] 5)) ((wr.alloc (.cells #[.int .u8 (97 + (k : Int) / 100), .int .u8 (48 + (k : Int) / 10 % 10), .int .u8 (48 + (k : Int) % 10)] 5)).alloc (.cells #[St [49], U 1] 25)) := (Ext.refl _).alloc _
      have hxc : Ext ((wr.alloc (.cells #[.int .u8 (97 + (k : Int) / 100), .int .u8 (48 + (k : Int) / 10 % 10), .int .u8 (48 + (k : Int) % 10)] 5)).alloc (.cells #[St [49], U 1] 25)) (((wr.alloc (.cells #[.int .u8 (97 + (k : Int) / 100), .int .u8 (48 + (k : Int) / 10 % 10), .int .u8 (48 + (k : Int) % 10)] 5)).alloc (.cells #[St [49], U 1] 25)).alloc (.cells (entL (fullE k) (.slice (some ⟨wr.heap.size + 1, 0, none⟩) 1 1) (.slice none 0 0) (.slice none 0 0)).toArray 37)) := (Ext.refl _).alloc _
      have c1 := (hF.row.ext hxa).cell (j := 1) rfl
      have hF3 := ((hF.ext hxa).ext hxb).ext hxc
      have rM : RowIs (((wr.alloc (.cells #[.int .u8 (97 + (k : Int) / 100), .int .u8 (48 + (k : Int) / 10 % 10), .int .u8 (48 + (k : Int) % 10)] 5)).alloc (.cells #[St [49], U 1] 25)).alloc (.cells (entL (fullE k) (.slice (some ⟨wr.heap.size + 1, 0, none⟩) 1 1) (.slice none 0 0) (.slice none 0 0)).toArray 37)) (wr.heap.size + 1) 25 [St [49], U 1] [] := by have h := rowNew (wr.alloc (.cells #[.int .u8 (97 + (k : Int) / 100), .int .u8 (48 + (k : Int) / 10 % 10), .int .u8 (48 + (k : Int) % 10)] 5)) 25 [St [49], U 1]; simp only [World.size_alloc] at h; exact h.alloc _
      have rE : RowIs (((wr.alloc (.cells #[.int .u8 (97 + (k : Int) / 100), .int .u8 (48 + (k : Int) / 10 % 10), .int .u8 (48 + (k : Int) % 10)] 5)).alloc (.cells #[St [49], U 1] 25)).alloc (.cells (entL (fullE k) (.slice (some ⟨wr.heap.size + 1, 0, none⟩) 1 1) (.slice none 0 0) (.slice none 0 0)).toArray 37)) (wr.heap.size + 1 + 1) 37 (entL (fullE k) (.slice (some ⟨wr.heap.size + 1, 0, none⟩) 1 1) (.slice none 0 0) (.slice none 0 0)) [] := by have h := rowNew ((wr.alloc (.cells #[.int .u8 (97 + (k : Int) / 100), .int .u8 (48 + (k : Int) / 10 % 10), .int .u8 (48 + (k : Int) % 10)] 5)).alloc (.cells #[St [49], U 1] 25)) 37 (entL (fullE k) (.slice (some ⟨wr.heap.size + 1, 0, none⟩) 1 1) (.slice none 0 0) (.slice none 0 0)); simp only [World.size_alloc] at h; exact h
      have hsz3 : (((wr.alloc (.cells #[.int .u8 (97 + (k : Int) / 100), .int .u8 (48 + (k : Int) / 10 % 10), .int .u8 (48 + (k : Int) % 10)] 5)).alloc (.cells #[St [49], U 1] 25)).alloc (.cells (entL (fullE k) (.slice (some ⟨wr.heap.size + 1, 0, none⟩) 1 1) (.slice none 0 0) (.slice none 0 0)).toArray 37)).heap.size = wr.heap.size + 3 := by simp
      have hx3 := ((hx.trans hxa).trans hxb).trans hxc
      have hwb := hx.size
      have hEN : EntNew (((wr.alloc (.cells #[.int .u8 (97 + (k : Int) / 100), .int .u8 (48 + (k : Int) / 10 % 10), .int .u8 (48 + (k : Int) % 10)] 5)).alloc (.cells #[St [49], U 1] 25)).alloc (.cells (entL (fullE k) (.slice (some ⟨wr.heap.size + 1, 0, none⟩) 1 1) (.slice none 0 0) (.slice none 0 0)).toArray 37)) wr.heap.size (fullE k) (.slice (some ⟨wr.heap.size + 1, 0, none⟩) 1 1) (.slice none 0 0) (.slice none 0 0) := ⟨own_mark1 (m := ([49], 1)) rM (by omega), Own.nil _ _ _ _ _, OwnL.nil _ _⟩
      have hEl : ∀ b, ownBlk (.slice AE k cE) b → b < wr.heap.size := fun b hb => (hF.ents.base_le hb).2
      have hgl := hF.row.lt
      have hrg := hF3.row
      obtain ⟨xE, hoE⟩ := hF3.ents.own
      rw [fullL_len] at hoE
      have HOE := Lib.hid hoE
      have hEg : ¬ ownBlk (.slice AE k cE) (w.heap.size + 1) := hoE.apart hF3.row (by decide)
      have hEa : ¬ ownBlk (.slice AE k cE) w.heap.size := hoE.apart hF3.all (by decide)
      obtain ⟨vss, g1, g2, g3⟩ := hF3.ents
      have hone := entL_one (hEN.rd (S := fun _ => True) (fun _ _ _ => trivial))
      have G1 := Lib.hid g1
      have G2 := Lib.hid g2
      have G3 := Lib.hid g3
      have RE := Lib.hid rE
      have HEN := Lib.hid hEN
      have HEL := Lib.hid hEl
      have HONE := Lib.hid hone
      have HF := Lib.hid hF3
      have HX := Lib.hid hx3
      have HSZ := Lib.hid hsz3
      have hcv := conv3 k wr
      have hky := fullK_is k
      clear hF hx hxa hxb hxc g1 g2 g3 rE rM hEN hEl hone hF3 hx3 hoE hsz3
      go_wp2_with (at_builtin; refine wpList_append_Own rfl (.tmp 41) (.tmp 46) 27 rfl w.heap.size 37 7 120 zeroEnt Tryz.underlying27 info_entry rfl (by omega) (.slice AE k cE) k vss.flatten rfl (by have h := G3.out; rw [fullL_len] at h; exact h) (some ⟨wr.heap.size + 1 + 1, 0, none⟩) 1 1 (entL (fullE k) (.slice (some ⟨wr.heap.size + 1, 0, none⟩) 1 1) (.slice none 0 0) (.slice none 0 0)) rfl ⟨by simp, HONE.out, fun _ => ⟨wr.heap.size + 1 + 1, 0, rfl, fun j u hj => by rw [Nat.zero_add]; exact RE.out.cell hj⟩⟩ (by omega) (by omega) (by simp; omega) ?_; intro v' w' hown hgr; obtain ⟨AF, cF, rfl, -, -⟩ := hown.form; have hmv := Grew.moved (Ext.refl _) hgr; have hgW := hrg.mvR hmv.mv hEg; have hc := hgW.cell (j := 1) rfl; have hf := hgW.frozen 1; clear hgW hmv)
      have hmv := Grew.moved (Ext.refl _) hgr
      have hgW := hrg.mvR hmv.mv hEg
      have haW := HF.out.all.mvR hmv.mv hEa
      have hrow := RowE.snoc (g := w.heap.size + 1) (base := w.heap.size) G1.out G2.out HEN.out HEL.out hgl (by omega) (by rw [fullL_len]; exact hown) hgr
      have hlow : ∀ b, ownBlk (.slice AE k cE) b → w.heap.size ≤ b := fun b hb => by
        have := HOE.out.base_le hb
        omega
      have hxW := HX.out.moved hmv hlow
      have hS := hgW.set (j := 1) (by simp) (.slice AF (k + 1) cF)
      simp only [List.set_cons_succ, List.set_cons_zero] at hS
      go_roundw
      case rel => exact ⟨k + 1, _, by omega, by simp, ⟨hS, haW.other (by simp) _, by rw [fullL_succ]; exact hrow.set hgW (by decide)⟩, hxW.set (p := ⟨w.heap.size + 1, 1, none⟩) (by simp) _⟩
      case measure => simp [intOf]; omega
    · obtain rfl : k = n := by omega
      obtain ⟨AE, cE, rfl, -, -⟩ := hF.ents.form
      rw [fullL_len] at *
      have hst : StAt wr (fun _ => True) (fullS k) (.slice (some ⟨w.heap.size, 0, none⟩) 1 1) (.slice AE k cE) (.slice none 0 0) :=
        ⟨(own_slMark (l := [([49], 1)]) (own_mark1 (m := ([49], 1)) hF.all (Nat.le_refl _))).mono (by decide) (fun _ _ _ => trivial), OwnL.sl hF.ents (by decide) (fun _ _ _ => trivial) (fun _ _ _ => trivial), Sl.nil _ _ (by decide)⟩
      obtain ⟨F1, F2, F3⟩ := full_all hn1 hn2
      have hsm := small_fullS hn2
      have C1 := Lib.hid (updS_any [49] opZ (by decide) (by decide) hst hsm)
      have rr0 := hF.row
      have c0 := rr0.cell (j := 0) rfl
      have c1 := rr0.cell (j := 1) rfl
      have c2 := rr0.cell (j := 2) rfl
      have HST := Lib.hid hst
      have HR0 := Lib.hid rr0
      have HSM := Lib.hid hsm
      have F2' := Lib.hid F2
      have F3' := Lib.hid F3
      have HX := Lib.hid hx
      clear hF hst rr0 hsm F2 F3 hx hk hlt
      by_cases h256 : k < 256
      case' pos =>
        rw [if_pos h256] at F1
        have hi : (k : Int) < 256 := by omega
      case' neg =>
        rw [if_neg h256] at F1
        have hi : ¬ (k : Int) < 256 := by omega
        have hid : decide ((k : Int) < 256) = false := decide_eq_false hi
        have hge : ¬ k < 256 := h256
      all_goals
        have F1' := Lib.hid F1
        clear F1 h256
        go_wp2_with fail
        refine C1.out.mono ?_
        rintro r V ⟨u1, u2, u3, rfl, hS, hxV⟩
        rw [F1'.out]
        generalize (updS (fullS k) [49] opZ).1 = s1 at *
        obtain ⟨U1, v1, rfl, -, -⟩ := hS.all.form
        obtain ⟨U2, v2, rfl, -, -⟩ := hS.entries.form
        obtain ⟨U3, v3, rfl, -, -⟩ := hS.pruned.form
        have hxa := (Ext.refl V).alloc (.cells #[.slice U1 s1.all.length v1, .slice U2 s1.entries.length v2, .slice U3 s1.pruned.length v3] 30)
        have C2 := Lib.hid (updS_any [49] opF (by decide) (by decide) ((HST.out.ext hxV).ext hxa) HSM.out)
        have hr1 := (HR0.out.ext hxV).ext hxa
        have d0 := hr1.cell (j := 0) rfl
        have d1 := hr1.cell (j := 1) rfl
        have d2 := hr1.cell (j := 2) rfl
        have HX1 := Lib.hid ((HX.out.trans hxV).trans hxa)
        clear c0 c1 c2 C1 F1' hxV hxa hr1 hS HR0
        go_wp2_with fail
        refine C2.out.mono ?_
        rintro r Z ⟨u1, u2, u3, rfl, hS, hxZ⟩
        rw [F2'.out]
        have hF3 := F3'.out
        generalize (updS (fullS k) [49] opF).1 = s2 at *
        obtain ⟨X1, y1', rfl, -, -⟩ := hS.all.form
        obtain ⟨X2, y2', rfl, -, -⟩ : ∃ A c, u2 = Value.slice A k c ∧ k ≤ c ∧ c ≤ 9223372036854775807 := by have h := hS.entries.form; rw [hF3] at h; exact h
        obtain ⟨X3, y3', rfl, -, -⟩ := hS.pruned.form
        have HX2 := Lib.hid (HX1.out.trans hxZ)
        clear d0 d1 d2 C2 F2' F3' hF3 hxZ hS HST
        go_wp2_with fail
        refine (alive_any _).mono ?_
        rintro r Y ⟨rfl, hxY⟩
        go_wp2_with fail
        go_ret
        exact ⟨rfl, (HX2.out.alloc _).trans hxY⟩
end Go.Proofs.YtdikcgmdmcfpfaaGreat
