/- gossamerref10: Chain, Under at paths. -/
import Derived.Test.YtblkikjmocnllaaGreatDoorQv31
set_option linter.unusedVariables false
set_option linter.unusedSimpArgs false
set_option linter.unusedSectionVars false
namespace Go.Proofs.YtblkikjmocnllaaGreatDoor
open Go.RowKit Go.Shelf

set_option maxRecDepth 100000 in
set_option maxHeartbeats 1000000 in
theorem refChain_any {p : Str} (hm : mayP p = true) (hp : p.length < 4294967296) (w : World) : Calls Tryz.prog 92 #[St p] w fun e w' => ∃ v, e = .returned v ∧ Own w' w.heap.size 9 1 v (chainP p).length ((chainP p).map St) ∧ Ext w w' := by
  have H := Lib.hid (fun (q : Str) (h : mayP q = true) (h2 : q.length ≤ p.length) W => refParent_any h (by omega) W)
  have HL := chainP_len p
  have hC := chainP_rest p
  have hps := parP_len p
  have HM := Lib.hid hm
  have HMA := Lib.hid (mayP_par hm)
  clear hm
  go_enter Tryz.func92, Tryz.ntmps92
  go_wp2_with fail
  refine (H.out p HM.out (Nat.le_refl _) _).mono ?_
  rintro e w1 ⟨rfl, hx1⟩
  generalize parP p = a0 at *
  go_wp2
  go_loopw [0, 3] (fun av lv wr => ∃ done cur, chainP p = done ++ restC cur ∧ av = St cur ∧ Hid (cur = [] ∨ mayP cur = true) ∧ cur.length ≤ p.length ∧ Own wr w.heap.size 9 1 lv done.length (done.map St) ∧ Ext w wr)
    (fun av _ _ => match av with | .string s => s.size | _ => 0)
  case atStart => exact ⟨[], a0, by rw [hC]; rfl, rfl, HMA, hps, Own.nil _ _ _ _ _, hx1⟩
  case round =>
    obtain ⟨done, cur, hd, rfl, hmc, hl, ho, hx⟩ := hrel
    obtain ⟨A, c, rfl, hnc, hcm⟩ := ho.form
    cases cur with
    | nil =>
      have HD := Lib.hid (show chainP p = done by rw [hd]; simp [restC])
      have HO := Lib.hid ho
      have HX := Lib.hid hx
      clear hd ho hx hC hx1
      go_wp2
      go_ret
      exact ⟨_, rfl, by rw [HD.out]; exact HO.out, HX.out⟩
    | cons b r =>
      have hmb : mayP (b :: r) = true := hmc.out.resolve_left (by simp)
      have hd' : chainP p = (done ++ [b :: r]) ++ restC (parP (b :: r)) := by rw [hd, restC, if_neg (by simp), chainP_rest, List.append_assoc]; rfl
      have hlen : done.length + 1 ≤ p.length := by rw [hd'] at HL; simp at HL; omega
      have hsh := parP_short (p := b :: r) (by simp)
      have HP := Lib.hid (H.out (b :: r) hmb hl)
      have HMB := Lib.hid (mayP_par hmb)
      have HD := Lib.hid hd'
      clear hd hd' hC hx1 hmb
      have e0 : ((b :: r) != ([] : Str)) = true := by simp
      have hbase := hx.size
      go_wp2_with (at_builtin; refine wpList_append_Own rfl (.tmp 10) (.tmp 12) 56 rfl w.heap.size 9 1 16 (St []) Tryz.underlying56 info_str rfl (by omega) _ done.length (done.map St) rfl (ho.alloc _) _ 1 1 [St (b :: r)] rfl (Src.new rfl (by intro u hu; simp at hu; subst hu; rfl)) (by omega) (by omega) (by simp; omega) ?_; intro v' w' hown hgr)
      refine (HP.out _).mono ?_
      rintro e w2 ⟨rfl, hx2⟩
      have HO := Lib.hid ((show Own w' w.heap.size 9 1 v' (done ++ [b :: r]).length ((done ++ [b :: r]).map St) by simpa using hown).ext hx2)
      have HX := Lib.hid ((Ext.grewOwn (hx.alloc _) hgr (ho.alloc _) (Nat.le_refl _)).trans hx2)
      have hpl := parP_len (b :: r)
      go_wp2
      go_roundw
      case rel => exact ⟨done ++ [b :: r], parP (b :: r), HD.out, rfl, HMB, by omega, HO.out, HX.out⟩
      case measure => simp [ByteArray.size] at hsh ⊢; omega

set_option maxRecDepth 100000 in
set_option maxHeartbeats 1000000 in
theorem refUnder_any {p : Str} (hm : mayP p = true) (hp : p.length < 4294967296) (a : Str) (w : World) : Calls Tryz.prog 33 #[St p, St a] w fun e w' => e = .returned (.bool (decide (a ∈ chainP p))) ∧ Ext w w' := by
  obtain ⟨K, hK⟩ : ∃ K, decide (a ∈ chainP p) = K := ⟨_, rfl⟩
  rw [hK]
  have HC := Lib.hid (refChain_any hm hp w)
  have HL := chainP_len p
  have HK := Lib.hid hK
  clear hm hK
  generalize chainP p = L at *
  go_enter Tryz.func33, Tryz.ntmps33
  go_wp2_with fail
  refine HC.out.mono ?_
  rintro e w1 ⟨v, rfl, ho, hx⟩
  obtain ⟨A, c, rfl, -, -⟩ := ho.form
  have HO := Lib.hid ho
  have HX := Lib.hid hx
  clear ho hx HC
  go_wp2_with fail
  go_loopw [6] (fun i wr => ∃ pre post, L = pre ++ post ∧ i = I pre.length ∧ Hid (decide (a ∈ post) = K) ∧ w1 = wr) (fun i _ => L.length - (intOf i).toNat)
  case atStart => exact ⟨[], L, rfl, rfl, HK, rfl⟩
  case round =>
    obtain ⟨pre, post, hl, rfl, hk, rfl⟩ := hrel
    cases post with
    | nil =>
      have HF := Lib.hid (show false = K by rw [← hk.out]; rfl)
      rw [List.append_nil] at hl
      subst hl
      clear hk
      go_wp2_with fail
      go_ret
      exact ⟨by rw [← HF.out]; rfl, HX.out⟩
    | cons s post =>
      have hlt : pre.length < L.length := by rw [hl]; simp
      obtain ⟨g, cap, tail, e0, -, hr, -⟩ := HO.out.row (by omega)
      cases e0
      have cs : w1.cell? ⟨g, pre.length, none⟩ = some (St s) := hr.cell (by rw [hl]; simp)
      have HLL := Lib.hid hl
      clear hl hr
      by_cases hs : s = a
      · have g1 : (s == a) = true := by simpa using hs
        have HF := Lib.hid (show true = K by rw [← hk.out, hs]; simp)
        clear hk hs
        go_wp2_with fail
        go_ret
        exact ⟨by rw [← HF.out]; rfl, HX.out⟩
      · have g1 : (s == a) = false := by simpa using hs
        have HF := Lib.hid (show decide (a ∈ post) = K by
          rw [← hk.out]
          have : ¬ a = s := fun e => hs e.symm
          simp [this])
        clear hk hs
        go_wp2_with fail
        go_roundw
        case rel => exact ⟨pre ++ [s], post, by rw [HLL.out]; simp, by simp, HF, by first | rfl | trivial⟩
        case measure => simp [intOf]; omega
end Go.Proofs.YtblkikjmocnllaaGreatDoor
