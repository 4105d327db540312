/- gossamerlaw20.MemberPaths: the walk. -/
import Derived.Test.YtblkikjmocnllaaGreatDoorQw02
import Derived.Test.YtblkikjmocnllaaGreatDoorQv28
set_option linter.unusedVariables false
set_option linter.unusedSimpArgs false
set_option linter.unusedSectionVars false
namespace Go.Proofs.YtblkikjmocnllaaGreatDoor
open Go.RowKit Go.Shelf

set_option maxRecDepth 100000 in
set_option maxHeartbeats 8000000 in
theorem paths_walk {S : Nat → Prop} {v : Value} {l : List DeedP} {w : World} (hv : Sl deedPT w S v l) (hd : ∀ a ∈ l, DeedPOk a) (ht : Pow w) :
    Calls Tryz.prog 5 #[v] w fun e w' => e = .returned (.bool true) ∧ Ext w w' := by
  have HAL := Lib.hid (fun W (he : Ext w W) => alive20_any W (ht.below he))
  have HT := Lib.hid (fun W (he : Ext w W) => ht.below he)
  have HD := Lib.hid hd
  have HV := Lib.hid hv
  obtain ⟨A, c, rfl, -, -⟩ := hv.form
  clear hv hd ht
  by_cases h100 : l.length ≤ 100
  case neg =>
    have e1 : (l.length : Int) > 100 := by omega
    go_enter Tryz.func5, Tryz.ntmps5
    go_wp2_with fail
    refine (HAL.out _ (Ext.refl w)).mono ?_
    rintro e wz ⟨rfl, hz⟩
    go_wp2_with fail
    go_ret
    exact ⟨rfl, hz⟩
  have e1 : ¬ (l.length : Int) > 100 := by omega
  have HBG := Lib.hid (begin_any w)
  go_enter Tryz.func5, Tryz.ntmps5
  go_wp2_with fail
  refine HBG.out.mono ?_
  rintro e w1 ⟨vb, rfl, hb, hx1⟩
  obtain ⟨B0, b0, rfl, -, -⟩ := hb.form
  have hxa := (Ext.refl w1).alloc (.cells #[.slice B0 [mbrB].length b0] 22)
  have hxb := hxa.alloc (.cells #[St [49]] 9)
  have hm0 : PMem ((w1.alloc (.cells #[.slice B0 [mbrB].length b0] 22)).alloc (.cells #[St [49]] 9)) w.heap.size w1.heap.size 1 (w1.heap.size + 1) 1 [.slice B0 [mbrB].length b0] [] [] [[mbrB]] [[49]] := by
    have hsz : (w1.alloc (.cells #[.slice B0 [mbrB].length b0] 22)).heap.size = w1.heap.size + 1 := by simp
    have r2 := rowNew (w1.alloc (.cells #[.slice B0 [mbrB].length b0] 22)) 9 [St [49]]
    rw [hsz] at r2
    have r1 := (rowNew w1 22 [.slice B0 [mbrB].length b0]).alloc (.cells #[St [49]] 9)
    refine ⟨r1, r2, ⟨rfl, by decide⟩, ⟨rfl, by decide⟩, ⟨hx1.size, Nat.le_succ_of_le hx1.size, by omega⟩, rfl, fun i u m hu hm => ?_⟩
    have hi : i = 0 := by have := (List.getElem?_eq_some_iff.1 hm).1; simp at this; omega
    subst hi
    simp at hu hm
    subst hu hm
    exact (hb.mono (S' := fun b => b < w1.heap.size) (by decide) fun b hb _ => hb).ext (by decide) hxb |>.mono (by decide) fun b _ hb => ⟨by omega, by omega⟩
  have HM0 := Lib.hid hm0
  have HX0 := Lib.hid (hx1.trans hxb)
  clear hb hx1 hxa hxb hm0 HBG
  go_wp2_with fail
  go_loopw [3, 4, 5] (fun va vw i wr => ∃ (pre post : List DeedP) (all : List (List Mbr)) (who : List Str) (ga ca gw cw : Nat) (vs ta tw : List Value), l = pre ++ post ∧ i = I pre.length ∧ va = .slice (some ⟨ga, 0, none⟩) all.length ca ∧ vw = .slice (some ⟨gw, 0, none⟩) all.length cw ∧ Hid (PathsOk all who) ∧ all.length ≤ pre.length + 1 ∧ Hid (PMem wr w.heap.size ga ca gw cw vs ta tw all who) ∧ Ext w wr) (fun _ _ i _ => l.length - (intOf i).toNat)
  case atStart => exact ⟨[], l, [[mbrB]], [[49]], _, 1, _, 1, _, _, _, rfl, rfl, rfl, rfl, Lib.hid paths_begin, Nat.le_refl _, Lib.hid HM0.out, HX0.out⟩
  case round =>
    obtain ⟨pre, post, all, who, ga, ca, gw, cw, vs, ta, tw, hl, rfl, rfl, rfl, HP, hn, HM, hx⟩ := hrel
    have HX := Lib.hid hx
    cases post with
    | nil =>
      rw [List.append_nil] at hl
      subst hl
      clear hx hn
      go_wp2_with fail
      refine (HAL.out _ HX.out).mono ?_
      rintro e wz ⟨rfl, hz⟩
      go_wp2_with fail
      go_ret
      exact ⟨rfl, HX.out.trans hz⟩
    | cons d post =>
      have hlt : pre.length < l.length := by rw [hl]; simp
      obtain ⟨b, of, ⟨cc, hA⟩, d0, d1, d2⟩ := deedP_at HV.out hx hl
      cases hA
      have HL := Lib.hid hl
      obtain ⟨hd0, hd1, hd2⟩ := HD.out d (by rw [hl]; simp)
      have q1 : (d.n : Int) < 256 := by omega
      have q2 : (d.other : Int) < 256 := by omega
      have q3 : (d.do_ : Int) < 256 := by omega
      have hpos := HP.out.pos
      obtain ⟨n, hna⟩ : ∃ n, all.length = n := ⟨_, rfl⟩
      rw [hna] at hn hpos ⊢
      obtain ⟨k, hkd⟩ : ∃ k, d.n % n = k := ⟨_, rfl⟩
      obtain ⟨j, hjd⟩ : ∃ j, d.other % n = j := ⟨_, rfl⟩
      have hkn : k < n := by rw [← hkd]; exact Nat.mod_lt _ hpos
      have hjn : j < n := by rw [← hjd]; exact Nat.mod_lt _ hpos
      have hn101 : n ≤ 101 := by omega
      have hnz : ¬ n = 0 := by omega
      have i1 : (d.n : Int).tmod (n : Int) = (k : Int) := by rw [Int.tmod_eq_emod_of_nonneg (by omega), ← hkd]; omega
      have i2 : (d.other : Int).tmod (n : Int) = (j : Int) := by rw [Int.tmod_eq_emod_of_nonneg (by omega), ← hjd]; omega
      obtain ⟨lk, hk⟩ : ∃ lk, all[k]? = some lk := ⟨_, List.getElem?_eq_getElem (by omega)⟩
      obtain ⟨p, hp⟩ := HP.out.who_at hk
      obtain ⟨vk, hvk, ck, sk⟩ := HM.out.get hk
      obtain ⟨Ak, nk, rfl, -, -⟩ := sk.form
      have cp := HM.out.name hp
      have hlk := List.mem_of_getElem? hk
      have TL := Lib.hid (HP.out.tame lk hlk)
      have hll := HP.out.len_le hlk
      have hl1 : lk.length ≤ 1000 := by omega
      have SK := Lib.hid sk
      have HK := Lib.hid hk
      have HPW := Lib.hid hp
      have HN := Lib.hid hna
      clear hkd hjd hl hx sk hk hp hlk hvk hna
      obtain ⟨dd, hdd⟩ : ∃ dd, d.do_ % 4 = dd := ⟨_, rfl⟩
      have i3 : (d.do_ : Int).tmod 4 = (dd : Int) := by rw [Int.tmod_eq_emod_of_nonneg (by omega)]; omega
      have hd4 : dd = 0 ∨ dd = 1 ∨ dd = 2 ∨ dd = 3 := by omega
      clear hdd
      have HXR := Lib.hid (Ext.refl wr)
      rcases hd4 with rfl | rfl | rfl | rfl
      case' inl =>
        as_aux_lemma =>
          have hlow : ∀ x ∈ lk, x.path.length < 3000000000 := fun x hx => by have := TL.out.plen hx; omega
          have hkds : ∀ x ∈ lk, (-9223372036854775808 : Int) ≤ x.kids := fun x hx => by have := (TL.out.each x hx).kids; omega
          have HAD := Lib.hid (fun W (he : Ext wr W) => admit_any (SK.out.ext (by decide) he) (TL.out.small hl1) hlow hkds p (HT.out W (HX.out.trans he)))
          clear hlow hkds
          go_wp2_with fail
          rename_i K1 hK1 K0 hK0
          have HK1 := Lib.hid hK1
          have HK0 := Lib.hid hK0
          clear hK1 hK0
          refine wp_region_cut (by kernel_rfl) ?_
          change wpAny _ _ _ _ _ _ _ wr.drew
          replace ck := HXR.out.drew.cell ck
          replace cp := HXR.out.drew.cell cp
          refine wpAny_still (k := 0) (n := 8) (by kernel_rfl) (by decide) ?_
          simp only [List.drop_zero, List.drop_succ_cons, List.take_succ_cons, List.take_zero, List.take_nil, Nat.reduceSub, List.drop_nil]
          generalize hA : Act.mk _ _ = A0; repeat (refine wpStill_step (fun K2 hK2 => ?_); subst hA; go_simp; (try rw [if_neg (by decide)]); generalize hA : Act.mk _ _ = A0; refine hK2 A0 ?_; clear hK2 K2)
          refine wpStill_nil ?_
          subst hA
          refine wpAny_next (k := 8) 9 (by decide) (by decide) (by kernel_rfl) ?_
          simp only [List.drop_zero, List.drop_succ_cons, List.take_succ_cons, List.take_zero, List.take_nil, Nat.reduceSub, List.drop_nil]
          go_wp2_with fail
          refine (HAD.out _ HXR.out.drew).mono ?_
          rintro e w2 ⟨v2, rfl, s2, hx2⟩
          obtain ⟨A2, n2, rfl, -, -⟩ := s2.form
          have HX2 := Lib.hid (HXR.out.drew.trans hx2)
          go_wp2_with fail
          refine wpAny_still (k := 9) (n := 15) (by kernel_rfl) (by decide) ?_
          simp only [List.drop_zero, List.drop_succ_cons, List.take_succ_cons, List.take_zero, List.take_nil, Nat.reduceSub, List.drop_nil]
          generalize hA : Act.mk _ _ = A0; repeat (refine wpStill_step (fun K2 hK2 => ?_); subst hA; go_simp; (try rw [if_neg (by decide)]); generalize hA : Act.mk _ _ = A0; refine hK2 A0 ?_; clear hK2 K2)
          refine wpStill_nil ?_
          subst hA
          refine wpAny_last (k := 15) (by kernel_rfl) ?_
          simp only [List.drop_zero, List.drop_succ_cons, List.take_succ_cons, List.take_zero, List.take_nil, Nat.reduceSub, List.drop_nil]
          go_wp2_with fail
          refine HK0.out _ _ ?_
          replace ck := hx2.cell ck
          clear HK0 K0 cp HAD hx2
          rcases hum : admitM lk p with ⟨m, ch, ee⟩
          rw [hum] at s2
          simp only at s2 ⊢
          by_cases he0 : ee = 0
          case neg =>
            have g1 : ((ee : Int) != 0) = true := by rw [bne_iff_ne]; omega
            clear hum s2
            go_wp2_with fail
            go_roundw
            case rel => exact ⟨pre ++ [d], post, all, who, _, _, _, _, _, _, _, by rw [HL.out]; simp, by simp, by rw [HN.out], by rw [HN.out], Lib.hid HP.out, by rw [HN.out]; simp; omega, Lib.hid (HM.out.ext HX2.out), HX.out.trans HX2.out⟩
            case measure => simp [intOf]; omega
          case pos =>
            subst he0
            obtain ⟨hf, hpar, hcm, hcl, hpo⟩ := HP.out.letIn HK.out HPW.out hum
            have HF := Lib.hid hf
            have HPR := Lib.hid hpar
            have HPAR := Lib.hid (fun W => refParent_any (p := ch) hcm (by omega) W)
            rw [hpar] at HPAR
            have HPO := Lib.hid hpo
            have HS2 := Lib.hid s2
            have hwl : who.length = n := by rw [← HP.out.len]; exact HN.out
            have HWL := Lib.hid hwl
            have HM2 := Lib.hid (HM.out.ext HX2.out)
            have HW2 := Lib.hid (Ext.refl w2)
            have g1 : ((0 : Int) != 0) = false := rfl
            clear hum s2 hf hpar hpo hcm hwl
            go_wp2_with fail
            obtain ⟨w0, rfl⟩ : ∃ x, x = wr := ⟨_, rfl⟩
            go_loopw [10] (fun jv wr' => ∃ q : Nat, jv = I q ∧ q ≤ n ∧ w2 = wr') (fun jv _ => n - (intOf jv).toNat)
            case atStart => exact ⟨0, rfl, Nat.zero_le _, rfl⟩
            case round =>
              obtain ⟨q, rfl, hqn, rfl⟩ := hrel
              by_cases hq : q < n
              case pos =>
                obtain ⟨pq, hpq⟩ : ∃ pq, who[q]? = some pq := ⟨_, List.getElem?_eq_getElem (by rw [HWL.out]; exact hq)⟩
                have cq := HM2.out.name hpq
                have hne : (pq == ch) = false := by
                  rw [beq_eq_false_iff_ne]
                  rintro rfl
                  exact HF.out (List.mem_of_getElem? hpq)
                clear hpq
                go_wp2_with fail
                go_roundw
                case rel => exact ⟨q + 1, by simp, by omega, by first | rfl | trivial⟩
                case measure => simp [intOf]; omega
              case neg =>
                obtain rfl : n = q := by omega
                have hga := HM.out.a.lt
                have hgw := HM.out.w.lt
                have hst : PMem (w2.setCell ⟨ga, k, none⟩ (.slice A2 m.length n2)) w.heap.size ga ca gw cw (vs.set k (.slice A2 m.length n2)) ta tw (all.set k m) who := HM2.out.set (by rw [HN.out]; exact hkn) (n := w0.drew.heap.size) ⟨hga, hgw⟩ HS2.out
                have hs3 : Sl mbrT (w2.setCell ⟨ga, k, none⟩ (.slice A2 m.length n2)) (fun b => w0.drew.heap.size ≤ b) (.slice A2 m.length n2) m := HS2.out.keep (by decide) (fun b hb _ => Below.heap_setCell w2 ⟨ga, k, none⟩ _ b (show b ≠ ga from fun e => by have hga' : ga < w0.drew.heap.size := hga; omega))
                have HM3 := Lib.hid hst
                have HX3 := Lib.hid (show Ext w (w2.setCell ⟨ga, k, none⟩ (.slice A2 m.length n2)) from Ext.set (HX.out.trans HX2.out) (p := ⟨ga, k, none⟩) HM.out.bl.1 _)
                have HN3 := Lib.hid (show (all.set k m).length = n by rw [List.length_set]; exact HN.out)
                have hmm : m ∈ all.set k m ++ [m] := by simp
                have hml := HPO.out.len_le hmm
                have HCP := Lib.hid (copyM_any hs3 ((HPO.out.tame m hmm).small (by rw [List.length_append, HN3.out, List.length_singleton] at hml; omega)))
                have f1 := HM2.out.a.frozen k
                clear hga hgw hst hs3 hmm hml hq
                go_wp2_with fail
                generalize w2.setCell ⟨ga, k, none⟩ (.slice A2 m.length n2) = w3 at *
                refine HCP.out.mono ?_
                rintro e w4 ⟨v4, rfl, hc4, hx4⟩
                have hs4 := hc4.sl
                obtain ⟨A4, n4, rfl, -, -⟩ := hs4.form
                have hxa := (Ext.refl w4).alloc (.cells #[.slice A4 m.length n4] 22)
                have HM5 := Lib.hid ((HM3.out.ext hx4).ext hxa)
                have HX5 := Lib.hid ((HX3.out.trans hx4).trans hxa)
                have HS5 := Lib.hid (hs4.ext (by decide) hxa)
                have HG5 := Lib.hid (show ga < w3.heap.size ∧ gw < w3.heap.size from ⟨HM3.out.a.lt, HM3.out.w.lt⟩)
                have hn24 : (n + 1) * 24 ≤ 140737488355328 := by omega
                have hn16 : (n + 1) * 16 ≤ 140737488355328 := by omega
                clear hc4 hs4 hx4 hxa HCP f1 ck
                go_wp2_with (first
                  | (at_builtin; refine wpList_append_Own rfl (.tmp 96) (.tmp 99) 55 rfl w.heap.size 22 1 24 (.slice none 0 0) Tryz.underlying55 info_mbrs rfl (by omega) _ n _ rfl (HM5.out.ownA HN3.out) _ 1 1 [.slice A4 m.length n4] rfl (Src.new rfl (by intro u hu; rw [List.mem_singleton.1 hu]; rfl)) hn24 (by omega) HX5.out.size ?_; intro v6 w6 hown hgr; obtain ⟨ga', ca', ta', rfl, hm6, -⟩ := HM5.out.pushA' HN3.out HX5.out.size hown hgr HG5.out HS5.out; have HX6 := Lib.hid (HM5.out.extA HX5.out (Nat.le_refl _) hgr); have HM6 := Lib.hid hm6; clear hown hgr hm6)
                  | (at_builtin; refine wpList_append_Own rfl (.tmp 101) (.tmp 103) 56 rfl w.heap.size 9 1 16 (St []) Tryz.underlying56 info_str rfl (by omega) _ n _ rfl ((HM6.out.ext ((Ext.refl w6).alloc (.cells #[St ch] 9))).ownW HWL.out) _ 1 1 [St ch] rfl (Src.new rfl (by intro u hu; rw [List.mem_singleton.1 hu]; rfl)) hn16 (by omega) (HX6.out.alloc (.cells #[St ch] 9)).size ?_; intro v8 w8 hown hgr; obtain ⟨gw', cw', tw', rfl, hm8, -⟩ := (HM6.out.ext ((Ext.refl w6).alloc (.cells #[St ch] 9))).pushW' HWL.out hown hgr; have HX8 := Lib.hid ((HM6.out.ext ((Ext.refl w6).alloc (.cells #[St ch] 9))).extW (HX6.out.alloc _) (Nat.le_refl _) hgr); have HM8 := Lib.hid hm8; clear hown hgr hm8))
                obtain ⟨n1, hn1⟩ : ∃ n1, n + 1 = n1 := ⟨_, rfl⟩
                have HN1 := Lib.hid (show (all.set k m ++ [m]).length = n1 by rw [List.length_append, HN3.out, List.length_singleton]; exact hn1)
                have hkn2 : k < n1 := by omega
                have hlw : n1 ≤ pre.length + 2 := by omega
                have hpk : (who ++ [ch])[k]? = some p := by rw [List.getElem?_append_left (by rw [HWL.out]; exact hkn)]; exact HPW.out
                have cp := HM8.out.name hpk
                have g5 : (p == p) = true := by simp
                rw [hn1]
                clear hpk hn24 hn16
                refine wp_region_facts [fun v _ => v = St ch, fun v _ => v = St p, fun v _ => v = .slice (some ⟨gw', 0, none⟩) n1 cw', fun v _ => v = I k, fun v _ => v = (.pointer (some ⟨gw', k, none⟩)), fun v _ => v = St p] rfl (by kernel_rfl) ?hR ?hstep ?hend
                case hR =>
                  simp only [List.mem_cons, List.not_mem_nil, or_false, forall_eq_or_imp, forall_eq]
                  exact ⟨fun v _ _ h _ => h, fun v _ _ h _ => h, fun v _ _ h _ => h, fun v _ _ h _ => h, fun v _ _ h _ => h, fun v _ _ h _ => h⟩
                case hstep =>
                  simp only [List.length_cons, List.length_nil, Nat.reduceAdd, List.take_succ_cons, List.take_zero, stepsAll, and_true]
                  refine ⟨?_, ?_, ?_, ?_, ?_, ?_⟩
                  · intro x W he f
                    have h0 : x 8 = St ch := f.1
                    go_wp
                    exact stepQ_ok rfl (Ext.refl _)
                  · intro x W he f
                    have h0 : x 105 = St ch := f.1
                    go_wp
                    refine (HPAR.out _).mono ?_
                    rintro r W3 ⟨rfl, hx3⟩
                    dsimp only
                    go_wp
                    exact stepQ_ok rfl hx3
                  · intro x W he f
                    have h0 : x 4 = .slice (some ⟨gw', 0, none⟩) n1 cw' := f.1
                    go_wp
                    exact stepQ_ok rfl (Ext.refl _)
                  · intro x W he f
                    have h0 : x 6 = I k := f.1
                    go_wp
                    exact stepQ_ok rfl (Ext.refl _)
                  · intro x W he f
                    have h0 : x 107 = .slice (some ⟨gw', 0, none⟩) n1 cw' := f.1
                    have h1 : x 108 = I k := f.2.1
                    go_wp
                    exact stepQ_ok rfl (Ext.refl _)
                  · intro x W he f
                    have h0 : x 109 = (.pointer (some ⟨gw', k, none⟩)) := f.1
                    have q0 := he.cell cp
                    go_wp
                    exact stepQ_ok rfl (Ext.refl _)
                case hend =>
                  intro x W9 hx9 f
                  have e106 : x 106 = St p := f.2.1
                  have e110 : x 110 = St p := f.2.2.2.2.2.1
                  clear f
                  have HM1 := Lib.hid (HM8.out.ext hx9)
                  have HX1 := Lib.hid (HX8.out.trans hx9)
                  have HP1 := HPO
                  clear hx9 cp HPAR HS2 HM2 HW2 HM3 HX3 HM5 HX5 HS5 HG5 HM6 HX6 HM8 HX8
                  simp only [List.length_cons, List.length_nil, Nat.reduceAdd, List.take_succ_cons, List.take_zero, List.filterMap_cons, List.filterMap_nil, List.drop_succ_cons, List.drop_zero, putAll, Act.put, List.setIfInBounds_toArray, List.set_cons_succ, List.set_cons_zero, e106, e110]
                  go_wp2_with fail
                  generalize all.set k m ++ [m] = all1 at *
                  generalize who ++ [ch] = who1 at *
                  obtain ⟨l1, hk1⟩ : ∃ l1, all1[k]? = some l1 := ⟨_, List.getElem?_eq_getElem (by have := HN1.out; omega)⟩
                  obtain ⟨p1, hp1⟩ := HP1.out.who_at hk1
                  obtain ⟨v1, hv1, c1, s1⟩ := HM1.out.get hk1
                  obtain ⟨A1, m1, rfl, -, -⟩ := s1.form
                  have c2 := HM1.out.name hp1
                  have hlm := List.mem_of_getElem? hk1
                  have T1 := Lib.hid (HP1.out.tame l1 hlm)
                  have hll1 := HP1.out.len_le hlm
                  rw [HN1.out] at hll1
                  have HMY := Lib.hid (fun W' (he : Ext W9 W') => mmay_any (s1.ext (by decide) he) (T1.out.tidy (by omega)))
                  obtain ⟨xo, hxo, hxp⟩ := HP1.out.own k l1 p1 hk1 hp1
                  have hkn1 := T1.out.known hxo
                  rw [hxp] at hkn1
                  have hpl := T1.out.plen hxo
                  rw [hxp] at hpl
                  have HKN := Lib.hid (fun W' (he : Ext W9 W') => known_any (s1.ext (by decide) he) p1 (by omega))
                  rw [hkn1.1] at HKN
                  have g2 : ((xo.status : Int) == 0) = false := by simp; have := hkn1.2; omega
                  have HXW := Lib.hid (Ext.refl W9)
                  replace c1 := HXW.out.drew.cell c1
                  replace c2 := HXW.out.drew.cell c2
                  clear hk1 hp1 hv1 s1 hlm hkn1 hxp hxo hpl
                  refine HK1.out _ _ ?_
                  clear HK1
                  try clear K1
                  refine wp_seq_k ?_
                  intro K9 hK9
                  have HK9 := Lib.hid hK9
                  clear hK9
                  refine wp_region_cut (by kernel_rfl) ?_
                  change wpAny _ _ _ _ _ _ _ W9.drew
                  refine wpAny_still (k := 0) (n := 4) (by kernel_rfl) (by decide) ?_
                  simp only [List.drop_zero, List.drop_succ_cons, List.take_succ_cons, List.take_zero, List.take_nil, Nat.reduceSub, List.drop_nil]
                  generalize hA : Act.mk _ _ = A0; repeat (refine wpStill_step (fun K2 hK2 => ?_); subst hA; go_simp; (try rw [if_neg (by decide)]); generalize hA : Act.mk _ _ = A0; refine hK2 A0 ?_; clear hK2 K2)
                  refine wpStill_nil ?_
                  subst hA
                  refine wpAny_next (k := 4) 7 (by decide) (by decide) (by kernel_rfl) ?_
                  simp only [List.drop_zero, List.drop_succ_cons, List.take_succ_cons, List.take_zero, List.take_nil, Nat.reduceSub, List.drop_nil]
                  by_cases h24 : l1.length ≤ 24
                  case pos =>
                    have g3 : (l1.length : Int) ≤ 24 := by omega
                    have hmy := HMY.out _ HXW.out.drew
                    rw [T1.out.may h24] at hmy
                    have HMZ := Lib.hid hmy
                    clear hmy HMY
                    go_wp2_with fail
                    refine wpAny_still (k := 7) (n := 9) (by kernel_rfl) (by decide) ?_
                    simp only [List.drop_zero, List.drop_succ_cons, List.take_succ_cons, List.take_zero, List.take_nil, Nat.reduceSub, List.drop_nil]
                    generalize hA : Act.mk _ _ = A0; repeat (refine wpStill_step (fun K2 hK2 => ?_); subst hA; go_simp; (try rw [if_neg (by decide)]); generalize hA : Act.mk _ _ = A0; refine hK2 A0 ?_; clear hK2 K2)
                    refine wpStill_nil ?_
                    subst hA
                    refine wpAny_next (k := 9) 15 (by decide) (by decide) (by kernel_rfl) ?_
                    simp only [List.drop_zero, List.drop_succ_cons, List.take_succ_cons, List.take_zero, List.take_nil, Nat.reduceSub, List.drop_nil]
                    go_wp2_with fail
                    refine HMZ.out.mono ?_
                    rintro e w5 ⟨rfl, hx5⟩
                    have HX5 := Lib.hid (HXW.out.drew.trans hx5)
                    replace c1 := hx5.cell c1
                    replace c2 := hx5.cell c2
                    clear hx5 HMZ
                    go_wp2_with fail
                    refine wpAny_still (k := 15) (n := 23) (by kernel_rfl) (by decide) ?_
                    simp only [List.drop_zero, List.drop_succ_cons, List.take_succ_cons, List.take_zero, List.take_nil, Nat.reduceSub, List.drop_nil]
                    generalize hA : Act.mk _ _ = A0; repeat (refine wpStill_step (fun K2 hK2 => ?_); subst hA; go_simp; (try rw [if_neg (by decide)]); generalize hA : Act.mk _ _ = A0; refine hK2 A0 ?_; clear hK2 K2)
                    refine wpStill_nil ?_
                    subst hA
                    refine wpAny_last (k := 23) (by kernel_rfl) ?_
                    simp only [List.drop_zero, List.drop_succ_cons, List.take_succ_cons, List.take_zero, List.take_nil, Nat.reduceSub, List.drop_nil]
                    go_wp2_with fail
                    refine (HKN.out _ HX5.out).mono ?_
                    rintro e w6 ⟨rfl, hx6⟩
                    have HX6 := Lib.hid (HX5.out.trans hx6)
                    clear hx6 HKN HX5
                    go_wp2_with fail
                    refine HK9.out _ _ ?_
                    clear HK9 K9
                    go_wp2_with fail
                    go_roundw
                    case rel => exact ⟨pre ++ [d], post, all1, who1, _, _, _, _, _, _, _, by rw [HL.out]; simp, by simp, by rw [HN1.out], by rw [HN1.out], Lib.hid HP1.out, by rw [HN1.out]; simp; omega, Lib.hid (HM1.out.ext HX6.out), HX1.out.trans HX6.out⟩
                    case measure => simp [intOf]; omega
                  case neg =>
                    have g3 : ¬ (l1.length : Int) ≤ 24 := by omega
                    go_wp2_with fail
                    refine wpAny_still (k := 7) (n := 9) (by kernel_rfl) (by decide) ?_
                    simp only [List.drop_zero, List.drop_succ_cons, List.take_succ_cons, List.take_zero, List.take_nil, Nat.reduceSub, List.drop_nil]
                    generalize hA : Act.mk _ _ = A0; repeat (refine wpStill_step (fun K2 hK2 => ?_); subst hA; go_simp; (try rw [if_neg (by decide)]); generalize hA : Act.mk _ _ = A0; refine hK2 A0 ?_; clear hK2 K2)
                    refine wpStill_nil ?_
                    subst hA
                    refine wpAny_next (k := 9) 15 (by decide) (by decide) (by kernel_rfl) ?_
                    simp only [List.drop_zero, List.drop_succ_cons, List.take_succ_cons, List.take_zero, List.take_nil, Nat.reduceSub, List.drop_nil]
                    go_wp2_with fail
                    refine wpAny_still (k := 15) (n := 23) (by kernel_rfl) (by decide) ?_
                    simp only [List.drop_zero, List.drop_succ_cons, List.take_succ_cons, List.take_zero, List.take_nil, Nat.reduceSub, List.drop_nil]
                    generalize hA : Act.mk _ _ = A0; repeat (refine wpStill_step (fun K2 hK2 => ?_); subst hA; go_simp; (try rw [if_neg (by decide)]); generalize hA : Act.mk _ _ = A0; refine hK2 A0 ?_; clear hK2 K2)
                    refine wpStill_nil ?_
                    subst hA
                    refine wpAny_last (k := 23) (by kernel_rfl) ?_
                    simp only [List.drop_zero, List.drop_succ_cons, List.take_succ_cons, List.take_zero, List.take_nil, Nat.reduceSub, List.drop_nil]
                    go_wp2_with fail
                    refine (HKN.out _ HXW.out.drew).mono ?_
                    rintro e w6 ⟨rfl, hx6⟩
                    have HX6 := Lib.hid (HXW.out.drew.trans hx6)
                    clear hx6 HKN HXW
                    go_wp2_with fail
                    refine HK9.out _ _ ?_
                    clear HK9 K9
                    go_wp2_with fail
                    go_roundw
                    case rel => exact ⟨pre ++ [d], post, all1, who1, _, _, _, _, _, _, _, by rw [HL.out]; simp, by simp, by rw [HN1.out], by rw [HN1.out], Lib.hid HP1.out, by rw [HN1.out]; simp; omega, Lib.hid (HM1.out.ext HX6.out), HX1.out.trans HX6.out⟩
                    case measure => simp [intOf]; omega
      case' inr.inl =>
        as_aux_lemma =>
          have HUP := Lib.hid (fun W (he : Ext wr W) => up_any (SK.out.ext (by decide) he) (TL.out.small hl1) p)
          go_wp2_with fail
          rename_i K1 hK1 K0 hK0
          have HK1 := Lib.hid hK1
          have HK0 := Lib.hid hK0
          clear hK1 hK0
          refine wp_region_cut (by kernel_rfl) ?_
          change wpAny _ _ _ _ _ _ _ wr.drew
          replace ck := HXR.out.drew.cell ck
          replace cp := HXR.out.drew.cell cp
          refine wpAny_still (k := 0) (n := 8) (by kernel_rfl) (by decide) ?_
          simp only [List.drop_zero, List.drop_succ_cons, List.take_succ_cons, List.take_zero, List.take_nil, Nat.reduceSub, List.drop_nil]
          generalize hA : Act.mk _ _ = A0; repeat (refine wpStill_step (fun K2 hK2 => ?_); subst hA; go_simp; (try rw [if_neg (by decide)]); generalize hA : Act.mk _ _ = A0; refine hK2 A0 ?_; clear hK2 K2)
          refine wpStill_nil ?_
          subst hA
          refine wpAny_next (k := 8) 9 (by decide) (by decide) (by kernel_rfl) ?_
          simp only [List.drop_zero, List.drop_succ_cons, List.take_succ_cons, List.take_zero, List.take_nil, Nat.reduceSub, List.drop_nil]
          go_wp2_with fail
          refine (HUP.out _ HXR.out.drew).mono ?_
          rintro e w2 ⟨v2, rfl, s2, hx2⟩
          obtain ⟨A2, n2, rfl, -, -⟩ := s2.form
          have HX2 := Lib.hid (HXR.out.drew.trans hx2)
          go_wp2_with fail
          refine wpAny_still (k := 9) (n := 13) (by kernel_rfl) (by decide) ?_
          simp only [List.drop_zero, List.drop_succ_cons, List.take_succ_cons, List.take_zero, List.take_nil, Nat.reduceSub, List.drop_nil]
          generalize hA : Act.mk _ _ = A0; repeat (refine wpStill_step (fun K2 hK2 => ?_); subst hA; go_simp; (try rw [if_neg (by decide)]); generalize hA : Act.mk _ _ = A0; refine hK2 A0 ?_; clear hK2 K2)
          refine wpStill_nil ?_
          subst hA
          refine wpAny_last (k := 13) (by kernel_rfl) ?_
          simp only [List.drop_zero, List.drop_succ_cons, List.take_succ_cons, List.take_zero, List.take_nil, Nat.reduceSub, List.drop_nil]
          go_wp2_with fail
          refine HK0.out _ _ ?_
          replace ck := hx2.cell ck
          clear HK0 K0 cp HUP hx2
          rcases hum : upM lk p with ⟨m, ee⟩
          rw [hum] at s2
          simp only at s2 ⊢
          by_cases he0 : ee = 0
          case neg =>
            have g1 : ((ee : Int) == 0) = false := by simpa using he0
            clear hum s2
            go_wp2_with fail
            have HM1 := Lib.hid (HM.out.ext HX2.out)
            have HP1 := Lib.hid HP.out
            have HX1 := Lib.hid (HX.out.trans HX2.out)
            have HN1 := Lib.hid HN.out
            have hlw : n ≤ pre.length + 2 := by omega
            obtain ⟨l1, hk1⟩ : ∃ l1, all[k]? = some l1 := ⟨_, List.getElem?_eq_getElem (by have := HN1.out; omega)⟩
            obtain ⟨p1, hp1⟩ := HP1.out.who_at hk1
            obtain ⟨v1, hv1, c1, s1⟩ := HM1.out.get hk1
            obtain ⟨A1, m1, rfl, -, -⟩ := s1.form
            have c2 := HM1.out.name hp1
            have hlm := List.mem_of_getElem? hk1
            have T1 := Lib.hid (HP1.out.tame l1 hlm)
            have hll1 := HP1.out.len_le hlm
            rw [HN1.out] at hll1
            have HMY := Lib.hid (fun W' (he : Ext w2 W') => mmay_any (s1.ext (by decide) he) (T1.out.tidy (by omega)))
            obtain ⟨xo, hxo, hxp⟩ := HP1.out.own k l1 p1 hk1 hp1
            have hkn1 := T1.out.known hxo
            rw [hxp] at hkn1
            have hpl := T1.out.plen hxo
            rw [hxp] at hpl
            have HKN := Lib.hid (fun W' (he : Ext w2 W') => known_any (s1.ext (by decide) he) p1 (by omega))
            rw [hkn1.1] at HKN
            have g2 : ((xo.status : Int) == 0) = false := by simp; have := hkn1.2; omega
            have HXW := Lib.hid (Ext.refl w2)
            replace c1 := HXW.out.drew.cell c1
            replace c2 := HXW.out.drew.cell c2
            clear hk1 hp1 hv1 s1 hlm hkn1 hxp hxo hpl
            refine HK1.out _ _ ?_
            clear HK1
            try clear K1
            refine wp_seq_k ?_
            intro K9 hK9
            have HK9 := Lib.hid hK9
            clear hK9
            refine wp_region_cut (by kernel_rfl) ?_
            change wpAny _ _ _ _ _ _ _ w2.drew
            refine wpAny_still (k := 0) (n := 4) (by kernel_rfl) (by decide) ?_
            simp only [List.drop_zero, List.drop_succ_cons, List.take_succ_cons, List.take_zero, List.take_nil, Nat.reduceSub, List.drop_nil]
            generalize hA : Act.mk _ _ = A0; repeat (refine wpStill_step (fun K2 hK2 => ?_); subst hA; go_simp; (try rw [if_neg (by decide)]); generalize hA : Act.mk _ _ = A0; refine hK2 A0 ?_; clear hK2 K2)
            refine wpStill_nil ?_
            subst hA
            refine wpAny_next (k := 4) 7 (by decide) (by decide) (by kernel_rfl) ?_
            simp only [List.drop_zero, List.drop_succ_cons, List.take_succ_cons, List.take_zero, List.take_nil, Nat.reduceSub, List.drop_nil]
            by_cases h24 : l1.length ≤ 24
            case pos =>
              have g3 : (l1.length : Int) ≤ 24 := by omega
              have hmy := HMY.out _ HXW.out.drew
              rw [T1.out.may h24] at hmy
              have HMZ := Lib.hid hmy
              clear hmy HMY
              go_wp2_with fail
              refine wpAny_still (k := 7) (n := 9) (by kernel_rfl) (by decide) ?_
              simp only [List.drop_zero, List.drop_succ_cons, List.take_succ_cons, List.take_zero, List.take_nil, Nat.reduceSub, List.drop_nil]
              generalize hA : Act.mk _ _ = A0; repeat (refine wpStill_step (fun K2 hK2 => ?_); subst hA; go_simp; (try rw [if_neg (by decide)]); generalize hA : Act.mk _ _ = A0; refine hK2 A0 ?_; clear hK2 K2)
              refine wpStill_nil ?_
              subst hA
              refine wpAny_next (k := 9) 15 (by decide) (by decide) (by kernel_rfl) ?_
              simp only [List.drop_zero, List.drop_succ_cons, List.take_succ_cons, List.take_zero, List.take_nil, Nat.reduceSub, List.drop_nil]
              go_wp2_with fail
              refine HMZ.out.mono ?_
              rintro e w5 ⟨rfl, hx5⟩
              have HX5 := Lib.hid (HXW.out.drew.trans hx5)
              replace c1 := hx5.cell c1
              replace c2 := hx5.cell c2
              clear hx5 HMZ
              go_wp2_with fail
              refine wpAny_still (k := 15) (n := 23) (by kernel_rfl) (by decide) ?_
              simp only [List.drop_zero, List.drop_succ_cons, List.take_succ_cons, List.take_zero, List.take_nil, Nat.reduceSub, List.drop_nil]
              generalize hA : Act.mk _ _ = A0; repeat (refine wpStill_step (fun K2 hK2 => ?_); subst hA; go_simp; (try rw [if_neg (by decide)]); generalize hA : Act.mk _ _ = A0; refine hK2 A0 ?_; clear hK2 K2)
              refine wpStill_nil ?_
              subst hA
              refine wpAny_last (k := 23) (by kernel_rfl) ?_
              simp only [List.drop_zero, List.drop_succ_cons, List.take_succ_cons, List.take_zero, List.take_nil, Nat.reduceSub, List.drop_nil]
              go_wp2_with fail
              refine (HKN.out _ HX5.out).mono ?_
              rintro e w6 ⟨rfl, hx6⟩
              have HX6 := Lib.hid (HX5.out.trans hx6)
              clear hx6 HKN HX5
              go_wp2_with fail
              refine HK9.out _ _ ?_
              clear HK9 K9
              go_wp2_with fail
              go_roundw
              case rel => exact ⟨pre ++ [d], post, all, who, _, _, _, _, _, _, _, by rw [HL.out]; simp, by simp, by rw [HN1.out], by rw [HN1.out], Lib.hid HP1.out, by rw [HN1.out]; simp; omega, Lib.hid (HM1.out.ext HX6.out), HX1.out.trans HX6.out⟩
              case measure => simp [intOf]; omega
            case neg =>
              have g3 : ¬ (l1.length : Int) ≤ 24 := by omega
              go_wp2_with fail
              refine wpAny_still (k := 7) (n := 9) (by kernel_rfl) (by decide) ?_
              simp only [List.drop_zero, List.drop_succ_cons, List.take_succ_cons, List.take_zero, List.take_nil, Nat.reduceSub, List.drop_nil]
              generalize hA : Act.mk _ _ = A0; repeat (refine wpStill_step (fun K2 hK2 => ?_); subst hA; go_simp; (try rw [if_neg (by decide)]); generalize hA : Act.mk _ _ = A0; refine hK2 A0 ?_; clear hK2 K2)
              refine wpStill_nil ?_
              subst hA
              refine wpAny_next (k := 9) 15 (by decide) (by decide) (by kernel_rfl) ?_
              simp only [List.drop_zero, List.drop_succ_cons, List.take_succ_cons, List.take_zero, List.take_nil, Nat.reduceSub, List.drop_nil]
              go_wp2_with fail
              refine wpAny_still (k := 15) (n := 23) (by kernel_rfl) (by decide) ?_
              simp only [List.drop_zero, List.drop_succ_cons, List.take_succ_cons, List.take_zero, List.take_nil, Nat.reduceSub, List.drop_nil]
              generalize hA : Act.mk _ _ = A0; repeat (refine wpStill_step (fun K2 hK2 => ?_); subst hA; go_simp; (try rw [if_neg (by decide)]); generalize hA : Act.mk _ _ = A0; refine hK2 A0 ?_; clear hK2 K2)
              refine wpStill_nil ?_
              subst hA
              refine wpAny_last (k := 23) (by kernel_rfl) ?_
              simp only [List.drop_zero, List.drop_succ_cons, List.take_succ_cons, List.take_zero, List.take_nil, Nat.reduceSub, List.drop_nil]
              go_wp2_with fail
              refine (HKN.out _ HXW.out.drew).mono ?_
              rintro e w6 ⟨rfl, hx6⟩
              have HX6 := Lib.hid (HXW.out.drew.trans hx6)
              clear hx6 HKN HXW
              go_wp2_with fail
              refine HK9.out _ _ ?_
              clear HK9 K9
              go_wp2_with fail
              go_roundw
              case rel => exact ⟨pre ++ [d], post, all, who, _, _, _, _, _, _, _, by rw [HL.out]; simp, by simp, by rw [HN1.out], by rw [HN1.out], Lib.hid HP1.out, by rw [HN1.out]; simp; omega, Lib.hid (HM1.out.ext HX6.out), HX1.out.trans HX6.out⟩
              case measure => simp [intOf]; omega
          case pos =>
            subst he0
            have hga := HM.out.a.lt
            have hgw := HM.out.w.lt
            have hst : PMem (w2.setCell ⟨ga, k, none⟩ (.slice A2 m.length n2)) w.heap.size ga ca gw cw (vs.set k (.slice A2 m.length n2)) ta tw (all.set k m) who := (HM.out.ext HX2.out).set (by rw [HN.out]; exact hkn) (n := wr.drew.heap.size) ⟨hga, hgw⟩ s2
            have hxs : Ext w (w2.setCell ⟨ga, k, none⟩ (.slice A2 m.length n2)) := Ext.set (HX.out.trans HX2.out) (p := ⟨ga, k, none⟩) HM.out.bl.1 _
            have HM1 := Lib.hid hst
            have HX1 := Lib.hid hxs
            have HP1 := Lib.hid (HP.out.up HK.out HPW.out hum)
            have HN1 := Lib.hid (show (all.set k m).length = n by rw [List.length_set]; exact HN.out)
            have f1 := (HM.out.ext HX2.out).a.frozen k
            have hlw : n ≤ pre.length + 2 := by omega
            clear hum s2 hga hgw hst hxs
            go_wp2_with fail
            generalize w2.setCell ⟨ga, k, none⟩ (.slice A2 m.length n2) = w3 at *
            generalize all.set k m = all1 at *
            obtain ⟨l1, hk1⟩ : ∃ l1, all1[k]? = some l1 := ⟨_, List.getElem?_eq_getElem (by have := HN1.out; omega)⟩
            obtain ⟨p1, hp1⟩ := HP1.out.who_at hk1
            obtain ⟨v1, hv1, c1, s1⟩ := HM1.out.get hk1
            obtain ⟨A1, m1, rfl, -, -⟩ := s1.form
            have c2 := HM1.out.name hp1
            have hlm := List.mem_of_getElem? hk1
            have T1 := Lib.hid (HP1.out.tame l1 hlm)
            have hll1 := HP1.out.len_le hlm
            rw [HN1.out] at hll1
            have HMY := Lib.hid (fun W' (he : Ext w3 W') => mmay_any (s1.ext (by decide) he) (T1.out.tidy (by omega)))
            obtain ⟨xo, hxo, hxp⟩ := HP1.out.own k l1 p1 hk1 hp1
            have hkn1 := T1.out.known hxo
            rw [hxp] at hkn1
            have hpl := T1.out.plen hxo
            rw [hxp] at hpl
            have HKN := Lib.hid (fun W' (he : Ext w3 W') => known_any (s1.ext (by decide) he) p1 (by omega))
            rw [hkn1.1] at HKN
            have g2 : ((xo.status : Int) == 0) = false := by simp; have := hkn1.2; omega
            have HXW := Lib.hid (Ext.refl w3)
            replace c1 := HXW.out.drew.cell c1
            replace c2 := HXW.out.drew.cell c2
            clear hk1 hp1 hv1 s1 hlm hkn1 hxp hxo hpl
            refine HK1.out _ _ ?_
            clear HK1
            try clear K1
            refine wp_seq_k ?_
            intro K9 hK9
            have HK9 := Lib.hid hK9
            clear hK9
            refine wp_region_cut (by kernel_rfl) ?_
            change wpAny _ _ _ _ _ _ _ w3.drew
            refine wpAny_still (k := 0) (n := 4) (by kernel_rfl) (by decide) ?_
            simp only [List.drop_zero, List.drop_succ_cons, List.take_succ_cons, List.take_zero, List.take_nil, Nat.reduceSub, List.drop_nil]
            generalize hA : Act.mk _ _ = A0; repeat (refine wpStill_step (fun K2 hK2 => ?_); subst hA; go_simp; (try rw [if_neg (by decide)]); generalize hA : Act.mk _ _ = A0; refine hK2 A0 ?_; clear hK2 K2)
            refine wpStill_nil ?_
            subst hA
            refine wpAny_next (k := 4) 7 (by decide) (by decide) (by kernel_rfl) ?_
            simp only [List.drop_zero, List.drop_succ_cons, List.take_succ_cons, List.take_zero, List.take_nil, Nat.reduceSub, List.drop_nil]
            by_cases h24 : l1.length ≤ 24
            case pos =>
              have g3 : (l1.length : Int) ≤ 24 := by omega
              have hmy := HMY.out _ HXW.out.drew
              rw [T1.out.may h24] at hmy
              have HMZ := Lib.hid hmy
              clear hmy HMY
              go_wp2_with fail
              refine wpAny_still (k := 7) (n := 9) (by kernel_rfl) (by decide) ?_
              simp only [List.drop_zero, List.drop_succ_cons, List.take_succ_cons, List.take_zero, List.take_nil, Nat.reduceSub, List.drop_nil]
              generalize hA : Act.mk _ _ = A0; repeat (refine wpStill_step (fun K2 hK2 => ?_); subst hA; go_simp; (try rw [if_neg (by decide)]); generalize hA : Act.mk _ _ = A0; refine hK2 A0 ?_; clear hK2 K2)
              refine wpStill_nil ?_
              subst hA
              refine wpAny_next (k := 9) 15 (by decide) (by decide) (by kernel_rfl) ?_
              simp only [List.drop_zero, List.drop_succ_cons, List.take_succ_cons, List.take_zero, List.take_nil, Nat.reduceSub, List.drop_nil]
              go_wp2_with fail
              refine HMZ.out.mono ?_
              rintro e w5 ⟨rfl, hx5⟩
              have HX5 := Lib.hid (HXW.out.drew.trans hx5)
              replace c1 := hx5.cell c1
              replace c2 := hx5.cell c2
              clear hx5 HMZ
              go_wp2_with fail
              refine wpAny_still (k := 15) (n := 23) (by kernel_rfl) (by decide) ?_
              simp only [List.drop_zero, List.drop_succ_cons, List.take_succ_cons, List.take_zero, List.take_nil, Nat.reduceSub, List.drop_nil]
              generalize hA : Act.mk _ _ = A0; repeat (refine wpStill_step (fun K2 hK2 => ?_); subst hA; go_simp; (try rw [if_neg (by decide)]); generalize hA : Act.mk _ _ = A0; refine hK2 A0 ?_; clear hK2 K2)
              refine wpStill_nil ?_
              subst hA
              refine wpAny_last (k := 23) (by kernel_rfl) ?_
              simp only [List.drop_zero, List.drop_succ_cons, List.take_succ_cons, List.take_zero, List.take_nil, Nat.reduceSub, List.drop_nil]
              go_wp2_with fail
              refine (HKN.out _ HX5.out).mono ?_
              rintro e w6 ⟨rfl, hx6⟩
              have HX6 := Lib.hid (HX5.out.trans hx6)
              clear hx6 HKN HX5
              go_wp2_with fail
              refine HK9.out _ _ ?_
              clear HK9 K9
              go_wp2_with fail
              go_roundw
              case rel => exact ⟨pre ++ [d], post, all1, who, _, _, _, _, _, _, _, by rw [HL.out]; simp, by simp, by rw [HN1.out], by rw [HN1.out], Lib.hid HP1.out, by rw [HN1.out]; simp; omega, Lib.hid (HM1.out.ext HX6.out), HX1.out.trans HX6.out⟩
              case measure => simp [intOf]; omega
            case neg =>
              have g3 : ¬ (l1.length : Int) ≤ 24 := by omega
              go_wp2_with fail
              refine wpAny_still (k := 7) (n := 9) (by kernel_rfl) (by decide) ?_
              simp only [List.drop_zero, List.drop_succ_cons, List.take_succ_cons, List.take_zero, List.take_nil, Nat.reduceSub, List.drop_nil]
              generalize hA : Act.mk _ _ = A0; repeat (refine wpStill_step (fun K2 hK2 => ?_); subst hA; go_simp; (try rw [if_neg (by decide)]); generalize hA : Act.mk _ _ = A0; refine hK2 A0 ?_; clear hK2 K2)
              refine wpStill_nil ?_
              subst hA
              refine wpAny_next (k := 9) 15 (by decide) (by decide) (by kernel_rfl) ?_
              simp only [List.drop_zero, List.drop_succ_cons, List.take_succ_cons, List.take_zero, List.take_nil, Nat.reduceSub, List.drop_nil]
              go_wp2_with fail
              refine wpAny_still (k := 15) (n := 23) (by kernel_rfl) (by decide) ?_
              simp only [List.drop_zero, List.drop_succ_cons, List.take_succ_cons, List.take_zero, List.take_nil, Nat.reduceSub, List.drop_nil]
              generalize hA : Act.mk _ _ = A0; repeat (refine wpStill_step (fun K2 hK2 => ?_); subst hA; go_simp; (try rw [if_neg (by decide)]); generalize hA : Act.mk _ _ = A0; refine hK2 A0 ?_; clear hK2 K2)
              refine wpStill_nil ?_
              subst hA
              refine wpAny_last (k := 23) (by kernel_rfl) ?_
              simp only [List.drop_zero, List.drop_succ_cons, List.take_succ_cons, List.take_zero, List.take_nil, Nat.reduceSub, List.drop_nil]
              go_wp2_with fail
              refine (HKN.out _ HXW.out.drew).mono ?_
              rintro e w6 ⟨rfl, hx6⟩
              have HX6 := Lib.hid (HXW.out.drew.trans hx6)
              clear hx6 HKN HXW
              go_wp2_with fail
              refine HK9.out _ _ ?_
              clear HK9 K9
              go_wp2_with fail
              go_roundw
              case rel => exact ⟨pre ++ [d], post, all1, who, _, _, _, _, _, _, _, by rw [HL.out]; simp, by simp, by rw [HN1.out], by rw [HN1.out], Lib.hid HP1.out, by rw [HN1.out]; simp; omega, Lib.hid (HM1.out.ext HX6.out), HX1.out.trans HX6.out⟩
              case measure => simp [intOf]; omega
      case' inr.inr.inl =>
        as_aux_lemma =>
          obtain ⟨lj, hj⟩ : ∃ lj, all[j]? = some lj := ⟨_, List.getElem?_eq_getElem (by have := HN.out; omega)⟩
          obtain ⟨vj, hvj, cj, sj⟩ := HM.out.get hj
          obtain ⟨Aj, nj, rfl, -, -⟩ := sj.form
          have hlj := List.mem_of_getElem? hj
          have tj := HP.out.tame lj hlj
          have hllj := HP.out.len_le hlj
          have hl2 : lj.length ≤ 1000 := by have := HN.out; omega
          have h0 : 0 < lk.length + lj.length := by obtain ⟨f, r, e, -⟩ := TL.out.head; rw [e, List.length_cons]; omega
          have HJN := Lib.hid (fun W (he : Ext wr W) => join_any (SK.out.ext (by decide) he) (sj.ext (by decide) he) (TL.out.joinOk hl1) (tj.joinOk hl2) h0)
          have HPJ := Lib.hid (HP.out.join HK.out HPW.out hlj)
          clear hj hvj sj hlj tj h0
          go_wp2_with fail
          refine wp_region_facts [fun v _ => v = .slice (some ⟨ga, 0, none⟩) n ca, fun v _ => v = I k, fun v _ => v = .slice (some ⟨ga, 0, none⟩) n ca, fun v _ => v = I k, fun v _ => v = .pointer (some ⟨ga, k, none⟩), fun v _ => v = .slice Ak lk.length nk, fun v _ => v = .slice (some ⟨ga, 0, none⟩) n ca, fun v _ => v = .slice (some ⟨b, of, none⟩) l.length c, fun v _ => v = I pre.length, fun v _ => v = .pointer (some ⟨b, of + pre.length * 3, none⟩), fun v _ => v = .pointer (some ⟨b, of + pre.length * 3 + 2, none⟩), fun v _ => v = U8 d.other, fun v _ => v = I d.other, fun v _ => v = .slice (some ⟨ga, 0, none⟩) n ca, fun v _ => v = I n, fun v _ => v = I j, fun v _ => v = .pointer (some ⟨ga, j, none⟩), fun v _ => v = .slice Aj lj.length nj, fun v W => ∃ C y, v = .slice C (joinL lk lj).length y ∧ Sl mbrT W (fun b => wr.heap.size ≤ b) (.slice C (joinL lk lj).length y) (joinL lk lj), fun v _ => v = .pointer (some ⟨ga, k, none⟩)] rfl (by kernel_rfl) ?hR ?hstep ?hend
          case hR =>
            simp only [List.mem_cons, List.not_mem_nil, or_false, forall_eq_or_imp, forall_eq]
            exact ⟨fun v _ _ h _ => h, fun v _ _ h _ => h, fun v _ _ h _ => h, fun v _ _ h _ => h, fun v _ _ h _ => h, fun v _ _ h _ => h, fun v _ _ h _ => h, fun v _ _ h _ => h, fun v _ _ h _ => h, fun v _ _ h _ => h, fun v _ _ h _ => h, fun v _ _ h _ => h, fun v _ _ h _ => h, fun v _ _ h _ => h, fun v _ _ h _ => h, fun v _ _ h _ => h, fun v _ _ h _ => h, fun v _ _ h _ => h, fun v _ _ h he => by obtain ⟨C, y, e, h⟩ := h; exact ⟨C, y, e, h.ext (by decide) he⟩, fun v _ _ h _ => h⟩
          case hstep =>
            simp only [List.length_cons, List.length_nil, Nat.reduceAdd, List.take_succ_cons, List.take_zero, stepsAll, and_true]
            refine ⟨?_, ?_, ?_, ?_, ?_, ?_, ?_, ?_, ?_, ?_, ?_, ?_, ?_, ?_, ?_, ?_, ?_, ?_, ?_, ?_⟩
            · intro x W he f
              have h0 : x 3 = .slice (some ⟨ga, 0, none⟩) n ca := f.1
              go_wp
              exact stepQ_ok rfl (Ext.refl _)
            · intro x W he f
              have h0 : x 6 = I k := f.1
              go_wp
              exact stepQ_ok rfl (Ext.refl _)
            · intro x W he f
              have h0 : x 3 = .slice (some ⟨ga, 0, none⟩) n ca := f.1
              go_wp
              exact stepQ_ok rfl (Ext.refl _)
            · intro x W he f
              have h0 : x 6 = I k := f.1
              go_wp
              exact stepQ_ok rfl (Ext.refl _)
            · intro x W he f
              have h0 : x 136 = .slice (some ⟨ga, 0, none⟩) n ca := f.1
              have h1 : x 137 = I k := f.2.1
              go_wp
              exact stepQ_ok rfl (Ext.refl _)
            · intro x W he f
              have h0 : x 138 = .pointer (some ⟨ga, k, none⟩) := f.1
              have q0 := he.cell ck
              go_wp
              exact stepQ_ok rfl (Ext.refl _)
            · intro x W he f
              have h0 : x 3 = .slice (some ⟨ga, 0, none⟩) n ca := f.1
              go_wp
              exact stepQ_ok rfl (Ext.refl _)
            · intro x W he f
              have h0 : x 0 = .slice (some ⟨b, of, none⟩) l.length c := f.1
              go_wp
              exact stepQ_ok rfl (Ext.refl _)
            · intro x W he f
              have h0 : x 5 = I pre.length := f.1
              go_wp
              exact stepQ_ok rfl (Ext.refl _)
            · intro x W he f
              have h0 : x 141 = .slice (some ⟨b, of, none⟩) l.length c := f.1
              have h1 : x 142 = I pre.length := f.2.1
              go_wp
              exact stepQ_ok rfl (Ext.refl _)
            · intro x W he f
              have h0 : x 143 = .pointer (some ⟨b, of + pre.length * 3, none⟩) := f.1
              go_wp
              exact stepQ_ok rfl (Ext.refl _)
            · intro x W he f
              have h0 : x 144 = .pointer (some ⟨b, of + pre.length * 3 + 2, none⟩) := f.1
              have q0 := he.cell d2
              go_wp
              exact stepQ_ok rfl (Ext.refl _)
            · intro x W he f
              have h0 : x 145 = U8 d.other := f.1
              go_wp
              exact stepQ_ok rfl (Ext.refl _)
            · intro x W he f
              have h0 : x 3 = .slice (some ⟨ga, 0, none⟩) n ca := f.1
              go_wp
              exact stepQ_ok rfl (Ext.refl _)
            · intro x W he f
              have h0 : x 147 = .slice (some ⟨ga, 0, none⟩) n ca := f.1
              go_wp
              exact stepQ_ok rfl (Ext.refl _)
            · intro x W he f
              have h0 : x 146 = I d.other := f.1
              have h1 : x 148 = I n := f.2.1
              go_wp
              exact stepQ_ok rfl (Ext.refl _)
            · intro x W he f
              have h0 : x 140 = .slice (some ⟨ga, 0, none⟩) n ca := f.1
              have h1 : x 149 = I j := f.2.1
              go_wp
              exact stepQ_ok rfl (Ext.refl _)
            · intro x W he f
              have h0 : x 150 = .pointer (some ⟨ga, j, none⟩) := f.1
              have q0 := he.cell cj
              go_wp
              exact stepQ_ok rfl (Ext.refl _)
            · intro x W he f
              have h0 : x 139 = .slice Ak lk.length nk := f.1
              have h1 : x 151 = .slice Aj lj.length nj := f.2.1
              have HC := Lib.hid (HJN.out W he)
              go_wp
              refine HC.out.mono ?_
              rintro e X ⟨y1, rfl, hs3, hx3⟩
              obtain ⟨C1, z1, rfl, -, -⟩ := hs3.form
              dsimp only
              go_wp
              exact stepQ_ok ⟨C1, z1, rfl, hs3.mono (by decide) fun b _ h => Nat.le_trans he.size h⟩ hx3
            · intro x W he f
              have h0 : x 134 = .slice (some ⟨ga, 0, none⟩) n ca := f.1
              have h1 : x 135 = I k := f.2.1
              go_wp
              exact stepQ_ok rfl (Ext.refl _)
          case hend =>
            intro x W7 hx7 f
            obtain ⟨C1, x1, e152, hs3⟩ : ∃ C y, x 152 = .slice C (joinL lk lj).length y ∧ Sl mbrT W7 (fun b => wr.heap.size ≤ b) (.slice C (joinL lk lj).length y) (joinL lk lj) := f.2.2.2.2.2.2.2.2.2.2.2.2.2.2.2.2.2.2.1
            have e153 : x 153 = .pointer (some ⟨ga, k, none⟩) := f.2.2.2.2.2.2.2.2.2.2.2.2.2.2.2.2.2.2.2.1
            clear f
            have hga := HM.out.a.lt
            have hgw := HM.out.w.lt
            have hst : PMem (W7.setCell ⟨ga, k, none⟩ (.slice C1 (joinL lk lj).length x1)) w.heap.size ga ca gw cw (vs.set k (.slice C1 (joinL lk lj).length x1)) ta tw (all.set k (joinL lk lj)) who := (HM.out.ext hx7).set (by rw [HN.out]; exact hkn) (n := wr.heap.size) ⟨hga, hgw⟩ hs3
            have HX1 := Lib.hid (show Ext w (W7.setCell ⟨ga, k, none⟩ (.slice C1 (joinL lk lj).length x1)) from Ext.set (HX.out.trans hx7) (p := ⟨ga, k, none⟩) HM.out.bl.1 _)
            have HM1 := Lib.hid hst
            have HP1 := HPJ
            have HN1 := Lib.hid (show (all.set k (joinL lk lj)).length = n by rw [List.length_set]; exact HN.out)
            have f1 := (HM.out.ext hx7).a.frozen k
            replace ck := hx7.cell ck
            have hlw : n ≤ pre.length + 2 := by omega
            clear hga hgw hst hs3 hx7 HPJ HJN
            simp only [List.length_cons, List.length_nil, Nat.reduceAdd, List.take_succ_cons, List.take_zero, List.filterMap_cons, List.filterMap_nil, List.drop_succ_cons, List.drop_zero, putAll, Act.put, List.setIfInBounds_toArray, List.set_cons_succ, List.set_cons_zero, e152, e153]
            go_wp2_with fail
            generalize W7.setCell ⟨ga, k, none⟩ (.slice C1 (joinL lk lj).length x1) = w3 at *
            generalize all.set k (joinL lk lj) = all1 at *
            obtain ⟨l1, hk1⟩ : ∃ l1, all1[k]? = some l1 := ⟨_, List.getElem?_eq_getElem (by have := HN1.out; omega)⟩
            obtain ⟨p1, hp1⟩ := HP1.out.who_at hk1
            obtain ⟨v1, hv1, c1, s1⟩ := HM1.out.get hk1
            obtain ⟨A1, m1, rfl, -, -⟩ := s1.form
            have c2 := HM1.out.name hp1
            have hlm := List.mem_of_getElem? hk1
            have T1 := Lib.hid (HP1.out.tame l1 hlm)
            have hll1 := HP1.out.len_le hlm
            rw [HN1.out] at hll1
            have HMY := Lib.hid (fun W' (he : Ext w3 W') => mmay_any (s1.ext (by decide) he) (T1.out.tidy (by omega)))
            obtain ⟨xo, hxo, hxp⟩ := HP1.out.own k l1 p1 hk1 hp1
            have hkn1 := T1.out.known hxo
            rw [hxp] at hkn1
            have hpl := T1.out.plen hxo
            rw [hxp] at hpl
            have HKN := Lib.hid (fun W' (he : Ext w3 W') => known_any (s1.ext (by decide) he) p1 (by omega))
            rw [hkn1.1] at HKN
            have g2 : ((xo.status : Int) == 0) = false := by simp; have := hkn1.2; omega
            have HXW := Lib.hid (Ext.refl w3)
            replace c1 := HXW.out.drew.cell c1
            replace c2 := HXW.out.drew.cell c2
            clear hk1 hp1 hv1 s1 hlm hkn1 hxp hxo hpl
            rename_i K9 hK9
            have HK9 := Lib.hid hK9
            clear hK9
            refine wp_region_cut (by kernel_rfl) ?_
            change wpAny _ _ _ _ _ _ _ w3.drew
            refine wpAny_still (k := 0) (n := 4) (by kernel_rfl) (by decide) ?_
            simp only [List.drop_zero, List.drop_succ_cons, List.take_succ_cons, List.take_zero, List.take_nil, Nat.reduceSub, List.drop_nil]
            generalize hA : Act.mk _ _ = A0; repeat (refine wpStill_step (fun K2 hK2 => ?_); subst hA; go_simp; (try rw [if_neg (by decide)]); generalize hA : Act.mk _ _ = A0; refine hK2 A0 ?_; clear hK2 K2)
            refine wpStill_nil ?_
            subst hA
            refine wpAny_next (k := 4) 7 (by decide) (by decide) (by kernel_rfl) ?_
            simp only [List.drop_zero, List.drop_succ_cons, List.take_succ_cons, List.take_zero, List.take_nil, Nat.reduceSub, List.drop_nil]
            by_cases h24 : l1.length ≤ 24
            case pos =>
              have g3 : (l1.length : Int) ≤ 24 := by omega
              have hmy := HMY.out _ HXW.out.drew
              rw [T1.out.may h24] at hmy
              have HMZ := Lib.hid hmy
              clear hmy HMY
              go_wp2_with fail
              refine wpAny_still (k := 7) (n := 9) (by kernel_rfl) (by decide) ?_
              simp only [List.drop_zero, List.drop_succ_cons, List.take_succ_cons, List.take_zero, List.take_nil, Nat.reduceSub, List.drop_nil]
              generalize hA : Act.mk _ _ = A0; repeat (refine wpStill_step (fun K2 hK2 => ?_); subst hA; go_simp; (try rw [if_neg (by decide)]); generalize hA : Act.mk _ _ = A0; refine hK2 A0 ?_; clear hK2 K2)
              refine wpStill_nil ?_
              subst hA
              refine wpAny_next (k := 9) 15 (by decide) (by decide) (by kernel_rfl) ?_
              simp only [List.drop_zero, List.drop_succ_cons, List.take_succ_cons, List.take_zero, List.take_nil, Nat.reduceSub, List.drop_nil]
              go_wp2_with fail
              refine HMZ.out.mono ?_
              rintro e w5 ⟨rfl, hx5⟩
              have HX5 := Lib.hid (HXW.out.drew.trans hx5)
              replace c1 := hx5.cell c1
              replace c2 := hx5.cell c2
              clear hx5 HMZ
              go_wp2_with fail
              refine wpAny_still (k := 15) (n := 23) (by kernel_rfl) (by decide) ?_
              simp only [List.drop_zero, List.drop_succ_cons, List.take_succ_cons, List.take_zero, List.take_nil, Nat.reduceSub, List.drop_nil]
              generalize hA : Act.mk _ _ = A0; repeat (refine wpStill_step (fun K2 hK2 => ?_); subst hA; go_simp; (try rw [if_neg (by decide)]); generalize hA : Act.mk _ _ = A0; refine hK2 A0 ?_; clear hK2 K2)
              refine wpStill_nil ?_
              subst hA
              refine wpAny_last (k := 23) (by kernel_rfl) ?_
              simp only [List.drop_zero, List.drop_succ_cons, List.take_succ_cons, List.take_zero, List.take_nil, Nat.reduceSub, List.drop_nil]
              go_wp2_with fail
              refine (HKN.out _ HX5.out).mono ?_
              rintro e w6 ⟨rfl, hx6⟩
              have HX6 := Lib.hid (HX5.out.trans hx6)
              clear hx6 HKN HX5
              go_wp2_with fail
              refine HK9.out _ _ ?_
              clear HK9 K9
              go_wp2_with fail
              go_roundw
              case rel => exact ⟨pre ++ [d], post, all1, who, _, _, _, _, _, _, _, by rw [HL.out]; simp, by simp, by rw [HN1.out], by rw [HN1.out], Lib.hid HP1.out, by rw [HN1.out]; simp; omega, Lib.hid (HM1.out.ext HX6.out), HX1.out.trans HX6.out⟩
              case measure => simp [intOf]; omega
            case neg =>
              have g3 : ¬ (l1.length : Int) ≤ 24 := by omega
              go_wp2_with fail
              refine wpAny_still (k := 7) (n := 9) (by kernel_rfl) (by decide) ?_
              simp only [List.drop_zero, List.drop_succ_cons, List.take_succ_cons, List.take_zero, List.take_nil, Nat.reduceSub, List.drop_nil]
              generalize hA : Act.mk _ _ = A0; repeat (refine wpStill_step (fun K2 hK2 => ?_); subst hA; go_simp; (try rw [if_neg (by decide)]); generalize hA : Act.mk _ _ = A0; refine hK2 A0 ?_; clear hK2 K2)
              refine wpStill_nil ?_
              subst hA
              refine wpAny_next (k := 9) 15 (by decide) (by decide) (by kernel_rfl) ?_
              simp only [List.drop_zero, List.drop_succ_cons, List.take_succ_cons, List.take_zero, List.take_nil, Nat.reduceSub, List.drop_nil]
              go_wp2_with fail
              refine wpAny_still (k := 15) (n := 23) (by kernel_rfl) (by decide) ?_
              simp only [List.drop_zero, List.drop_succ_cons, List.take_succ_cons, List.take_zero, List.take_nil, Nat.reduceSub, List.drop_nil]
              generalize hA : Act.mk _ _ = A0; repeat (refine wpStill_step (fun K2 hK2 => ?_); subst hA; go_simp; (try rw [if_neg (by decide)]); generalize hA : Act.mk _ _ = A0; refine hK2 A0 ?_; clear hK2 K2)
              refine wpStill_nil ?_
              subst hA
              refine wpAny_last (k := 23) (by kernel_rfl) ?_
              simp only [List.drop_zero, List.drop_succ_cons, List.take_succ_cons, List.take_zero, List.take_nil, Nat.reduceSub, List.drop_nil]
              go_wp2_with fail
              refine (HKN.out _ HXW.out.drew).mono ?_
              rintro e w6 ⟨rfl, hx6⟩
              have HX6 := Lib.hid (HXW.out.drew.trans hx6)
              clear hx6 HKN HXW
              go_wp2_with fail
              refine HK9.out _ _ ?_
              clear HK9 K9
              go_wp2_with fail
              go_roundw
              case rel => exact ⟨pre ++ [d], post, all1, who, _, _, _, _, _, _, _, by rw [HL.out]; simp, by simp, by rw [HN1.out], by rw [HN1.out], Lib.hid HP1.out, by rw [HN1.out]; simp; omega, Lib.hid (HM1.out.ext HX6.out), HX1.out.trans HX6.out⟩
              case measure => simp [intOf]; omega
      case' inr.inr.inr =>
        as_aux_lemma =>
          have hpl0 : (pre.length : Int) < 256 := by omega
          have HUP := Lib.hid (fun W (he : Ext wr W) => leave_any (SK.out.ext (by decide) he) (TL.out.small hl1) p pre.length)
          go_wp2_with fail
          rename_i K1 hK1 K0 hK0
          have HK1 := Lib.hid hK1
          have HK0 := Lib.hid hK0
          clear hK1 hK0
          refine wp_region_cut (by kernel_rfl) ?_
          change wpAny _ _ _ _ _ _ _ wr.drew
          replace ck := HXR.out.drew.cell ck
          replace cp := HXR.out.drew.cell cp
          refine wpAny_still (k := 0) (n := 10) (by kernel_rfl) (by decide) ?_
          simp only [List.drop_zero, List.drop_succ_cons, List.take_succ_cons, List.take_zero, List.take_nil, Nat.reduceSub, List.drop_nil]
          generalize hA : Act.mk _ _ = A0; repeat (refine wpStill_step (fun K2 hK2 => ?_); subst hA; go_simp; (try rw [if_neg (by decide)]); generalize hA : Act.mk _ _ = A0; refine hK2 A0 ?_; clear hK2 K2)
          refine wpStill_nil ?_
          subst hA
          refine wpAny_next (k := 10) 11 (by decide) (by decide) (by kernel_rfl) ?_
          simp only [List.drop_zero, List.drop_succ_cons, List.take_succ_cons, List.take_zero, List.take_nil, Nat.reduceSub, List.drop_nil]
          go_wp2_with fail
          refine (HUP.out _ HXR.out.drew).mono ?_
          rintro e w2 ⟨v2, rfl, s2, hx2⟩
          obtain ⟨A2, n2, rfl, -, -⟩ := s2.form
          have HX2 := Lib.hid (HXR.out.drew.trans hx2)
          go_wp2_with fail
          refine wpAny_still (k := 11) (n := 15) (by kernel_rfl) (by decide) ?_
          simp only [List.drop_zero, List.drop_succ_cons, List.take_succ_cons, List.take_zero, List.take_nil, Nat.reduceSub, List.drop_nil]
          generalize hA : Act.mk _ _ = A0; repeat (refine wpStill_step (fun K2 hK2 => ?_); subst hA; go_simp; (try rw [if_neg (by decide)]); generalize hA : Act.mk _ _ = A0; refine hK2 A0 ?_; clear hK2 K2)
          refine wpStill_nil ?_
          subst hA
          refine wpAny_last (k := 15) (by kernel_rfl) ?_
          simp only [List.drop_zero, List.drop_succ_cons, List.take_succ_cons, List.take_zero, List.take_nil, Nat.reduceSub, List.drop_nil]
          go_wp2_with fail
          refine HK0.out _ _ ?_
          replace ck := hx2.cell ck
          clear HK0 K0 cp HUP hx2
          rcases hum : leaveM lk p pre.length with ⟨m, ee⟩
          rw [hum] at s2
          simp only at s2 ⊢
          by_cases he0 : ee = 0
          case neg =>
            have g1 : ((ee : Int) == 0) = false := by simpa using he0
            clear hum s2
            go_wp2_with fail
            have HM1 := Lib.hid (HM.out.ext HX2.out)
            have HP1 := Lib.hid HP.out
            have HX1 := Lib.hid (HX.out.trans HX2.out)
            have HN1 := Lib.hid HN.out
            have hlw : n ≤ pre.length + 2 := by omega
            obtain ⟨l1, hk1⟩ : ∃ l1, all[k]? = some l1 := ⟨_, List.getElem?_eq_getElem (by have := HN1.out; omega)⟩
            obtain ⟨p1, hp1⟩ := HP1.out.who_at hk1
            obtain ⟨v1, hv1, c1, s1⟩ := HM1.out.get hk1
            obtain ⟨A1, m1, rfl, -, -⟩ := s1.form
            have c2 := HM1.out.name hp1
            have hlm := List.mem_of_getElem? hk1
            have T1 := Lib.hid (HP1.out.tame l1 hlm)
            have hll1 := HP1.out.len_le hlm
            rw [HN1.out] at hll1
            have HMY := Lib.hid (fun W' (he : Ext w2 W') => mmay_any (s1.ext (by decide) he) (T1.out.tidy (by omega)))
            obtain ⟨xo, hxo, hxp⟩ := HP1.out.own k l1 p1 hk1 hp1
            have hkn1 := T1.out.known hxo
            rw [hxp] at hkn1
            have hpl := T1.out.plen hxo
            rw [hxp] at hpl
            have HKN := Lib.hid (fun W' (he : Ext w2 W') => known_any (s1.ext (by decide) he) p1 (by omega))
            rw [hkn1.1] at HKN
            have g2 : ((xo.status : Int) == 0) = false := by simp; have := hkn1.2; omega
            have HXW := Lib.hid (Ext.refl w2)
            replace c1 := HXW.out.drew.cell c1
            replace c2 := HXW.out.drew.cell c2
            clear hk1 hp1 hv1 s1 hlm hkn1 hxp hxo hpl
            refine HK1.out _ _ ?_
            clear HK1
            try clear K1
            refine wp_seq_k ?_
            intro K9 hK9
            have HK9 := Lib.hid hK9
            clear hK9
            refine wp_region_cut (by kernel_rfl) ?_
            change wpAny _ _ _ _ _ _ _ w2.drew
            refine wpAny_still (k := 0) (n := 4) (by kernel_rfl) (by decide) ?_
            simp only [List.drop_zero, List.drop_succ_cons, List.take_succ_cons, List.take_zero, List.take_nil, Nat.reduceSub, List.drop_nil]
            generalize hA : Act.mk _ _ = A0; repeat (refine wpStill_step (fun K2 hK2 => ?_); subst hA; go_simp; (try rw [if_neg (by decide)]); generalize hA : Act.mk _ _ = A0; refine hK2 A0 ?_; clear hK2 K2)
            refine wpStill_nil ?_
            subst hA
            refine wpAny_next (k := 4) 7 (by decide) (by decide) (by kernel_rfl) ?_
            simp only [List.drop_zero, List.drop_succ_cons, List.take_succ_cons, List.take_zero, List.take_nil, Nat.reduceSub, List.drop_nil]
            by_cases h24 : l1.length ≤ 24
            case pos =>
              have g3 : (l1.length : Int) ≤ 24 := by omega
              have hmy := HMY.out _ HXW.out.drew
              rw [T1.out.may h24] at hmy
              have HMZ := Lib.hid hmy
              clear hmy HMY
              go_wp2_with fail
              refine wpAny_still (k := 7) (n := 9) (by kernel_rfl) (by decide) ?_
              simp only [List.drop_zero, List.drop_succ_cons, List.take_succ_cons, List.take_zero, List.take_nil, Nat.reduceSub, List.drop_nil]
              generalize hA : Act.mk _ _ = A0; repeat (refine wpStill_step (fun K2 hK2 => ?_); subst hA; go_simp; (try rw [if_neg (by decide)]); generalize hA : Act.mk _ _ = A0; refine hK2 A0 ?_; clear hK2 K2)
              refine wpStill_nil ?_
              subst hA
              refine wpAny_next (k := 9) 15 (by decide) (by decide) (by kernel_rfl) ?_
              simp only [List.drop_zero, List.drop_succ_cons, List.take_succ_cons, List.take_zero, List.take_nil, Nat.reduceSub, List.drop_nil]
              go_wp2_with fail
              refine HMZ.out.mono ?_
              rintro e w5 ⟨rfl, hx5⟩
              have HX5 := Lib.hid (HXW.out.drew.trans hx5)
              replace c1 := hx5.cell c1
              replace c2 := hx5.cell c2
              clear hx5 HMZ
              go_wp2_with fail
              refine wpAny_still (k := 15) (n := 23) (by kernel_rfl) (by decide) ?_
              simp only [List.drop_zero, List.drop_succ_cons, List.take_succ_cons, List.take_zero, List.take_nil, Nat.reduceSub, List.drop_nil]
              generalize hA : Act.mk _ _ = A0; repeat (refine wpStill_step (fun K2 hK2 => ?_); subst hA; go_simp; (try rw [if_neg (by decide)]); generalize hA : Act.mk _ _ = A0; refine hK2 A0 ?_; clear hK2 K2)
              refine wpStill_nil ?_
              subst hA
              refine wpAny_last (k := 23) (by kernel_rfl) ?_
              simp only [List.drop_zero, List.drop_succ_cons, List.take_succ_cons, List.take_zero, List.take_nil, Nat.reduceSub, List.drop_nil]
              go_wp2_with fail
              refine (HKN.out _ HX5.out).mono ?_
              rintro e w6 ⟨rfl, hx6⟩
              have HX6 := Lib.hid (HX5.out.trans hx6)
              clear hx6 HKN HX5
              go_wp2_with fail
              refine HK9.out _ _ ?_
              clear HK9 K9
              go_wp2_with fail
              go_roundw
              case rel => exact ⟨pre ++ [d], post, all, who, _, _, _, _, _, _, _, by rw [HL.out]; simp, by simp, by rw [HN1.out], by rw [HN1.out], Lib.hid HP1.out, by rw [HN1.out]; simp; omega, Lib.hid (HM1.out.ext HX6.out), HX1.out.trans HX6.out⟩
              case measure => simp [intOf]; omega
            case neg =>
              have g3 : ¬ (l1.length : Int) ≤ 24 := by omega
              go_wp2_with fail
              refine wpAny_still (k := 7) (n := 9) (by kernel_rfl) (by decide) ?_
              simp only [List.drop_zero, List.drop_succ_cons, List.take_succ_cons, List.take_zero, List.take_nil, Nat.reduceSub, List.drop_nil]
              generalize hA : Act.mk _ _ = A0; repeat (refine wpStill_step (fun K2 hK2 => ?_); subst hA; go_simp; (try rw [if_neg (by decide)]); generalize hA : Act.mk _ _ = A0; refine hK2 A0 ?_; clear hK2 K2)
              refine wpStill_nil ?_
              subst hA
              refine wpAny_next (k := 9) 15 (by decide) (by decide) (by kernel_rfl) ?_
              simp only [List.drop_zero, List.drop_succ_cons, List.take_succ_cons, List.take_zero, List.take_nil, Nat.reduceSub, List.drop_nil]
              go_wp2_with fail
              refine wpAny_still (k := 15) (n := 23) (by kernel_rfl) (by decide) ?_
              simp only [List.drop_zero, List.drop_succ_cons, List.take_succ_cons, List.take_zero, List.take_nil, Nat.reduceSub, List.drop_nil]
              generalize hA : Act.mk _ _ = A0; repeat (refine wpStill_step (fun K2 hK2 => ?_); subst hA; go_simp; (try rw [if_neg (by decide)]); generalize hA : Act.mk _ _ = A0; refine hK2 A0 ?_; clear hK2 K2)
              refine wpStill_nil ?_
              subst hA
              refine wpAny_last (k := 23) (by kernel_rfl) ?_
              simp only [List.drop_zero, List.drop_succ_cons, List.take_succ_cons, List.take_zero, List.take_nil, Nat.reduceSub, List.drop_nil]
              go_wp2_with fail
              refine (HKN.out _ HXW.out.drew).mono ?_
              rintro e w6 ⟨rfl, hx6⟩
              have HX6 := Lib.hid (HXW.out.drew.trans hx6)
              clear hx6 HKN HXW
              go_wp2_with fail
              refine HK9.out _ _ ?_
              clear HK9 K9
              go_wp2_with fail
              go_roundw
              case rel => exact ⟨pre ++ [d], post, all, who, _, _, _, _, _, _, _, by rw [HL.out]; simp, by simp, by rw [HN1.out], by rw [HN1.out], Lib.hid HP1.out, by rw [HN1.out]; simp; omega, Lib.hid (HM1.out.ext HX6.out), HX1.out.trans HX6.out⟩
              case measure => simp [intOf]; omega
          case pos =>
            subst he0
            have hga := HM.out.a.lt
            have hgw := HM.out.w.lt
            have hst : PMem (w2.setCell ⟨ga, k, none⟩ (.slice A2 m.length n2)) w.heap.size ga ca gw cw (vs.set k (.slice A2 m.length n2)) ta tw (all.set k m) who := (HM.out.ext HX2.out).set (by rw [HN.out]; exact hkn) (n := wr.drew.heap.size) ⟨hga, hgw⟩ s2
            have hxs : Ext w (w2.setCell ⟨ga, k, none⟩ (.slice A2 m.length n2)) := Ext.set (HX.out.trans HX2.out) (p := ⟨ga, k, none⟩) HM.out.bl.1 _
            have HM1 := Lib.hid hst
            have HX1 := Lib.hid hxs
            have HP1 := Lib.hid (HP.out.leave HK.out HPW.out hum)
            have HN1 := Lib.hid (show (all.set k m).length = n by rw [List.length_set]; exact HN.out)
            have f1 := (HM.out.ext HX2.out).a.frozen k
            have hlw : n ≤ pre.length + 2 := by omega
            clear hum s2 hga hgw hst hxs
            go_wp2_with fail
            generalize w2.setCell ⟨ga, k, none⟩ (.slice A2 m.length n2) = w3 at *
            generalize all.set k m = all1 at *
            obtain ⟨l1, hk1⟩ : ∃ l1, all1[k]? = some l1 := ⟨_, List.getElem?_eq_getElem (by have := HN1.out; omega)⟩
            obtain ⟨p1, hp1⟩ := HP1.out.who_at hk1
            obtain ⟨v1, hv1, c1, s1⟩ := HM1.out.get hk1
            obtain ⟨A1, m1, rfl, -, -⟩ := s1.form
            have c2 := HM1.out.name hp1
            have hlm := List.mem_of_getElem? hk1
            have T1 := Lib.hid (HP1.out.tame l1 hlm)
            have hll1 := HP1.out.len_le hlm
            rw [HN1.out] at hll1
            have HMY := Lib.hid (fun W' (he : Ext w3 W') => mmay_any (s1.ext (by decide) he) (T1.out.tidy (by omega)))
            obtain ⟨xo, hxo, hxp⟩ := HP1.out.own k l1 p1 hk1 hp1
            have hkn1 := T1.out.known hxo
            rw [hxp] at hkn1
            have hpl := T1.out.plen hxo
            rw [hxp] at hpl
            have HKN := Lib.hid (fun W' (he : Ext w3 W') => known_any (s1.ext (by decide) he) p1 (by omega))
            rw [hkn1.1] at HKN
            have g2 : ((xo.status : Int) == 0) = false := by simp; have := hkn1.2; omega
            have HXW := Lib.hid (Ext.refl w3)
            replace c1 := HXW.out.drew.cell c1
            replace c2 := HXW.out.drew.cell c2
            clear hk1 hp1 hv1 s1 hlm hkn1 hxp hxo hpl
            refine HK1.out _ _ ?_
            clear HK1
            try clear K1
            refine wp_seq_k ?_
            intro K9 hK9
            have HK9 := Lib.hid hK9
            clear hK9
            refine wp_region_cut (by kernel_rfl) ?_
            change wpAny _ _ _ _ _ _ _ w3.drew
            refine wpAny_still (k := 0) (n := 4) (by kernel_rfl) (by decide) ?_
            simp only [List.drop_zero, List.drop_succ_cons, List.take_succ_cons, List.take_zero, List.take_nil, Nat.reduceSub, List.drop_nil]
            generalize hA : Act.mk _ _ = A0; repeat (refine wpStill_step (fun K2 hK2 => ?_); subst hA; go_simp; (try rw [if_neg (by decide)]); generalize hA : Act.mk _ _ = A0; refine hK2 A0 ?_; clear hK2 K2)
            refine wpStill_nil ?_
            subst hA
            refine wpAny_next (k := 4) 7 (by decide) (by decide) (by kernel_rfl) ?_
            simp only [List.drop_zero, List.drop_succ_cons, List.take_succ_cons, List.take_zero, List.take_nil, Nat.reduceSub, List.drop_nil]
            by_cases h24 : l1.length ≤ 24
            case pos =>
              have g3 : (l1.length : Int) ≤ 24 := by omega
              have hmy := HMY.out _ HXW.out.drew
              rw [T1.out.may h24] at hmy
              have HMZ := Lib.hid hmy
              clear hmy HMY
              go_wp2_with fail
              refine wpAny_still (k := 7) (n := 9) (by kernel_rfl) (by decide) ?_
              simp only [List.drop_zero, List.drop_succ_cons, List.take_succ_cons, List.take_zero, List.take_nil, Nat.reduceSub, List.drop_nil]
              generalize hA : Act.mk _ _ = A0; repeat (refine wpStill_step (fun K2 hK2 => ?_); subst hA; go_simp; (try rw [if_neg (by decide)]); generalize hA : Act.mk _ _ = A0; refine hK2 A0 ?_; clear hK2 K2)
              refine wpStill_nil ?_
              subst hA
              refine wpAny_next (k := 9) 15 (by decide) (by decide) (by kernel_rfl) ?_
              simp only [List.drop_zero, List.drop_succ_cons, List.take_succ_cons, List.take_zero, List.take_nil, Nat.reduceSub, List.drop_nil]
              go_wp2_with fail
              refine HMZ.out.mono ?_
              rintro e w5 ⟨rfl, hx5⟩
              have HX5 := Lib.hid (HXW.out.drew.trans hx5)
              replace c1 := hx5.cell c1
              replace c2 := hx5.cell c2
              clear hx5 HMZ
              go_wp2_with fail
              refine wpAny_still (k := 15) (n := 23) (by kernel_rfl) (by decide) ?_
              simp only [List.drop_zero, List.drop_succ_cons, List.take_succ_cons, List.take_zero, List.take_nil, Nat.reduceSub, List.drop_nil]
              generalize hA : Act.mk _ _ = A0; repeat (refine wpStill_step (fun K2 hK2 => ?_); subst hA; go_simp; (try rw [if_neg (by decide)]); generalize hA : Act.mk _ _ = A0; refine hK2 A0 ?_; clear hK2 K2)
              refine wpStill_nil ?_
              subst hA
              refine wpAny_last (k := 23) (by kernel_rfl) ?_
              simp only [List.drop_zero, List.drop_succ_cons, List.take_succ_cons, List.take_zero, List.take_nil, Nat.reduceSub, List.drop_nil]
              go_wp2_with fail
              refine (HKN.out _ HX5.out).mono ?_
              rintro e w6 ⟨rfl, hx6⟩
              have HX6 := Lib.hid (HX5.out.trans hx6)
              clear hx6 HKN HX5
              go_wp2_with fail
              refine HK9.out _ _ ?_
              clear HK9 K9
              go_wp2_with fail
              go_roundw
              case rel => exact ⟨pre ++ [d], post, all1, who, _, _, _, _, _, _, _, by rw [HL.out]; simp, by simp, by rw [HN1.out], by rw [HN1.out], Lib.hid HP1.out, by rw [HN1.out]; simp; omega, Lib.hid (HM1.out.ext HX6.out), HX1.out.trans HX6.out⟩
              case measure => simp [intOf]; omega
            case neg =>
              have g3 : ¬ (l1.length : Int) ≤ 24 := by omega
              go_wp2_with fail
              refine wpAny_still (k := 7) (n := 9) (by kernel_rfl) (by decide) ?_
              simp only [List.drop_zero, List.drop_succ_cons, List.take_succ_cons, List.take_zero, List.take_nil, Nat.reduceSub, List.drop_nil]
              generalize hA : Act.mk _ _ = A0; repeat (refine wpStill_step (fun K2 hK2 => ?_); subst hA; go_simp; (try rw [if_neg (by decide)]); generalize hA : Act.mk _ _ = A0; refine hK2 A0 ?_; clear hK2 K2)
              refine wpStill_nil ?_
              subst hA
              refine wpAny_next (k := 9) 15 (by decide) (by decide) (by kernel_rfl) ?_
              simp only [List.drop_zero, List.drop_succ_cons, List.take_succ_cons, List.take_zero, List.take_nil, Nat.reduceSub, List.drop_nil]
              go_wp2_with fail
              refine wpAny_still (k := 15) (n := 23) (by kernel_rfl) (by decide) ?_
              simp only [List.drop_zero, List.drop_succ_cons, List.take_succ_cons, List.take_zero, List.take_nil, Nat.reduceSub, List.drop_nil]
              generalize hA : Act.mk _ _ = A0; repeat (refine wpStill_step (fun K2 hK2 => ?_); subst hA; go_simp; (try rw [if_neg (by decide)]); generalize hA : Act.mk _ _ = A0; refine hK2 A0 ?_; clear hK2 K2)
              refine wpStill_nil ?_
              subst hA
              refine wpAny_last (k := 23) (by kernel_rfl) ?_
              simp only [List.drop_zero, List.drop_succ_cons, List.take_succ_cons, List.take_zero, List.take_nil, Nat.reduceSub, List.drop_nil]
              go_wp2_with fail
              refine (HKN.out _ HXW.out.drew).mono ?_
              rintro e w6 ⟨rfl, hx6⟩
              have HX6 := Lib.hid (HXW.out.drew.trans hx6)
              clear hx6 HKN HXW
              go_wp2_with fail
              refine HK9.out _ _ ?_
              clear HK9 K9
              go_wp2_with fail
              go_roundw
              case rel => exact ⟨pre ++ [d], post, all1, who, _, _, _, _, _, _, _, by rw [HL.out]; simp, by simp, by rw [HN1.out], by rw [HN1.out], Lib.hid HP1.out, by rw [HN1.out]; simp; omega, Lib.hid (HM1.out.ext HX6.out), HX1.out.trans HX6.out⟩
              case measure => simp [intOf]; omega
end Go.Proofs.YtblkikjmocnllaaGreatDoor
