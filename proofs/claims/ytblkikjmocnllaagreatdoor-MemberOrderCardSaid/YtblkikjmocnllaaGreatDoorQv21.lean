/- Contracts of the functions that the statement goes through, and plain laws of them. -/
import Derived.Test.YtblkikjmocnllaaGreatDoorQv20
set_option linter.unusedVariables false
set_option linter.unusedSimpArgs false
set_option linter.unusedSectionVars false
namespace Go.Proofs.YtblkikjmocnllaaGreatDoor
open Go.RowKit Go.Shelf
def mbrB : Mbr := ⟨[49], 2, 0, 0, 0, [], plan0, []⟩
theorem no_own_none {b : Nat} : ¬ ownBlk (.slice none 0 0) b := fun ⟨_, _, _, h, _, _⟩ => by cases h
set_option maxRecDepth 100000 in
set_option maxHeartbeats 1000000 in
theorem begin_any (w : World) : Calls Tryz.prog 24 #[] w fun e w' => ∃ v', e = .returned v' ∧ Sl mbrT w' (fun b => w.heap.size ≤ b) v' [mbrB] ∧ Ext w w' := by
 have hr := rowNew w 48 (mbrC mbrB (.slice none 0 0) (.slice none 0 0))
 have hx := (Ext.refl w).alloc (.cells (mbrC mbrB (.slice none 0 0) (.slice none 0 0)).toArray 48)
 have hs : CopyM (w.alloc (.cells (mbrC mbrB (.slice none 0 0) (.slice none 0 0)).toArray 48)) w.heap.size (.slice (some ⟨w.heap.size, 0, none⟩) 1 1) [mbrB] :=
   .inr ⟨w.heap.size, 1, [(.slice none 0 0, .slice none 0 0)], [], rfl, by simp, by omega, Nat.le_refl _, hr, ⟨rfl, fun i x u hx hu => by
     cases i with
     | zero =>
       simp at hx hu
       subst hx; subst hu
       exact ⟨Own.nil _ _ _ _ _, Own.nil _ _ _ _ _, fun b h => absurd h no_own_none⟩
     | succ i => simp at hx, fun u hu => by
       rw [List.mem_singleton.1 hu]
       exact ⟨no_own_none, no_own_none⟩, List.pairwise_singleton _ _⟩⟩
 have HS := Lib.hid hs.sl
 unfold mbrC mbrB plan0 at hx HS
 clear hs hr
 go_enter Tryz.func24, Tryz.ntmps24
 go_wp2
 go_ret
 exact ⟨_, rfl, HS.out, hx⟩
set_option maxRecDepth 100000 in
set_option maxHeartbeats 4000000 in
theorem leave_any {S : Nat → Prop} {v : Value} {l : List Mbr} {w : World} (hv : Sl mbrT w S v l) (sm : SmallL l) (p : Str) (n : Nat) :
   Calls Tryz.prog 15 #[v, St p, U n] w fun e w' => ∃ v', e = .returned (.tuple #[v', I (leaveM l p n).2]) ∧ Sl mbrT w' (fun b => w.heap.size ≤ b) v' (leaveM l p n).1 ∧ Ext w w' := by
 have HC := Lib.hid (copyM_any hv sm)
 have hz : ∀ w, (zeroValue 3).run Tryz.prog w = .ok (I (0 : Nat)) w := Tryz.zeroValue3
 obtain ⟨K, hK⟩ : ∃ K, leaveM l p n = K := ⟨_, rfl⟩
 rw [hK]
 have HK := Lib.hid hK
 clear hv hK
 unfold leaveM at HK
 go_enter Tryz.func15, Tryz.ntmps15
 go_wp2_with fail
 refine HC.out.mono ?_
 rintro e w1 ⟨v1, rfl, hcp, hx1⟩
 have HPL := Lib.hid (places_any hcp.sl)
 go_wp2_with fail
 refine HPL.out.mono ?_
 rintro e w2 ⟨q, rfl, hq, hm, hx2⟩
 have hlk := places_run hm hz p
 clear hm HPL HC
 cases hi : idxP l p with
 | none =>
   rw [hi] at hlk
   simp only [Option.getD_none, Option.isSome_none] at hlk
   have HF := Lib.hid (show (([] : List Mbr), 200) = K by rw [← HK.out, hi])
   clear hi hcp
   go_wp2_with fail
   refine bodyPost_ret (results_tmp2 rfl _ _ _) rfl ?_
   exact ⟨.slice none 0 0, by rw [← HF.out]; rfl, by rw [← HF.out]; exact Sl.nil _ _ (by omega), hx1.trans hx2⟩
 | some i =>
   rw [hi] at hlk
   simp only [Option.getD_some, Option.isSome_some] at hlk
   obtain ⟨x, h1, -, h2, h3, h4⟩ := idx_some hi
   have hxi : l[i]? = some x := by unfold atP at h1; rw [hi] at h1; exact h1
   have hsl := hcp.sl
   obtain ⟨A, c, rfl, -, -⟩ := hsl.form
   have hxx := hx1.trans hx2
   have hcp2 : CopyM w2 w.heap.size (.slice A l.length c) l := by
     rcases hcp with ⟨e, a, b, e2, e3⟩ | ⟨g, c', us, tail, he, q1, q2, q3, q4, q5⟩
     · exact .inl ⟨e, a, b, e2, e3⟩
     · exact .inr ⟨g, c', us, tail, he, q1, q2, q3, q4.ext hx2, q5.ext hx2⟩
   obtain ⟨b, o, B1, d1, B2, d2, rfl, -, -, -, hc⟩ := mbr_at (wr := w2) hcp2.sl (fun _ _ _ => rfl) h3
   rw [h4] at hc
   have hob : o = 0 := by
     rcases hcp2 with ⟨e, -⟩ | ⟨g, c', us, tail, he, -⟩
     · rw [e] at h2; simp at h2
     · injection he with e1 e2 e3; simp only [Option.some.injEq, Addr.mk.injEq] at e1; exact e1.2.1
   subst hob
   have k1 := hc 1 _ rfl
   rw [Nat.zero_add] at k1
   have hf1 : w2.frozen? ⟨b, i * 15 + 1, none⟩ = false := by
     rcases hcp2 with ⟨e, -⟩ | ⟨g, c', us, tail, he, q1, q2, q3, q4, q5⟩
     · rw [e] at h2; simp at h2
     · injection he with e1 e2 e3
       simp only [Option.some.injEq, Addr.mk.injEq, and_true] at e1
       subst e1
       exact q4.frozen _
   have h2' : (i : Int) < l.length := by omega
   have k4 := hc 4 _ rfl
   rw [Nat.zero_add] at k4
   have hf4 : w2.frozen? ⟨b, i * 15 + 4, none⟩ = false := by
     rcases hcp2 with ⟨e, -⟩ | ⟨g, c', us, tail, he, q1, q2, q3, q4, q5⟩
     · rw [e] at h2; simp at h2
     · injection he with e1 e2 e3
       simp only [Option.some.injEq, Addr.mk.injEq, and_true] at e1
       subst e1
       exact q4.frozen _
   obtain ⟨hupd, hbg⟩ := hcp2.upd (x' := { x with status := 3 }) (j := 1) (val := U8 3) hxi rfl rfl (fun _ _ => rfl) (by omega)
   obtain ⟨hupd2, -⟩ := hupd.upd (i := i) (x := { x with status := 3 }) (x' := { x with status := 3, last := n }) (j := 4) (val := U n) (by rw [List.getElem?_set_self h2]) rfl rfl (fun _ _ => rfl) (by omega)
   rw [List.set_set] at hupd2
   have HU := Lib.hid hupd2
   have HK := Lib.hid (show (if p = [49] ∨ 281474976710656 < n then ([], 2) else if x.status ≠ 2 then ([], 3) else (l.set i { x with status := 3, last := n }, 0)) = K by rw [← HK.out, hi]; simp only [hxi])
   clear hi hcp hcp2 hc hsl h1 hxi h3 h4 hupd hupd2
   by_cases s1 : p = [49]
   · have e1 : (p == [49]) = true := by simpa using s1
     have HF := Lib.hid (show (([] : List Mbr), 2) = K by rw [← HK.out, if_pos (.inl s1)])
     subst s1
     clear HK
     go_wp2_with fail
     refine bodyPost_ret (results_tmp2 rfl _ _ _) rfl ?_
     exact ⟨.slice none 0 0, by rw [← HF.out]; rfl, by rw [← HF.out]; exact Sl.nil _ _ (by omega), hxx⟩
   · have e1 : (p == [49]) = false := by simpa using s1
     by_cases s2 : 281474976710656 < n
     · have e2 : (n : Int) > 281474976710656 := by omega
       have HF := Lib.hid (show (([] : List Mbr), 2) = K by rw [← HK.out, if_pos (.inr s2)])
       clear s1 s2 HK
       go_wp2_with fail
       refine bodyPost_ret (results_tmp2 rfl _ _ _) rfl ?_
       exact ⟨.slice none 0 0, by rw [← HF.out]; rfl, by rw [← HF.out]; exact Sl.nil _ _ (by omega), hxx⟩
     · have e2 : ¬ (n : Int) > 281474976710656 := by omega
       have hn : ¬ (p = [49] ∨ 281474976710656 < n) := fun h => by rcases h with h | h; exact s1 h; exact s2 h
       have HK := Lib.hid (show (if x.status ≠ 2 then ([], 3) else (l.set i { x with status := 3, last := n }, 0)) = K by rw [← HK.out, if_neg hn])
       by_cases s3 : x.status = 2
       · have e3 : ((x.status : Int) != 2) = false := by rw [s3]; rfl
         have HF := Lib.hid (show (l.set i { x with status := 3, last := n }, 0) = K by rw [← HK.out, if_neg (by omega)])
         clear s1 s2 s3 HK
         go_wp2_with fail
         refine bodyPost_ret (results_tmp2 rfl _ _ _) rfl ?_
         exact ⟨.slice (some ⟨b, 0, none⟩) l.length c, by rw [← HF.out]; rfl, by rw [← HF.out]; exact HU.out.sl, Below.setCell (Below.setCell hxx hbg _) hbg _⟩
       · have e3 : ((x.status : Int) != 2) = true := by rw [bne_iff_ne]; omega
         have HF := Lib.hid (show (([] : List Mbr), 3) = K by rw [← HK.out, if_pos s3])
         clear s1 s2 s3 HK
         go_wp2_with fail
         refine bodyPost_ret (results_tmp2 rfl _ _ _) rfl ?_
         exact ⟨.slice none 0 0, by rw [← HF.out]; rfl, by rw [← HF.out]; exact Sl.nil _ _ (by omega), hxx⟩
end Go.Proofs.YtblkikjmocnllaaGreatDoor
namespace Go.Proofs.YtblkikjmocnllaaGreatDoor
open Go.RowKit Go.Shelf
def posM (k : List Mbr) (p : Str) : Nat := (k.findIdx? fun x => decide (0 < cmpPath x.path p)).getD k.length
def dropP (l : List Mbr) (p : Str) : List Mbr := l.filter fun x => !decide (x.path = p)
def putM (l : List Mbr) (m : Mbr) : List Mbr := (dropP l m.path).take (posM (dropP l m.path) m.path) ++ m :: (dropP l m.path).drop (posM (dropP l m.path) m.path)
def RdMP (w : World) (S : Nat → Prop) (e : MP) : Prop := Sl spanT w S e.2.1 e.1.gone ∧ Sl wordT w S e.2.2 e.1.words
theorem ownL_mp {w : World} {base : Nat} {S : Nat → Prop} {v : Value} {L : List MP} (h : Own w base 48 15 v L.length (L.flatMap mpC)) (hr : ∀ e ∈ L, RdMP w S e) : OwnL mbrT 48 w base S v (L.map (·.1)) := by
 refine ⟨L.map mpC, by simp, fun i x vs hi hv => ?_, ?_⟩
 · rw [List.getElem?_map] at hi hv
   cases he : L[i]? with
   | none => rw [he] at hi; cases hi
   | some e =>
     rw [he] at hi hv
     cases hi
     cases hv
     exact ⟨e.2.1, e.2.2, rfl, (hr e (List.mem_of_getElem? he)).1, (hr e (List.mem_of_getElem? he)).2⟩
 · rw [List.length_map, ← List.flatMap_def]
   exact h
theorem idxB_pos (p : Mbr → Bool) (L : List MP) : idxB p L = match (L.map (·.1)).findIdx? p with | some i => (i : Int) | none => -1 := by
 unfold idxB
 rw [List.findIdx?_map]
 rfl
theorem mpC_cut (K : List MP) (e : MP) {i : Nat} (hi : i ≤ K.length) : (K.flatMap mpC).take (i * 15) ++ mpC e ++ (K.flatMap mpC).drop (i * 15) = (K.take i ++ e :: K.drop i).flatMap mpC := by
 have h1 : ((K.take i).flatMap mpC).length = i * 15 := by rw [mpC_len, List.length_take, Nat.min_eq_left hi]
 have h2 : K.flatMap mpC = (K.take i).flatMap mpC ++ (K.drop i).flatMap mpC := by rw [← List.flatMap_append, List.take_append_drop]
 rw [h2, List.take_left' h1, List.drop_left' h1, List.flatMap_append, List.flatMap_cons, List.append_assoc]
set_option maxRecDepth 100000 in
set_option maxHeartbeats 1000000 in
theorem put1_any (x : Mbr) {A1 A2 : Option Addr} {n1 c1 n2 c2 : Nat} {mb : Nat} {W : World} {s : Str} (hB : W.cell? ⟨mb, 0, none⟩ = some (St s)) :
   Calls Tryz.prog 83 #[mbrV x (.slice A1 n1 c1) (.slice A2 n2 c2), .pointer (some ⟨mb, 0, none⟩)] W fun e w' => e = .returned (.bool (decide (x.path = s))) ∧ Ext W w' := by
 have hx := (Ext.refl W).alloc (.cells (mbrC x (.slice A1 n1 c1) (.slice A2 n2 c2)).toArray 48)
 have hc := hx.cell hB
 have k0 := (rowNew W 48 (mbrC x (.slice A1 n1 c1) (.slice A2 n2 c2))).cell (j := 0) rfl
 have HF := Lib.hid (show decide (x.path = s) = (x.path == s) by rw [Bool.eq_iff_iff]; simp)
 unfold mbrV
 unfold mbrC at hx hc k0
 go_enter Tryz.func83, Tryz.ntmps83
 go_wp2
 go_ret
 exact ⟨by rw [HF.out]; rfl, hx⟩
set_option maxRecDepth 100000 in
set_option maxHeartbeats 1000000 in
theorem put2_any (x : Mbr) {A1 A2 : Option Addr} {n1 c1 n2 c2 : Nat} {mb : Nat} {W : World} {s : Str} (hB : W.cell? ⟨mb, 0, none⟩ = some (St s)) (h1 : x.path.length < 4294967296) (h2 : s.length < 4294967296) :
   Calls Tryz.prog 85 #[mbrV x (.slice A1 n1 c1) (.slice A2 n2 c2), .pointer (some ⟨mb, 0, none⟩)] W fun e w' => e = .returned (.bool (decide (0 < cmpPath x.path s))) ∧ Ext W w' := by
 have hx := (Ext.refl W).alloc (.cells (mbrC x (.slice A1 n1 c1) (.slice A2 n2 c2)).toArray 48)
 have hc := hx.cell hB
 have k0 := (rowNew W 48 (mbrC x (.slice A1 n1 c1) (.slice A2 n2 c2))).cell (j := 0) rfl
 have HC := Lib.hid (pcmp_any x.path s (by omega) (by omega))
 unfold mbrV
 unfold mbrC at hx hc k0
 generalize cmpPath x.path s = z at *
 go_enter Tryz.func85, Tryz.ntmps85
 go_wp2_with fail
 refine (HC.out _).mono ?_
 rintro e w2 ⟨rfl, hx2⟩
 go_wp2
 go_ret
 exact ⟨rfl, hx.trans hx2⟩
set_option maxRecDepth 100000 in
set_option maxHeartbeats 8000000 in
theorem put_any {S S' : Nat → Prop} {v v1 v2 : Value} {l : List Mbr} {m : Mbr} {w : World} (hv : Sl mbrT w S v l) (sm : SmallL l) (h0 : 0 < l.length) (hp : ∀ x ∈ l, x.path.length < 4294967296) (hm1 : Sl spanT w S' v1 m.gone) (hm2 : Sl wordT w S' v2 m.words)
   (hmp : m.path.length < 4294967296) (hmg : m.gone.length ≤ 4294967296) (hmw : m.words.length ≤ 4294967296) :
   Calls Tryz.prog 31 #[v, mbrV m v1 v2] w fun e w' => ∃ v', e = .returned v' ∧ Sl mbrT w' (fun b => w.heap.size ≤ b) v' (putM l m) ∧ Ext w w' := by
 obtain ⟨A1, c1, rfl, -, -⟩ := hm1.form
 obtain ⟨A2, c2, rfl, -, -⟩ := hm2.form
 have hrm := rowNew w 48 (mbrC m (.slice A1 m.gone.length c1) (.slice A2 m.words.length c2))
 have hx0 := (Ext.refl w).alloc (.cells (mbrC m (.slice A1 m.gone.length c1) (.slice A2 m.words.length c2)).toArray 48)
 have hz0 : w.heap.size < (w.alloc (.cells (mbrC m (.slice A1 m.gone.length c1) (.slice A2 m.words.length c2)).toArray 48)).heap.size := by simp
 have HCP := Lib.hid (copyM_any (hv.ext (by decide) hx0) sm)
 have HM1 := Lib.hid (hm1.ext (by decide) hx0)
 have HM2 := Lib.hid (hm2.ext (by decide) hx0)
 clear hv hm1 hm2
 unfold mbrV
 unfold mbrC at hrm hx0 hz0 HCP HM1 HM2
 go_enter Tryz.func31, Tryz.ntmps31
 go_wp2_with fail
 generalize w.alloc (.cells #[St m.path, U8 m.status, I m.kids, I m.cut, U m.last, .slice A1 m.gone.length c1, St m.plan.keeper, U m.plan.round, St m.plan.live, St m.plan.by_, U m.plan.cap, St m.plan.owner, U m.plan.base, .bool m.plan.done, .slice A2 m.words.length c2] 48) = W0 at *
 refine HCP.out.mono ?_
 rintro e w1 ⟨v', rfl, hcp, hx1⟩
 clear HCP
 rcases hcp with ⟨e, -⟩ | ⟨g, c, us, tail, rfl, hnc, hcm, hg, hrow, ho⟩
 · rw [e] at h0; simp at h0
 have hmb : w.heap.size ≠ g := by omega
 obtain ⟨L, hL⟩ : ∃ L, l.zip us = L := ⟨_, rfl⟩
 have hLl : L.map (·.1) = l := by rw [← hL]; exact List.map_fst_zip (by rw [ho.len]; exact Nat.le_refl _)
 have hLn : L.length = l.length := by rw [← hLl, List.length_map]
 have hEach : ∀ e ∈ L, Own2 w1 W0.heap.size e.1 e.2.1 e.2.2 ∧ (¬ ownBlk e.2.1 g ∧ ¬ ownBlk e.2.2 g) ∧ e.1 ∈ l := fun e he => by
   obtain ⟨i, hi⟩ := List.getElem?_of_mem he
   rw [← hL, List.getElem?_zip_eq_some] at hi
   exact ⟨ho.each i _ _ hi.1 hi.2, ho.row _ (List.mem_of_getElem? hi.2), List.mem_of_getElem? hi.1⟩
 have hForm : ∀ e ∈ L, FormMP e := fun e he => by
   obtain ⟨h2, -, -⟩ := hEach e he
   obtain ⟨x, u1, u2⟩ := e
   obtain ⟨B1, b1, e1, -, -⟩ := h2.gone.form
   obtain ⟨B2, b2, e2, -, -⟩ := h2.words.form
   exact ⟨x, B1, _, b1, B2, _, b2, by simp only at e1 e2; rw [e1, e2]⟩
 have hrowL : RowIs w1 g 48 (L.flatMap mpC) tail := by rw [← hL, ← cellsM_mp]; exact hrow
 rw [← hLn] at hnc
 have hnc0 := hnc
 replace hnc : L.length ≤ c := by omega
 have hC : ∀ W, Ext W0 W → W.cell? ⟨w.heap.size, 0, none⟩ = some (St m.path) := fun W h => (hrm.ext h).cell (j := 0) rfl
 have hq1 : PredP Tryz.prog 83 #[.pointer (some ⟨w.heap.size, 0, none⟩)] (.slice (some ⟨g, 0, none⟩) L.length c) (fun W => W.cell? ⟨w.heap.size, 0, none⟩ = some (St m.path)) (fun x => x.path.length < 4294967296) (fun x => decide (x.path = m.path)) :=
   ⟨enters_of Tryz.func83 (by kernel_rfl) rfl, fun W W' h hb => (World.cell?_of_block (a := ⟨w.heap.size, 0, none⟩) (hb.same _ (blk_of_cell h) (fun ho => by obtain ⟨g', n', c', e, hc, e2⟩ := ho; cases e; exact hmb e2))).trans h, fun x B1 n1 c1 B2 n2 c2 W _ h => put1_any x h⟩
 have hq2 : ∀ n, PredP Tryz.prog 85 #[.pointer (some ⟨w.heap.size, 0, none⟩)] (.slice (some ⟨g, 0, none⟩) n c) (fun W => W.cell? ⟨w.heap.size, 0, none⟩ = some (St m.path)) (fun x => x.path.length < 4294967296) (fun x => decide (0 < cmpPath x.path m.path)) :=
   fun n => ⟨enters_of Tryz.func85 (by kernel_rfl) rfl, fun W W' h hb => (World.cell?_of_block (a := ⟨w.heap.size, 0, none⟩) (hb.same _ (blk_of_cell h) (fun ho => by obtain ⟨g', n', c', e, hc, e2⟩ := ho; cases e; exact hmb e2))).trans h, fun x B1 n1 c1 B2 n2 c2 W hl h => put2_any x h hl hmp⟩
 have HDL := Lib.hid (delete_mbr hrowL (fun e he => ⟨hForm e he, hp e.1 (hEach e he).2.2⟩) (by omega) hnc hcm hq1 (hC w1 hx1))
 rw [hLn] at HDL
 clear hrow hrowL hq1
 go_wp2_with fail
 refine HDL.out.mono ?_
 rintro e w2 ⟨tail2, rfl, hrow2, hbv, htl⟩
 clear HDL
 obtain ⟨K, hK⟩ : ∃ K, (L.filter fun e => !decide (e.1.path = m.path)) = K := ⟨_, rfl⟩
 rw [hK] at hrow2 htl ⊢
 have hKsub : ∀ e ∈ K, e ∈ L := fun e he => by rw [← hK] at he; exact (List.mem_filter.1 he).1
 have hKl : K.map (·.1) = dropP l m.path := by
   rw [← hK, ← hLl]
   unfold dropP
   rw [List.filter_map]
   rfl
 have hKn : K.length ≤ L.length := by rw [← hK]; exact List.length_filter_le _ _
 have hC2 : w2.cell? ⟨w.heap.size, 0, none⟩ = some (St m.path) := (World.cell?_of_block (a := ⟨w.heap.size, 0, none⟩) (hbv.same _ (show w.heap.size < w1.heap.size by have := hx1.size; omega) (fun ho => by obtain ⟨g', n', c', e, hc, e2⟩ := ho; cases e; exact hmb e2))).trans (hC w1 hx1)
 have HIX := Lib.hid (index_mbr (cap := c) hrow2 (fun e he => ⟨hForm e (hKsub e he), hp e.1 (hEach e (hKsub e he)).2.2⟩) (by omega) (hq2 K.length) hC2)
 have hrm2 : RowIs w2 w.heap.size 48 [St m.path, U8 m.status, I m.kids, I m.cut, U m.last, .slice A1 m.gone.length c1, St m.plan.keeper, U m.plan.round, St m.plan.live, St m.plan.by_, U m.plan.cap, St m.plan.owner, U m.plan.base, .bool m.plan.done, .slice A2 m.words.length c2] [] := (hbv.same _ (show w.heap.size < w1.heap.size by have := hx1.size; omega) (fun ho => by obtain ⟨g', n', c', e, hc, e2⟩ := ho; cases e; exact hmb e2)).trans (hrm.ext hx1)
 obtain ⟨z, hz⟩ : ∃ z, idxB (fun x => decide (0 < cmpPath x.path m.path)) K = z := ⟨_, rfl⟩
 obtain ⟨i, hpi, hil, hzi⟩ : ∃ i, posM (dropP l m.path) m.path = i ∧ i ≤ K.length ∧ ((z = (i : Int)) ∨ (z = -1 ∧ i = K.length)) := by
   refine ⟨_, rfl, ?_, ?_⟩
   · unfold posM
     rw [← hKl]
     cases h : (K.map (·.1)).findIdx? fun x => decide (0 < cmpPath x.path m.path) with
     | none => simp
     | some i => have := (List.findIdx?_eq_some_iff_findIdx_eq.1 h).1; simp at this; simp; omega
   · rw [← hz, idxB_pos, hKl]
     unfold posM
     cases (dropP l m.path).findIdx? fun x => decide (0 < cmpPath x.path m.path) with
     | none => right; simp [← hKl]
     | some i => left; rfl
 rw [hz] at HIX
 have hE02 : Ext W0 w2 := ⟨hbv.os.trans hx1.os, hbv.tape.trans hx1.tape, hbv.output.trans hx1.output, Nat.le_trans hx1.size hbv.size, fun b hb => (hbv.same b (Nat.lt_of_lt_of_le hb hx1.size) (fun ho => by obtain ⟨g', n', c', e, hc, e2⟩ := ho; cases e; omega)).trans (hx1.block b hb)⟩
 have hO2 : ∀ e ∈ K, Own2 w2 W0.heap.size e.1 e.2.1 e.2.2 ∧ ¬ ownBlk e.2.1 g ∧ ¬ ownBlk e.2.2 g := fun e he => by
   obtain ⟨h2, ⟨n1, n2⟩, -⟩ := hEach e (hKsub e he)
   refine ⟨h2.keep fun b hb hlt => hbv.same b hlt (fun ho => ?_), n1, n2⟩
   obtain ⟨g', n', c', e', hc, e2⟩ := ho
   cases e'
   subst e2
   exact hb.elim n1 n2
 have HINS0 : (∀ (W4 : World) (u1 u2 : Value), Ext w2 W4 → Own2 W4 w2.heap.size m u1 u2 → (∃ B1 b1, u1 = .slice B1 m.gone.length b1) → (∃ B2 b2, u2 = .slice B2 m.words.length b2) → Calls Tryz.prog 86 #[.slice (some ⟨g, 0, none⟩) K.length c, I i, .slice (some ⟨W4.heap.size, 0, none⟩) 1 1] (W4.alloc (.cells (mbrC m u1 u2).toArray 48)) fun e w' => ∃ v', e = .returned v' ∧ Sl mbrT w' (fun b => w.heap.size ≤ b) v' (putM l m) ∧ Ext W0 w') := by
   rintro W4 u1 u2 h4 ho2 ⟨B1, b1, rfl⟩ ⟨B2, b2, rfl⟩
   have h4a := h4.alloc (.cells (mbrC m (.slice B1 m.gone.length b1) (.slice B2 m.words.length b2)).toArray 48)
   have r4 := rowNew W4 48 (mbrC m (.slice B1 m.gone.length b1) (.slice B2 m.words.length b2))
   have ho2a := ho2.ext ((Ext.refl W4).alloc (.cells (mbrC m (.slice B1 m.gone.length b1) (.slice B2 m.words.length b2)).toArray 48))
   have hsz : w2.heap.size ≤ W4.heap.size := h4.size
   have hsz2 : W0.heap.size ≤ w2.heap.size := hE02.size
   generalize W4.alloc (.cells (mbrC m (.slice B1 m.gone.length b1) (.slice B2 m.words.length b2)).toArray 48) = W5 at *
   have hgw : g < w2.heap.size := hrow2.lt
   have hown : Own W5 W0.heap.size 48 15 (.slice (some ⟨g, 0, none⟩) K.length c) K.length (K.flatMap mpC) := (hrow2.ext h4a).own hg (by omega) hcm (by rw [List.length_append, mpC_len]; omega) (List.take_of_length_le (by rw [mpC_len]; exact Nat.le_refl _)) (mpC_len K)
   refine (insertC_any hown r4 rfl (fun u hu => by simp [mbrC] at hu; rcases hu with h | h | h | h | h | h | h | h | h | h | h | h | h | h | h <;> subst h <;> rfl) (fun u hu => ?_) hil (by have := sm.len; omega) (by have := h4a.size; omega) (fun ho => by obtain ⟨g', n', c', e, hc, e2⟩ := ho; cases e; omega)).mono ?_
   · obtain ⟨e, he, hu⟩ := List.mem_flatMap.1 hu
     obtain ⟨x, A1, n1, c1, A2, n2, c2, rfl⟩ := hForm e (hKsub e he)
     simp [mpC, mbrC] at hu
     rcases hu with h | h | h | h | h | h | h | h | h | h | h | h | h | h | h <;> subst h <;> rfl
   · rintro e W6 ⟨v', rfl, hv6, hg6⟩
     refine ⟨v', rfl, ?_, (hE02.trans h4a).grew hg6 (fun b hb => (hown.base_le hb).1)⟩
     obtain ⟨q, hq⟩ : ∃ q : MP, q = (m, .slice B1 m.gone.length b1, .slice B2 m.words.length b2) := ⟨_, rfl⟩
     have e1 := mpC_cut K q hil
     rw [show mbrC m (.slice B1 m.gone.length b1) (.slice B2 m.words.length b2) = mpC q by rw [hq]; rfl, e1] at hv6
     have hn6 : K.length + 1 = (K.take i ++ q :: K.drop i).length := by simp; omega
     rw [hn6] at hv6
     have hfst : (K.take i ++ q :: K.drop i).map (·.1) = putM l m := by
       unfold putM
       rw [hpi, ← hKl]
       simp [List.map_take, List.map_drop, hq]
     have hin : ∀ e ∈ K.take i ++ q :: K.drop i, e = q ∨ e ∈ K := fun e he => by
       rcases List.mem_append.1 he with h | h
       · exact .inr (List.mem_of_mem_take h)
       · rcases List.mem_cons.1 h with h | h
         · exact .inl h
         · exact .inr (List.mem_of_mem_drop h)
     have hsame : ∀ b, b < W5.heap.size → b ≠ g → W6.heap[b]? = W5.heap[b]? := fun b hb hn => hg6.same b hb (fun ho => by
       obtain ⟨g', n', c', e, hc, e2⟩ := ho
       cases e
       exact hn e2)
     rw [← hfst]
     refine (ownL_mp (S := fun b => W0.heap.size ≤ b) hv6 (fun e he => ?_)).sl (by decide) (fun b _ hb => by omega) (fun b hb _ => by omega)
     have h2 : Own2 W6 W0.heap.size e.1 e.2.1 e.2.2 := by
       rcases hin e he with rfl | hk
       · rw [hq]
         exact (ho2a.keep fun b hb hlt => hsame b hlt (by have := (ho2a.base_le hb).1; omega)).lower hsz2
       · obtain ⟨h2, n1, n2⟩ := hO2 e hk
         exact (h2.ext h4a).keep fun b hb hlt => hsame b hlt (fun e => by subst e; exact hb.elim n1 n2)
     exact ⟨own_slSpan h2.gone, own_slWord h2.words⟩
 have HR2 := Lib.hid hrow2
 have HINS := Lib.hid HINS0
 clear HINS0
 clear hrow2 hq2 hC2 hrm hForm hEach hbv hO2
 go_wp2_with fail
 refine HIX.out.mono ?_
 rintro e w3 ⟨rfl, hx3⟩
 clear HIX
 have HN1 := Lib.hid ((HM1.out.ext (by decide) hE02).ext (by decide) hx3)
 have HN2 := Lib.hid ((HM2.out.ext (by decide) hE02).ext (by decide) hx3)
 have HX23 := Lib.hid hx3
 have HS := Lib.hid hx3.size
 have HZ := Lib.hid hx0
 clear HM1 HM2
 obtain ⟨k0, k1, k2, k3, k4, k5, k6, k7, k8, k9, k10, k11, k12, k13, k14⟩ := (hrm2.ext hx3).c15
 clear hx3 hrm2 hx0 hz0 hx1 hE02
 rcases hzi with rfl | ⟨rfl, rfl⟩
 case' inl =>
   have d : decide ((i : Int) < 0) = false := by simp
   go_wp2_with fail
 case' inr => go_wp2_with fail
 all_goals
   refine (one_any HN1.out HN2.out hmg hmw).mono ?_
   rintro e W4 ⟨u1, u2, rfl, ho2, hx4⟩
   obtain ⟨B1, b1, rfl, -, -⟩ := ho2.gone.form
   obtain ⟨B2, b2, rfl, -, -⟩ := ho2.words.form
   have HCALL := Lib.hid (HINS.out W4 _ _ (HX23.out.trans hx4) ⟨ho2.gone.lower HS.out, ho2.words.lower HS.out, ho2.apart⟩ ⟨_, _, rfl⟩ ⟨_, _, rfl⟩)
   unfold mbrV
   clear hx4 ho2 HINS
   go_wp2_with fail
   refine HCALL.out.mono ?_
   rintro e W6 ⟨v', rfl, hs, hx⟩
   clear HCALL
   go_wp2
   go_ret
   exact ⟨v', rfl, hs, HZ.out.trans hx⟩
end Go.Proofs.YtblkikjmocnllaaGreatDoor
namespace Go.Proofs.YtblkikjmocnllaaGreatDoor
open Go.RowKit Go.Shelf
def newM (child : Str) (x : Mbr) : Mbr := { path := child, status := 1, kids := 0, cut := 0, last := 0, gone := [], plan := plan0, words := x.words }
def admitM (l : List Mbr) (p : Str) : List Mbr × Str × Nat := match idxP l p with
 | none => ([], [], 200)
 | some i => match l[i]? with
   | none => ([], [], 200)
   | some x => if x.status ≠ 2 then ([], [], 200) else if 24 ≤ l.length ∨ 1073741824 ≤ x.kids then ([], [], 6)
     else if (childP p (x.kids + 1)).2 ≠ 0 then ([], [], (childP p (x.kids + 1)).2)
     else (putM (l.set i { x with kids := x.kids + 1 }) (newM (childP p (x.kids + 1)).1 x), (childP p (x.kids + 1)).1, 0)
theorem set_cut {α : Type} {l : List α} {i : Nat} {x : α} (h : i < l.length) : l.set i x = (l.set i x).take i ++ x :: (l.set i x).drop (i + 1) := by
 have hi : i < (l.set i x).length := by simpa using h
 have e : (l.set i x).drop i = x :: (l.set i x).drop (i + 1) := by rw [List.drop_eq_getElem_cons hi, List.getElem_set_self]
 rw [← e, List.take_append_drop]
theorem childP_len {p : Str} {n : Int} (h : p.length < 3000000000) (hn : n ≤ 1073741824) : (childP p n).1.length < 4294967296 := by
 unfold childP
 split
 · simp
 · split
   · simp
   · split
     · simp
     · rename_i h1 h2 h3
       have hn1 : 1 ≤ n := by omega
       have := digits_len n.toNat
       rw [itoa_pos hn1]
       simp only [List.length_append, List.length_cons]
       omega
set_option maxRecDepth 100000 in
set_option maxHeartbeats 8000000 in
theorem admit_any {S : Nat → Prop} {v : Value} {l : List Mbr} {w : World} (hv : Sl mbrT w S v l) (sm : SmallL l) (hp : ∀ x ∈ l, x.path.length < 3000000000) (hk : ∀ x ∈ l, -9223372036854775808 ≤ x.kids) (p : Str) (ht : Pow w) :
   Calls Tryz.prog 11 #[v, St p] w fun e w' => ∃ v', e = .returned (.tuple #[v', St (admitM l p).2.1, I (admitM l p).2.2]) ∧ Sl mbrT w' (fun b => w.heap.size ≤ b) v' (admitM l p).1 ∧ Ext w w' := by
 have HC := Lib.hid (copyM_any hv sm)
 have hz : ∀ w, (zeroValue 3).run Tryz.prog w = .ok (I (0 : Nat)) w := Tryz.zeroValue3
 obtain ⟨K, hK⟩ : ∃ K, admitM l p = K := ⟨_, rfl⟩
 rw [hK]
 have HK := Lib.hid hK
 have HT := Lib.hid ht
 clear hv hK ht
 unfold admitM at HK
 go_enter Tryz.func11, Tryz.ntmps11
 go_wp2_with fail
 refine HC.out.mono ?_
 rintro e w1 ⟨v1, rfl, hcp, hx1⟩
 have HPL := Lib.hid (places_any hcp.sl)
 go_wp2_with fail
 refine HPL.out.mono ?_
 rintro e w2 ⟨q, rfl, hq, hm, hx2⟩
 have hlk := places_run hm hz p
 clear hm HPL HC
 cases hi : idxP l p with
 | none =>
   rw [hi] at hlk
   simp only [Option.getD_none, Option.isSome_none] at hlk
   have HF := Lib.hid (show (([] : List Mbr), ([] : Str), 200) = K by rw [← HK.out, hi])
   clear hi hcp
   go_wp2_with fail
   refine bodyPost_ret (results_tmp3 rfl _ _ _) rfl ?_
   exact ⟨.slice none 0 0, by rw [← HF.out]; rfl, by rw [← HF.out]; exact Sl.nil _ _ (by omega), hx1.trans hx2⟩
 | some i =>
   rw [hi] at hlk
   simp only [Option.getD_some, Option.isSome_some] at hlk
   obtain ⟨x, h1, h1', h2, h3, h4⟩ := idx_some hi
   have hxi : l[i]? = some x := by unfold atP at h1; rw [hi] at h1; exact h1
   have hxm : x ∈ l := List.mem_of_getElem? hxi
   have hsl := hcp.sl
   obtain ⟨A, c, rfl, -, -⟩ := hsl.form
   have hxx := hx1.trans hx2
   have hcp2 : CopyM w2 w.heap.size (.slice A l.length c) l := by
     rcases hcp with ⟨e, a, b, e2, e3⟩ | ⟨g, c', us, tail, he, q1, q2, q3, q4, q5⟩
     · exact .inl ⟨e, a, b, e2, e3⟩
     · exact .inr ⟨g, c', us, tail, he, q1, q2, q3, q4.ext hx2, q5.ext hx2⟩
   obtain ⟨b, o, B1, d1, B2, d2, rfl, -, -, -, hc⟩ := mbr_at (wr := w2) hcp2.sl (fun _ _ _ => rfl) h3
   rw [h4] at hc
   have hob : o = 0 := by
     rcases hcp2 with ⟨e, -⟩ | ⟨g, c', us, tail, he, -⟩
     · rw [e] at h2; simp at h2
     · injection he with e1 e2 e3; simp only [Option.some.injEq, Addr.mk.injEq] at e1; exact e1.2.1
   subst hob
   have k1 := hc 1 _ rfl
   have k2 := hc 2 _ rfl
   rw [Nat.zero_add] at k1 k2
   have h2' : (i : Int) < l.length := by omega
   have HK := Lib.hid (show (if x.status ≠ 2 then (([] : List Mbr), ([] : Str), 200) else if 24 ≤ l.length ∨ 1073741824 ≤ x.kids then ([], [], 6)
     else if (childP p (x.kids + 1)).2 ≠ 0 then ([], [], (childP p (x.kids + 1)).2)
     else (putM (l.set i { x with kids := x.kids + 1 }) (newM (childP p (x.kids + 1)).1 x), (childP p (x.kids + 1)).1, 0)) = K by rw [← HK.out, hi]; simp only [hxi])
   have hkx := hk x hxm
   have hpx : p.length < 3000000000 := by rw [← h1']; exact hp x hxm
   have hf2 : w2.frozen? ⟨b, i * 15 + 2, none⟩ = false := by
     rcases hcp2 with ⟨e, -⟩ | ⟨g, c', us, tail, he, q1, q2, q3, q4, q5⟩
     · rw [e] at h2; simp at h2
     · injection he with e1 e2 e3
       simp only [Option.some.injEq, Addr.mk.injEq, and_true] at e1
       subst e1
       exact q4.frozen _
   have HCP := Lib.hid hcp2
   have HX := Lib.hid hxi
   have HM := Lib.hid hxm
   clear hi hcp hc hsl h1 h1' h3 h4 hcp2 hxi hxm
   by_cases s1 : x.status = 2
   case neg =>
     have e1 : ((x.status : Int) != 2) = true := by rw [bne_iff_ne]; omega
     have HF := Lib.hid (show (([] : List Mbr), ([] : Str), 200) = K by rw [← HK.out, if_pos s1])
     clear s1 HK
     go_wp2_with fail
     refine bodyPost_ret (results_tmp3 rfl _ _ _) rfl ?_
     exact ⟨.slice none 0 0, by rw [← HF.out]; rfl, by rw [← HF.out]; exact Sl.nil _ _ (by omega), hxx⟩
   have e1 : ((x.status : Int) != 2) = false := by rw [s1]; rfl
   have HK := Lib.hid (HK.out.symm.trans (if_neg (by omega)))
   by_cases s2 : 24 ≤ l.length
   case pos =>
     have e2 : (l.length : Int) ≥ 24 := by omega
     have HF := Lib.hid (HK.out.trans (if_pos (.inl s2)))
     clear s1 s2 HK
     go_wp2_with fail
     refine bodyPost_ret (results_tmp3 rfl _ _ _) rfl ?_
     exact ⟨.slice none 0 0, by rw [HF.out]; rfl, by rw [HF.out]; exact Sl.nil _ _ (by omega), hxx⟩
   have e2 : ¬ (l.length : Int) ≥ 24 := by omega
   by_cases s3 : 1073741824 ≤ x.kids
   case pos =>
     have e3 : x.kids ≥ 1073741824 := by omega
     have HF := Lib.hid (HK.out.trans (if_pos (.inr s3)))
     clear s1 s2 s3 HK
     go_wp2_with fail
     refine bodyPost_ret (results_tmp3 rfl _ _ _) rfl ?_
     exact ⟨.slice none 0 0, by rw [HF.out]; rfl, by rw [HF.out]; exact Sl.nil _ _ (by omega), hxx⟩
   have e3 : ¬ x.kids ≥ 1073741824 := by omega
   have HK := Lib.hid (HK.out.trans (if_neg (fun h => by rcases h with h | h; exact s2 h; exact s3 h)))
   have HCH := Lib.hid (child_any p (by omega) (x.kids + 1) w2 (HT.out.below hxx) (by omega))
   have hcl := childP_len (p := p) (n := x.kids + 1) hpx (by omega)
   clear s1 s2
   go_wp2_with fail
   refine HCH.out.mono ?_
   rintro e w3 ⟨rfl, hx3⟩
   clear HCH
   generalize childP p (x.kids + 1) = Z at *
   obtain ⟨ch, er⟩ := Z
   have hcl : ch.length < 4294967296 := hcl
   by_cases s4 : er = 0
   case neg =>
     have e4 : ((er : Int) != 0) = true := by rw [bne_iff_ne]; omega
     have HF := Lib.hid (HK.out.trans (if_pos s4))
     clear s3 s4 HK
     go_wp2_with fail
     refine bodyPost_ret (results_tmp3 rfl _ _ _) rfl ?_
     exact ⟨.slice none 0 0, by rw [HF.out]; rfl, by rw [HF.out]; exact Sl.nil _ _ (by omega), hxx.trans hx3⟩
   have e4 : ((er : Int) != 0) = false := by rw [s4]; rfl
   have HF := Lib.hid (HK.out.trans (if_neg (fun h => h s4)))
   have k2 := hx3.cell k2
   have hcp3 : CopyM w3 w.heap.size (.slice (some ⟨b, 0, none⟩) l.length c) l := by
     rcases HCP.out with ⟨e, a, b, e2, e3⟩ | ⟨g, c', us, tail, he, q1, q2, q3, q4, q5⟩
     · exact .inl ⟨e, a, b, e2, e3⟩
     · exact .inr ⟨g, c', us, tail, he, q1, q2, q3, q4.ext hx3, q5.ext hx3⟩
   have hf2 : w3.frozen? ⟨b, i * 15 + 2, none⟩ = false := by
     rcases hcp3 with ⟨e, -⟩ | ⟨g, c', us, tail, he, q1, q2, q3, q4, q5⟩
     · rw [e] at h2; simp at h2
     · injection he with e1 e2 e3
       simp only [Option.some.injEq, Addr.mk.injEq, and_true] at e1
       subst e1
       exact q4.frozen _
   obtain ⟨hupd, hbg⟩ := hcp3.upd (x' := { x with kids := x.kids + 1 }) (j := 2) (val := I (x.kids + 1)) HX.out rfl rfl (fun _ _ => rfl) (by omega)
   have hxz : Ext w (w3.setCell ⟨b, i * 15 + 2, none⟩ (I (x.kids + 1))) := Below.setCell (hxx.trans hx3) hbg _
   have hl4 := set_cut (x := { x with kids := x.kids + 1 }) h2
   have hln : (l.set i { x with kids := x.kids + 1 }).length = l.length := by simp
   have hsl4 := hupd.sl
   rw [← hln] at hsl4
   obtain ⟨b', o', B3, d3, B4, d4, he, -, -, hwd, hc⟩ := mbr_at (wr := w3.setCell ⟨b, i * 15 + 2, none⟩ (I (x.kids + 1))) hsl4 (fun _ _ _ => rfl) hl4
   cases he
   have k3 := hc 14 _ rfl
   rw [Nat.zero_add, List.length_take, Nat.min_eq_left (by omega)] at k3
   have hwd : Sl wordT (w3.setCell ⟨b, i * 15 + 2, none⟩ (I (x.kids + 1))) (fun b => w.heap.size ≤ b) (.slice B4 x.words.length d4) x.words := hwd
   rw [hln] at hsl4
   have HW := Lib.hid hwd
   have HS := Lib.hid hsl4
   clear hc hwd hsl4 hupd hcp3 hl4 hln s3 s4 HK hx3 hxx
   have hsm : SmallL (l.set i { x with kids := x.kids + 1 }) := ⟨by rw [List.length_set]; exact sm.len, fun y hy => by
     rcases List.mem_or_eq_of_mem_set hy with h | rfl
     · exact sm.each y h
     · exact sm.each x HM.out⟩
   have hpp : ∀ y ∈ l.set i { x with kids := x.kids + 1 }, y.path.length < 4294967296 := fun y hy => by
     rcases List.mem_or_eq_of_mem_set hy with h | rfl
     · exact Nat.lt_of_lt_of_le (hp y h) (by decide)
     · exact Nat.lt_of_lt_of_le (hp x HM.out) (by decide)
   have hlen : 0 < (l.set i { x with kids := x.kids + 1 }).length := by rw [List.length_set]; omega
   have hww := (sm.each x HM.out).2
   go_wp2_with fail
   have hxa := (Ext.refl (w3.setCell ⟨b, i * 15 + 2, none⟩ (.int .i64 (x.kids + 1)))).alloc (.cells #[St ch, .int .u8 1, .int .i64 0, .int .i64 0, .int .u64 0, .slice none 0 0, .string ⟨#[]⟩, .int .u64 0, .string ⟨#[]⟩, .string ⟨#[]⟩, .int .u64 0, .string ⟨#[]⟩, .int .u64 0, .bool false, .slice B4 x.words.length d4] 48)
   refine (put_any (m := newM ch x) (v1 := .slice none 0 0) (v2 := .slice B4 x.words.length d4) (HS.out.ext (by decide) hxa) hsm hlen hpp (Sl.nil (S := fun b => w.heap.size ≤ b) none 0 (by omega)) (HW.out.ext (by decide) hxa) hcl (Nat.zero_le _) hww).mono ?_
   rintro e W6 ⟨v', rfl, hs, hx6⟩
   have hx7 := (Ext.trans hxz hxa).trans hx6
   have hs7 := hs.mono (S' := fun b => w.heap.size ≤ b) (by decide) (fun b _ h => Nat.le_trans (Ext.trans hxz hxa).size h)
   have HS7 := Lib.hid hs7
   clear hs hs7 hx6 hxa hxz HS HW
   go_wp2
   refine bodyPost_ret (results_tmp3 rfl _ _ _) rfl ?_
   exact ⟨v', by rw [HF.out]; rfl, by rw [HF.out]; exact HS7.out, hx7⟩
end Go.Proofs.YtblkikjmocnllaaGreatDoor
namespace Go.Proofs.YtblkikjmocnllaaGreatDoor
open Go.RowKit Go.Shelf
theorem sl_at {α : Type} {T : Shape α} {hk : 0 < T.k} {w wr : World} {S : Nat → Prop} {A : Option Addr} {n c : Nat} {ls pre post : List (List α)} {l : List α} (h : Sl (slT T hk) w S (.slice A n c) ls) (hb : Ext w wr) (hl : ls = pre ++ l :: post) :
   ∃ b o v, A = some ⟨b, o, none⟩ ∧ wr.cell? ⟨b, o + pre.length, none⟩ = some v ∧ Sl T w S v l := by
 obtain ⟨b, o, vs, c', hv, hS, ⟨v, rfl, hv1⟩, hc⟩ := h.at_ hl
 injection hv with e1 e2 e3
 subst e1
 have h0 := hc 0 _ rfl
 simp only [slT, Nat.mul_one, Nat.add_zero] at h0
 exact ⟨b, o, v, rfl, hb.cell h0, hv1⟩
set_option maxRecDepth 100000 in
set_option maxHeartbeats 1000000 in
theorem growSp_any (n : Nat) (w : World) (hn : n ≤ 1099511627776) :
   Calls Tryz.prog 171 #[.slice none 0 0, I n] w fun r w' => ∃ v, r = .returned v ∧ Own w' w.heap.size 76 2 v 0 [] ∧ Ext w w' := by
 rcases Nat.eq_zero_or_pos n with rfl | h0
 · go_enter Tryz.func171, Tryz.ntmps171
   go_wp2
   go_ret
   exact ⟨_, rfl, Own.nil _ _ _ _ _, Ext.refl _⟩
 · obtain ⟨i0, hi0, hz0, hzs, hzb⟩ := info_parts info_span
   have hold : (Builtin.firstCells i0.size 0 (.slice none 0 0)).run Tryz.prog w.drew = .ok ([] : List Value).toArray w.drew := run_firstCells_none w.drew i0.size 0 0 0
   obtain ⟨G, hG⟩ : ∃ G, G = grownCap w n 0 76 := ⟨_, rfl⟩
   have hGn : n ≤ G := by rw [hG]; exact grownCap_ge w _ _ _
   have hG63 : G ≤ 9223372036854775807 := by
     have := grownCap_le_maxLen w n 0 76 (by unfold maxLen; omega)
     rw [← hG] at this
     unfold maxLen at this
     omega
   obtain ⟨Z, hZ⟩ : ∃ Z : Array Value, Z = (#[] ++ Builtin.zeroCells (spanV (0, 0)).cells n ++ Builtin.zeroCells (spanV (0, 0)).cells (G - n)) := ⟨_, rfl⟩
   have hZs : Z.size = G * 2 := by
     rw [hZ]
     have : (spanV (0, 0)).cells.size = 2 := rfl
     simp only [Array.size_append, size_zeroCells, this]
     simp
     omega
   have hrz : ∀ ty, (Builtin.append_ #[41, 3] ty #[.slice none 0 0, .int .i64 (n : Int)]).run Tryz.prog w =
       .ok (.slice (some ⟨w.heap.size, 0, none⟩) n G) (w.drew.alloc (.cells Z 76)) := fun ty => by
     have h := Lib.run_append_grow_zeros w 41 3 ty 76 i0 _ .i64 .i64 Tryz.underlying41 Tryz.underlying3 hi0 hz0 none 0 0 [] hold n h0 (by omega) (by omega) (by omega) (by rw [hzb]; omega) (by rw [hzb]; exact growslice_fits (by omega) (by omega))
     simp only [Nat.zero_add] at h
     rw [← hG] at h
     rw [h, hZ]
   have hpos : (n : Int) > 0 := by omega
   have hw1 : wrap64 ((n : Int) - 0) = n := by unfold wrap64; omega
   have hown : Own (w.drew.alloc (.cells Z 76)) w.heap.size 76 2 (.slice (some ⟨w.heap.size, 0, none⟩) 0 G) 0 [] :=
     Own.of_ownsRow (World.ownsRow_made (base := w.heap.size) w.drew Z G (Nat.le_refl _) (by unfold maxLen; omega) hZs)
   have hx : Ext w (w.drew.alloc (.cells Z 76)) := (Ext.refl w).drew.alloc _
   have HOW := Lib.hid hown
   have HX := Lib.hid hx
   clear hown hx hold hi0 hz0 hzs hzb hG hZ hZs
   go_enter Tryz.func171, Tryz.ntmps171
   go_wp2_with (at_builtin; refine wpList_append_runI _ rfl _ _ 41 3 rfl _ _ rfl rfl (hrz _) ?_; clear hrz)
   all_goals (go_ret; exact ⟨_, rfl, HOW.out, HX.out⟩)
theorem src_span {w : World} {S : Nat → Prop} {A : Option Addr} {n c : Nat} {l : List Span} (h : Sl spanT w S (.slice A n c) l) : Src w 2 A l.length (l.flatMap spanC) := by
 obtain ⟨vss, h1, h2, h3⟩ := h.src
 have : vss = l.map spanC := by
   refine List.ext_getElem? fun i => ?_
   rw [List.getElem?_map]
   cases hl : l[i]? with
   | none => rw [List.getElem?_eq_none_iff] at hl; exact List.getElem?_eq_none_iff.2 (by omega)
   | some x =>
     cases hv : vss[i]? with
     | none => rw [List.getElem?_eq_none_iff] at hv; have := (List.getElem?_eq_some_iff.1 hl).1; omega
     | some vs => simp only [Option.map_some]; congr 1; exact h2 i x vs hl hv
 subst this
 rw [List.flatMap_def]
 exact h3
set_option maxRecDepth 100000 in
set_option maxHeartbeats 1000000 in
theorem concatSp_any {S : Nat → Prop} {v : Value} {ls : List (List Span)} {w : World} (hv : Sl (slT spanT (by decide)) w S v ls) (hlen : ls.flatten.length ≤ 1099511627776) :
   Calls Tryz.prog 140 #[v] w fun r w' => ∃ v', r = .returned v' ∧ Own w' w.heap.size 76 2 v' ls.flatten.length (ls.flatten.flatMap spanC) ∧ Ext w w' := by
 have hv' := hv
 obtain ⟨A, c, rfl, hc1, hc2⟩ := hv.form
 have HAT := Lib.hid (fun (pre post : List (List Span)) (l : List Span) (wr : World) (h : Ext w wr) (hl : ls = pre ++ l :: post) => sl_at hv' h hl)
 have HLE := Lib.hid (fun (pre post : List (List Span)) (l : List Span) (hl : ls = pre ++ l :: post) => (show pre.flatten.length + l.length ≤ 1099511627776 from by
   have := hlen
   rw [hl, List.flatten_append, List.flatten_cons, List.length_append, List.length_append] at this
   omega))
 have HG := Lib.hid (growSp_any ls.flatten.length w hlen)
 clear hv hv'
 go_enter Tryz.func140, Tryz.ntmps140
 go_wp2_with fail
 go_loopw [3, 11] (fun z i wr => ∃ pre post, ls = pre ++ post ∧ i = I pre.length ∧ z = I pre.flatten.length ∧ wr = w) (fun _ i _ => ls.length - (intOf i).toNat)
 case atStart => exact ⟨[], ls, rfl, rfl, rfl, rfl⟩
 case round =>
   obtain ⟨pre, post, hl, rfl, rfl, rfl⟩ := hrel
   cases post with
   | cons l post =>
     obtain ⟨b, o, vl, rfl, hd, hsl⟩ := HAT.out pre post l _ (Ext.refl _) hl
     have hlt : pre.length < ls.length := by rw [hl]; simp
     obtain ⟨A2, c2, rfl, hc3, hc4⟩ := hsl.form
     have hle := HLE.out pre post l hl
     have hwz : wrap64 ((pre.flatten.length : Int) + (l.length : Int)) = ((pre.flatten.length + l.length : Nat) : Int) := by unfold wrap64; omega
     have hneg : (((pre.flatten.length + l.length : Nat) : Int) < 0) = False := eq_false (by omega)
     have HL := Lib.hid hl
     obtain ⟨z, hz⟩ : ∃ z, z = pre.flatten.length := ⟨_, rfl⟩
     have HZ := Lib.hid hz
     rw [← hz] at hwz hneg ⊢
     clear hl hsl hle hz
     go_wp2_with fail
     go_roundw
     case rel => exact ⟨pre ++ [l], post, by rw [HL.out]; simp, by simp, by rw [List.flatten_append, List.flatten_cons, List.flatten_nil, List.append_nil, List.length_append, ← HZ.out]; first | rfl | rw [hwz] | simp, by first | rfl | trivial⟩
     case measure => simp [intOf]; omega
   | nil =>
     rw [List.append_nil] at hl
     have HL := Lib.hid hl
     have hlen2 : ls.length = pre.length := by rw [hl]
     have HF := Lib.hid (show ls.flatten.length = pre.flatten.length by rw [hl])
     have HG2 := HG.out
     rw [HF.out] at HG2
     obtain ⟨z, hz⟩ : ∃ z, z = pre.flatten.length := ⟨_, rfl⟩
     rw [← hz] at HG2 ⊢
     have HG3 := Lib.hid HG2
     clear hl hz HG2 HG HF HL
     go_wp2_with fail
     refine HG3.out.mono ?_
     rintro r W1 ⟨v1, rfl, hown1, hx1⟩
     obtain ⟨A1, c1, rfl, -, -⟩ := hown1.form
     have HO1 := Lib.hid hown1
     have HX1 := Lib.hid hx1
     clear hown1 hx1
     go_wp2_with fail
     go_loopw [6, 27] (fun u i wr => ∃ pre post, ls = pre ++ post ∧ i = I pre.length ∧ Own wr _ 76 2 u pre.flatten.length (pre.flatten.flatMap spanC) ∧ Ext _ wr) (fun _ i _ => ls.length - (intOf i).toNat)
     case atStart => exact ⟨[], ls, rfl, rfl, HO1.out, HX1.out⟩
     case round =>
       obtain ⟨pre, post, hl, rfl, hown, hx⟩ := hrel
       cases post with
       | cons l post =>
         obtain ⟨b, o, vl, rfl, hd, hsl⟩ := HAT.out pre post l _ hx hl
         have hlt : pre.length < ls.length := by rw [hl]; simp
         obtain ⟨A2, c2, rfl, hc3, hc4⟩ := hsl.form
         have hle := HLE.out pre post l hl
         have hsrc := src_span (hsl.ext (by decide) hx)
         have HL := Lib.hid hl
         have HO := Lib.hid hown
         have HX := Lib.hid hx
         have hn3 := hx.size
         obtain ⟨A4, c4, rfl, -, -⟩ := hown.form
         clear hl hsl hx
         go_wp2_with (at_builtin; refine wpList_append_Own rfl (.tmp 31) (.tmp 32) 41 rfl _ 76 2 16 (spanV (0, 0)) Tryz.underlying41 info_span rfl (by omega) _ pre.flatten.length (pre.flatten.flatMap spanC) rfl hown _ l.length _ (l.flatMap spanC) rfl hsrc (by omega) (by omega) hn3 ?_; intro v' w' hown2 hgr; clear hsrc)
         go_roundw
         case rel => exact ⟨pre ++ [l], post, by rw [HL.out]; simp, by simp, by simpa using hown2, Ext.grewOwn HX.out hgr HO.out (Nat.le_refl _)⟩
         case measure => simp [intOf]; omega
       | nil =>
         rw [List.append_nil] at hl
         have HL := Lib.hid hl
         have hlen2 : ls.length = pre.length := by rw [hl]
         have HO := Lib.hid hown
         have HX := Lib.hid hx
         obtain ⟨A4, c4, rfl, -, -⟩ := hown.form
         clear hl hx hown
         go_wp2_with fail
         go_ret
         exact ⟨_, rfl, by rw [HL.out]; exact HO.out, HX.out⟩
end Go.Proofs.YtblkikjmocnllaaGreatDoor
namespace Go.Proofs.YtblkikjmocnllaaGreatDoor
def mrgF : Span → List Span → List Span
 | s, [] => [s]
 | s, t :: r => if t.1 ≤ s.2 then mrgF (s.1, max s.2 t.2) r else s :: mrgF t r
def mrg : List Span → List Span
 | [] => []
 | s :: r => mrgF s r
def SepF : Int → List Span → Prop
 | _, [] => True
 | n, s :: r => n < s.1 ∧ s.1 < s.2 ∧ SepF s.2 r
def Sep : List Span → Prop
 | [] => True
 | s :: r => s.1 < s.2 ∧ SepF s.2 r
def sp (s : Span) : Bool := decide (s.1 < s.2)
def SrtS (l : List Span) : Prop := l.Pairwise fun s t => s.1 ≤ t.1
theorem inS_iff {n : Int} {s : Span} : inS n s = true ↔ s.1 ≤ n ∧ n < s.2 := by unfold inS; simp
theorem withinL_iff {l : List Span} {n : Int} : withinL l n = true ↔ ∃ s ∈ l, s.1 ≤ n ∧ n < s.2 := by
 unfold withinL
 rw [List.any_eq_true]
 constructor
 · rintro ⟨s, h1, h2⟩; exact ⟨s, h1, inS_iff.1 h2⟩
 · rintro ⟨s, h1, h2⟩; exact ⟨s, h1, inS_iff.2 h2⟩
theorem SepF.mono {n m : Int} : ∀ {l : List Span}, SepF n l → m ≤ n → SepF m l
 | [], _, _ => trivial
 | _ :: _, h, hm => ⟨by have := h.1; omega, h.2⟩
theorem SepF.sep {n : Int} : ∀ {l : List Span}, SepF n l → Sep l
 | [], _ => trivial
 | _ :: _, h => h.2
theorem SepF.lt {n : Int} : ∀ {l : List Span}, SepF n l → ∀ s ∈ l, n < s.1
 | [], _, _, h => by simp at h
 | t :: r, h, s, hs => by
   rcases List.mem_cons.1 hs with rfl | hs
   · exact h.1
   · have := SepF.lt h.2.2 s hs
     have := h.1
     have := h.2.1
     omega
theorem mrgF_sep : ∀ (r : List Span) (s : Span), s.1 < s.2 → (∀ t ∈ r, s.1 ≤ t.1 ∧ t.1 < t.2) → SrtS r → ∀ n, n < s.1 → SepF n (mrgF s r)
 | [], s, hs, _, _, n, hn => ⟨hn, hs, trivial⟩
 | t :: r, s, hs, hr, hsr, n, hn => by
   have ht := hr t (by simp)
   have hsr' := List.pairwise_cons.1 hsr
   unfold mrgF
   split
   · exact mrgF_sep r (s.1, max s.2 t.2) (by show s.1 < max s.2 t.2; omega) (fun u hu => ⟨(hr u (by simp [hu])).1, (hr u (by simp [hu])).2⟩) hsr'.2 n hn
   · rename_i h
     exact ⟨hn, hs, mrgF_sep r t ht.2 (fun u hu => ⟨hsr'.1 u hu, (hr u (by simp [hu])).2⟩) hsr'.2 s.2 (by omega)⟩
theorem mrgF_in : ∀ (r : List Span) (s : Span), (∀ t ∈ r, s.1 ≤ t.1) → SrtS r → ∀ n, withinL (mrgF s r) n = withinL (s :: r) n
 | [], s, _, _, n => rfl
 | t :: r, s, hr, hsr, n => by
   have ht := hr t (by simp)
   have hsr' := List.pairwise_cons.1 hsr
   unfold mrgF
   split
   · rename_i h
     rw [mrgF_in r (s.1, max s.2 t.2) (fun u hu => hr u (by simp [hu])) hsr'.2 n, Bool.eq_iff_iff, withinL_iff, withinL_iff]
     constructor
     · rintro ⟨u, hu, h1, h2⟩
       rcases List.mem_cons.1 hu with rfl | hu
       · by_cases h3 : n < s.2
         · exact ⟨s, by simp, h1, h3⟩
         · exact ⟨t, by simp, by omega, by have : n < max s.2 t.2 := h2; omega⟩
       · exact ⟨u, by simp [hu], h1, h2⟩
     · rintro ⟨u, hu, h1, h2⟩
       rcases List.mem_cons.1 hu with rfl | hu
       · exact ⟨(u.1, max u.2 t.2), by simp, h1, by show n < max u.2 t.2; omega⟩
       · rcases List.mem_cons.1 hu with rfl | hu
         · exact ⟨(s.1, max s.2 u.2), by simp, by show s.1 ≤ n; omega, by show n < max s.2 u.2; omega⟩
         · exact ⟨u, by simp [hu], h1, h2⟩
   · have ih := mrgF_in r t (fun u hu => hsr'.1 u hu) hsr'.2 n
     rw [Bool.eq_iff_iff, withinL_iff, withinL_iff] at ih ⊢
     constructor
     · rintro ⟨u, hu, h1⟩
       rcases List.mem_cons.1 hu with rfl | hu
       · exact ⟨u, by simp, h1⟩
       · obtain ⟨u', hu', h2⟩ := ih.1 ⟨u, hu, h1⟩
         exact ⟨u', by simp [hu'], h2⟩
     · rintro ⟨u, hu, h1⟩
       rcases List.mem_cons.1 hu with rfl | hu
       · exact ⟨u, by simp, h1⟩
       · obtain ⟨u', hu', h2⟩ := ih.2 ⟨u, hu, h1⟩
         exact ⟨u', by simp [hu'], h2⟩
theorem sep_eq : ∀ {a b : List Span}, Sep a → Sep b → (∀ n, withinL a n = withinL b n) → a = b
 | [], [], _, _, _ => rfl
 | [], t :: r, _, hb, h => by
   have := (withinL_iff.2 ⟨t, by simp, Int.le_refl _, hb.1⟩ : withinL (t :: r) t.1 = true)
   rw [← h] at this
   simp [withinL] at this
 | s :: r, [], ha, _, h => by
   have := (withinL_iff.2 ⟨s, by simp, Int.le_refl _, ha.1⟩ : withinL (s :: r) s.1 = true)
   rw [h] at this
   simp [withinL] at this
 | s :: a, t :: b, ha, hb, h => by
   have first : ∀ {s : Span} {a : List Span} {t : Span} {b : List Span}, Sep (s :: a) → Sep (t :: b) → (∀ n, withinL (s :: a) n = withinL (t :: b) n) → t.1 ≤ s.1 := fun {s a t b} ha hb h => by
     have h1 := (withinL_iff.2 ⟨s, by simp, Int.le_refl _, ha.1⟩ : withinL (s :: a) s.1 = true)
     rw [h] at h1
     obtain ⟨u, hu, h2, h3⟩ := withinL_iff.1 h1
     rcases List.mem_cons.1 hu with rfl | hu
     · exact h2
     · have := SepF.lt hb.2 u hu
       have := hb.1
       omega
   have e1 : s.1 = t.1 := by
     have h1 := first ha hb h
     have h2 := first hb ha (fun n => (h n).symm)
     omega
   have last : ∀ {s : Span} {a : List Span} {t : Span} {b : List Span}, Sep (s :: a) → Sep (t :: b) → (∀ n, withinL (s :: a) n = withinL (t :: b) n) → s.1 = t.1 → s.2 ≤ t.2 := fun {s a t b} ha hb h e => by
     by_cases hlt : s.2 ≤ t.2
     · exact hlt
     · have h1 := (withinL_iff.2 ⟨s, by simp, by have := hb.1; omega, by omega⟩ : withinL (s :: a) t.2 = true)
       rw [h] at h1
       obtain ⟨u, hu, h2, h3⟩ := withinL_iff.1 h1
       rcases List.mem_cons.1 hu with rfl | hu
       · omega
       · have := SepF.lt hb.2 u hu
         omega
   have e2 : s.2 = t.2 := by
     have h1 := last ha hb h e1
     have h2 := last hb ha (fun n => (h n).symm) e1.symm
     omega
   have e : s = t := Prod.ext e1 e2
   subst e
   congr 1
   refine sep_eq ha.2.sep hb.2.sep fun n => ?_
   have hn := h n
   rw [Bool.eq_iff_iff, withinL_iff, withinL_iff] at hn ⊢
   have aux : ∀ {a b : List Span}, SepF s.2 a → ((∃ u ∈ s :: a, u.1 ≤ n ∧ n < u.2) → ∃ u ∈ s :: b, u.1 ≤ n ∧ n < u.2) → (∃ u ∈ a, u.1 ≤ n ∧ n < u.2) → ∃ u ∈ b, u.1 ≤ n ∧ n < u.2 := fun {a b} ha hi ⟨u, hu, h1, h2⟩ => by
     obtain ⟨u', hu', h3, h4⟩ := hi ⟨u, by simp [hu], h1, h2⟩
     rcases List.mem_cons.1 hu' with rfl | hu'
     · have := SepF.lt ha u hu
       omega
     · exact ⟨u', hu', h3, h4⟩
   exact ⟨aux ha.2 hn.1, aux hb.2 hn.2⟩
theorem mrg_sep {l : List Span} (hs : SrtS l) (hn : ∀ s ∈ l, s.1 < s.2) : Sep (mrg l) := by
 cases l with
 | nil => trivial
 | cons s r => exact (mrgF_sep r s (hn s (by simp)) (fun t ht => ⟨(List.pairwise_cons.1 hs).1 t ht, hn t (by simp [ht])⟩) (List.pairwise_cons.1 hs).2 (s.1 - 1) (by omega)).sep
theorem mrg_in {l : List Span} (hs : SrtS l) (n : Int) : withinL (mrg l) n = withinL l n := by
 cases l with
 | nil => rfl
 | cons s r => exact mrgF_in r s (fun t ht => (List.pairwise_cons.1 hs).1 t ht) (List.pairwise_cons.1 hs).2 n
def spansM (a b : List Span) : List Span := mrg (((a ++ b).filter sp).mergeSort fun s t => decide (s.1 ≤ t.1))
theorem spans_srt (l : List Span) : SrtS (l.mergeSort fun s t => decide (s.1 ≤ t.1)) := by
 have := List.pairwise_mergeSort (le := fun (s t : Span) => decide (s.1 ≤ t.1)) (fun a b c h1 h2 => by simp at h1 h2 ⊢; omega) (fun a b => by simp; omega) l
 exact this.imp fun h => by simpa using h
theorem spansM_sep (a b : List Span) : Sep (spansM a b) := mrg_sep (spans_srt _) fun s hs => by
 have := (List.mem_filter.1 ((List.mergeSort_perm _ _).subset hs)).2
 simpa [sp] using this
theorem withinL_perm {a b : List Span} (h : a.Perm b) (n : Int) : withinL a n = withinL b n := by
 rw [Bool.eq_iff_iff, withinL_iff, withinL_iff]
 exact ⟨fun ⟨s, hs, k⟩ => ⟨s, h.subset hs, k⟩, fun ⟨s, hs, k⟩ => ⟨s, h.symm.subset hs, k⟩⟩
theorem withinL_sp (l : List Span) (n : Int) : withinL (l.filter sp) n = withinL l n := by
 rw [Bool.eq_iff_iff, withinL_iff, withinL_iff]
 constructor
 · rintro ⟨s, hs, k⟩; exact ⟨s, (List.mem_filter.1 hs).1, k⟩
 · rintro ⟨s, hs, k⟩; exact ⟨s, List.mem_filter.2 ⟨hs, by simp [sp]; omega⟩, k⟩
theorem withinL_append (a b : List Span) (n : Int) : withinL (a ++ b) n = (withinL a n || withinL b n) := by unfold withinL; rw [List.any_append]
theorem spansM_in (a b : List Span) (n : Int) : withinL (spansM a b) n = (withinL a n || withinL b n) := by
 unfold spansM
 rw [mrg_in (spans_srt _), withinL_perm (List.mergeSort_perm _ _), withinL_sp, withinL_append]
theorem mrg_any {a b d : List Span} (hp : d.Perm ((a ++ b).filter sp)) (hs : SrtS d) : mrg d = spansM a b := by
 refine sep_eq (mrg_sep hs fun s h => ?_) (spansM_sep a b) fun n => ?_
 · have := (List.mem_filter.1 (hp.subset h)).2
   simpa [sp] using this
 · rw [mrg_in hs, withinL_perm hp, withinL_sp, withinL_append, spansM_in]
end Go.Proofs.YtblkikjmocnllaaGreatDoor
