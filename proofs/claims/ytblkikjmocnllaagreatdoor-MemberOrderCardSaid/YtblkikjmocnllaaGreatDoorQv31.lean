/- Contracts of the functions that the statement goes through, and plain laws of them. -/
import Derived.Test.YtblkikjmocnllaaGreatDoorQv30
import Derived.Test.YtblkikjmocnllaaGreatDoorQv20
set_option linter.unusedVariables false
set_option linter.unusedSimpArgs false
set_option linter.unusedSectionVars false
namespace Go.Proofs.YtblkikjmocnllaaGreatDoor
open Go.RowKit Go.Shelf
theorem joinC_snoc (c : UInt8) : ∀ (l : List Str) (x : Str), l ≠ [] → joinC c (l ++ [x]) = joinC c l ++ c :: x
 | [], _, h => absurd rfl h
 | [a], x, _ => rfl
 | a :: b :: r, x, _ => by
   have ih := joinC_snoc c (b :: r) x (by simp)
   show a ++ c :: joinC c ((b :: r) ++ [x]) = (a ++ c :: joinC c (b :: r)) ++ c :: x
   rw [ih]; simp
def wrP (l : List Nat) : Str := joinC 46 (l.map Lib.decDigits)
theorem wrP_snoc {l : List Nat} (h : l ≠ []) (n : Nat) : wrP (l ++ [n]) = wrP l ++ 46 :: Lib.decDigits n := by
 unfold wrP
 rw [List.map_append]
 exact joinC_snoc 46 _ _ (by simpa using h)
theorem wrP_len : ∀ {l : List Nat}, (∀ n ∈ l, n ≤ 1073741824) → (wrP l).length ≤ 11 * l.length
 | [], _ => by simp [wrP, joinC]
 | [a], h => by have := dec_len (h a (by simp)); simp only [wrP, List.map_cons, List.map_nil, joinC, List.length_cons, List.length_nil]; omega
 | a :: b :: r, h => by
   have h1 := dec_len (h a (by simp))
   have h2 := wrP_len (l := b :: r) (fun n hn => h n (List.mem_cons_of_mem _ hn))
   have e : wrP (a :: b :: r) = Lib.decDigits a ++ 46 :: wrP (b :: r) := rfl
   rw [e]
   simp only [List.length_append, List.length_cons] at *
   omega
theorem split_le {p : Str} : ∀ n ∈ splitP p, n ≤ 1073741824 := by
 intro n hn
 have hne : splitP p ≠ [] := List.ne_nil_of_mem hn
 rw [(splitP_some hne).1] at hn
 obtain ⟨f, -, rfl⟩ := List.mem_map.1 hn
 exact numS_le f
theorem wrP_split {p : Str} (h : splitP p ≠ []) : wrP (splitP p) = p := by
 obtain ⟨h1, h2⟩ := splitP_some h
 unfold wrP
 rw [h1, List.map_map]
 have : (splitC 46 p).map (Lib.decDigits ∘ numS) = splitC 46 p := by
   conv => rhs; rw [← List.map_id (splitC 46 p)]
   exact List.map_congr_left fun f hf => (numS_form (h2 _ (List.mem_map_of_mem hf))).symm
 rw [this, joinC_split]
theorem wrP_par {p : Str} (h : 0 < deepP p) : wrP (splitP p).dropLast = parP p := by
 by_cases h2 : 2 ≤ deepP p
 · rw [← parP_split]
   refine wrP_split fun e => ?_
   have := parP_deep p
   unfold deepP at *
   rw [e] at this
   simp at this
   omega
 · have e : parP p = [] := by unfold parP; rw [if_pos (by omega)]
   have : (splitP p).dropLast = [] := List.length_eq_zero_iff.1 (by rw [List.length_dropLast]; unfold deepP at *; omega)
   rw [this, e]
   rfl
set_option maxRecDepth 100000 in
set_option maxHeartbeats 2000000 in
theorem refWrite_any {A : Option Addr} {c g : Nat} {l : List Nat} {w : World} (hA : l ≠ [] → A = some ⟨g, 0, none⟩) (hc : ∀ (i n : Nat), l[i]? = some n → w.cell? ⟨g, i, none⟩ = some (natI n)) (hl : l.length ≤ 8) (hn : ∀ n ∈ l, n ≤ 1073741824) :
   Calls Tryz.prog 77 #[.slice A l.length c] w fun e w' => e = .returned (St (wrP l)) ∧ Ext w w' := by
 have HC := Lib.hid hc
 have HA := Lib.hid hA
 have HN := Lib.hid hn
 clear hc hA hn
 go_enter Tryz.func77, Tryz.ntmps77
 go_wp2_with fail
 go_loopw [3, 4] (fun s i wr => ∃ pre post, Hid (l = pre ++ post) ∧ i = I pre.length ∧ s = St (wrP pre) ∧ Ext w wr) (fun _ i _ => l.length - (intOf i).toNat)
 case atStart => exact ⟨[], l, Lib.hid rfl, rfl, rfl, Ext.refl _⟩
 case round =>
   obtain ⟨pre, post, hl2, rfl, rfl, hx⟩ := hrel
   cases post with
   | nil =>
     have e : l = pre := by rw [hl2.out]; simp
     subst e
     have HX := Lib.hid hx
     have d1 : ¬ (l.length : Int) < l.length := by omega
     clear hl2 hx
     go_wp2_with fail
     go_ret
     exact ⟨rfl, HX.out⟩
   | cons n post =>
     have e := HA.out (by rw [hl2.out]; simp)
     subst e
     have k0 := hx.cell (HC.out pre.length n (by rw [hl2.out]; simp))
     have hlen : l.length = pre.length + (post.length + 1) := by rw [hl2.out]; simp
     have d0 : (0 : Int) ≤ pre.length := by omega
     have d1 : (pre.length : Int) < l.length := by omega
     have hnn := HN.out n (by rw [hl2.out]; simp)
     have HNU := Lib.hid (refNum_any n (by omega))
     have hpl := wrP_len (l := pre) (fun m hm => HN.out m (by rw [hl2.out]; exact List.mem_append_left _ hm))
     have hdl := dec_len hnn
     have HX := Lib.hid hx
     unfold natI at k0
     have hb : pre.length ≤ 8 := by omega
     clear hx hlen
     by_cases h0 : pre = []
     · subst h0
       have HW := Lib.hid (show (⟨([] : Str).toArray⟩ : ByteArray) ++ ⟨(Lib.decDigits n).toArray⟩ = ⟨(wrP [n]).toArray⟩ from bytes_append [] _)
       have hw0 : wrP [] = [] := rfl
       rw [hw0]
       simp only [List.length_nil] at k0 d0 d1 ⊢
       go_wp2_with fail
       refine (HNU.out _).mono ?_
       rintro e w2 ⟨rfl, hx2⟩
       generalize Lib.decDigits n = D at *
       go_wp2_with fail
       go_roundw
       case rel => exact ⟨[n], post, Lib.hid (by rw [hl2.out]; simp), rfl, by first | exact congrArg Value.string HW.out | (rw [← HW.out]; simp), HX.out.trans hx2⟩
       case measure => simp [intOf]; omega
     · have d2 : (pre.length : Int) > 0 := by
         have : 0 < pre.length := List.length_pos_iff.2 h0
         omega
       have HW := Lib.hid (show (⟨(wrP pre).toArray⟩ : ByteArray) ++ ⟨#[46]⟩ ++ ⟨(Lib.decDigits n).toArray⟩ = ⟨(wrP (pre ++ [n])).toArray⟩ by
         rw [wrP_snoc h0]
         have h1 := bytes_append (wrP pre) [46]
         have h2 := bytes_append (wrP pre ++ [46]) (Lib.decDigits n)
         have e46 : (⟨#[46]⟩ : ByteArray) = ⟨([46] : Str).toArray⟩ := rfl
         rw [e46, h1, h2]
         simp)
       have HPR := Lib.hid (show (((pre ++ [n]).length : Nat) : Int) = pre.length + 1 by simp)
       generalize wrP pre = P at *
       clear h0
       go_wp2_with fail
       refine (HNU.out _).mono ?_
       rintro e w2 ⟨rfl, hx2⟩
       generalize Lib.decDigits n = D at *
       go_wp2_with fail
       go_roundw
       case rel => exact ⟨pre ++ [n], post, Lib.hid (by rw [hl2.out]; simp), by simp, congrArg Value.string HW.out, HX.out.trans hx2⟩
       case measure => simp [intOf]; omega
section
variable {p : Str} (hm : mayP p = true) (hl : p.length < 4611686018427387904)
include hm hl
set_option maxRecDepth 100000 in
set_option maxHeartbeats 1000000 in
theorem refMay_any (w : World) : Calls Tryz.prog 79 #[St p] w fun e w' => e = .returned (.bool true) ∧ Ext w w' := by
 have HR := Lib.hid (refRead_any p hm hl w)
 clear hm hl
 go_enter Tryz.func79, Tryz.ntmps79
 go_wp2_with fail
 refine HR.out.mono ?_
 rintro e w1 ⟨v, rfl, -, hx⟩
 go_wp2_with fail
 go_ret
 exact ⟨rfl, hx⟩
set_option maxRecDepth 100000 in
set_option maxHeartbeats 1000000 in
theorem refDeep_any (w : World) : Calls Tryz.prog 27 #[St p] w fun e w' => e = .returned (I (deepP p)) ∧ Ext w w' := by
 have HR := Lib.hid (refRead_any p hm hl w)
 clear hm hl
 go_enter Tryz.func27, Tryz.ntmps27
 go_wp2_with fail
 refine HR.out.mono ?_
 rintro e w1 ⟨v, rfl, ho, hx⟩
 obtain ⟨A, c, rfl, -, -⟩ := ho.form
 clear ho
 go_wp2_with fail
 go_ret
 exact ⟨rfl, hx⟩
set_option maxRecDepth 100000 in
set_option maxHeartbeats 2000000 in
theorem refNumber_any (w : World) : Calls Tryz.prog 81 #[St p] w fun e w' => e = .returned (I (numP p)) ∧ Ext w w' := by
 have HR := Lib.hid (refRead_any p hm hl w)
 have hd : 0 < deepP p := by unfold mayP at hm; simpa using hm
 have h8 : deepP p ≤ 8 := splitP_len p
 have HD := Lib.hid (show numP p = if deepP p < 2 then 0 else (splitP p).getLast?.getD 0 from rfl)
 generalize numP p = N at *
 unfold deepP at *
 clear hm hl
 generalize splitP p = K at *
 go_enter Tryz.func81, Tryz.ntmps81
 go_wp2_with fail
 refine HR.out.mono ?_
 rintro e w1 ⟨v, rfl, ho, hx⟩
 obtain ⟨g, c, cur, rfl, -⟩ := ho.pos hd
 by_cases h1 : K.length = 1
 · have e1 : ((K.length : Int) == 1) = true := by rw [h1]; rfl
   have HF := Lib.hid (show 0 = N by rw [HD.out, if_pos (by omega)])
   clear h1 ho HD hd h8
   go_wp2_with fail
   go_ret
   exact ⟨by rw [← HF.out]; rfl, hx⟩
 · have e1 : ((K.length : Int) == 1) = false := by rw [beq_eq_false_iff_ne]; omega
   obtain ⟨n, hn⟩ : ∃ n, K.getLast? = some n := by
     cases hk : K.getLast? with
     | some n => exact ⟨n, rfl⟩
     | none => rw [List.getLast?_eq_none_iff] at hk; rw [hk] at hd; simp at hd
   have HF := Lib.hid (show n = N by rw [HD.out, if_neg (by omega), hn]; rfl)
   have hc := ho.cell (j := K.length - 1) (u := natI n) rfl (by rw [List.getElem?_map, ← List.getLast?_eq_getElem?, hn]; rfl)
   unfold natI at hc
   obtain ⟨jp, hjp⟩ : ∃ jp : Int, (K.length : Int) - 1 = jp := ⟨_, rfl⟩
   obtain ⟨kl, hkl⟩ : ∃ kl : Int, (K.length : Int) = kl := ⟨_, rfl⟩
   have n0 : (0 : Int) ≤ jp := by omega
   have n1 : jp < kl := by omega
   have n4 : IntKind.i64.wrap (kl - 1) = jp := by rw [show kl - 1 = jp by omega]; exact wrap_small _ (by omega) (by omega)
   have n6 : jp.toNat = K.length - 1 := by omega
   have n7 : jp < (K.length : Int) := by omega
   have n8 : IntKind.i64.wrap ((K.length : Int) - 1) = jp := by rw [hjp]; exact wrap_small _ (by omega) (by omega)
   clear h1 ho HD hd h8 hn hjp hkl
   go_wp2_with fail
   go_ret
   exact ⟨by rw [← HF.out]; rfl, hx⟩
set_option maxRecDepth 100000 in
set_option maxHeartbeats 2000000 in
theorem refParent_any (w : World) : Calls Tryz.prog 26 #[St p] w fun e w' => e = .returned (St (parP p)) ∧ Ext w w' := by
 have HR := Lib.hid (refRead_any p hm hl w)
 have hd : 0 < deepP p := by unfold mayP at hm; simpa using hm
 have h8 : deepP p ≤ 8 := splitP_len p
 have HW := Lib.hid (wrP_par hd)
 have HLE := Lib.hid (split_le (p := p))
 generalize parP p = N at *
 unfold deepP at *
 clear hm hl
 generalize splitP p = K at *
 go_enter Tryz.func26, Tryz.ntmps26
 go_wp2_with fail
 refine HR.out.mono ?_
 rintro e w1 ⟨v, rfl, ho, hx⟩
 obtain ⟨g, c, cur, rfl, -⟩ := ho.pos hd
 have hcell : ∀ (i n : Nat), K.dropLast[i]? = some n → w1.cell? ⟨g, i, none⟩ = some (natI n) := by
   intro i n hi
   have h1 : K[i]? = some n := by
     rw [List.getElem?_dropLast] at hi
     split at hi
     · exact hi
     · cases hi
   have h2 : (K.map natI)[i]? = some (natI n) := by rw [List.getElem?_map, h1]; rfl
   exact ho.cell rfl h2
 have hl8 : K.dropLast.length ≤ 8 := by rw [List.length_dropLast]; omega
 have hle : ∀ n ∈ K.dropLast, n ≤ 1073741824 := fun n hn => HLE.out n (List.dropLast_subset K hn)
 have HWR := Lib.hid (refWrite_any (A := some ⟨g, 0, none⟩) (c := c) (l := K.dropLast) (w := w1) (g := g) (fun _ => rfl) hcell hl8 hle)
 clear hcell hl8 hle
 rw [HW.out] at HWR
 obtain ⟨m, hm⟩ : ∃ m, K.dropLast.length = m := ⟨_, rfl⟩
 have hml : K.length = m + 1 := by rw [← hm, List.length_dropLast]; omega
 rw [hm] at HWR
 obtain ⟨Kl, hKl⟩ : ∃ Kl, K.length = Kl := ⟨_, rfl⟩
 have hcl : Kl ≤ c := by rw [← hKl]; obtain ⟨A', c', he, h1, h2⟩ := ho.form; cases he; omega
 rw [hKl]
 rw [hKl] at hml
 subst hml
 have hm8 : m ≤ 8 := by omega
 have n4 : IntKind.i64.wrap ((m : Int) + 1 - 1) = m := by rw [show (m : Int) + 1 - 1 = m by omega]; exact wrap_small _ (by omega) (by omega)
 have n0 : (0 : Int) ≤ m := by omega
 have n1 : (m : Int) ≤ c := by omega
 have n5 : IntKind.i64.wrap (m : Int) = m := wrap_small _ (by omega) (by omega)
 have n6 : (m : Int) ≤ (m : Int) + 1 := by omega
 clear ho hm hKl hd h8
 go_wp2_with fail
 refine HWR.out.mono ?_
 rintro e w2 ⟨rfl, hx2⟩
 go_wp2_with fail
 go_ret
 exact ⟨rfl, hx.trans hx2⟩
set_option maxRecDepth 100000 in
set_option maxHeartbeats 2000000 in
theorem refChild_any (n : Nat) (h1 : 1 ≤ n) (h2 : n ≤ 1073741824) (w : World) : Calls Tryz.prog 28 #[St p, I n] w fun e w' => e = .returned (.tuple #[St (childP p n).1, I (childP p n).2]) ∧ Ext w w' := by
 have HR := Lib.hid (refRead_any p hm hl w)
 have hd : 0 < deepP p := by unfold mayP at hm; simpa using hm
 have h8 : deepP p ≤ 8 := splitP_len p
 have HNU := Lib.hid (refNum_any n (by omega))
 have hdl := dec_len h2
 have HC := Lib.hid (show childP p n = if deepP p = 8 then ([], 6) else (p ++ 46 :: Lib.decDigits n, 0) by
   unfold childP
   rw [if_neg (by omega), if_neg (by omega), itoa_pos (by omega)]
   rfl)
 have HB := Lib.hid (show (⟨p.toArray⟩ : ByteArray) ++ ⟨#[46]⟩ ++ ⟨(Lib.decDigits n).toArray⟩ = ⟨(p ++ 46 :: Lib.decDigits n).toArray⟩ by
   have h1 := bytes_append p [46]
   have h2 := bytes_append (p ++ [46]) (Lib.decDigits n)
   have e46 : (⟨#[46]⟩ : ByteArray) = ⟨([46] : Str).toArray⟩ := rfl
   rw [e46, h1, h2]
   simp)
 have e1 : decide ((n : Int) < 1) = false := decide_eq_false (by omega)
 have e1' : ¬ n = 0 := by omega
 have e1'' : ¬ (n : Int) < 1 := by omega
 have e2 : ¬ (n : Int) > 1073741824 := by omega
 generalize childP p n = Z at *
 unfold deepP at *
 clear hm
 generalize splitP p = K at *
 go_enter Tryz.func28, Tryz.ntmps28
 go_wp2_with fail
 refine HR.out.mono ?_
 rintro e w1 ⟨v, rfl, ho, hx⟩
 obtain ⟨A, c, rfl, -, -⟩ := ho.form
 by_cases h8' : K.length = 8
 · have e3 : ((K.length : Int) == 8) = true := by rw [h8']; rfl
   have HF := Lib.hid (show (([] : Str), 6) = Z by rw [HC.out, if_pos h8'])
   clear h8' ho HC hd h8
   go_wp2_with fail
   refine bodyPost_ret (v := .tuple #[St [], I 6]) (by simp [results, Tryz.f28, go_sem]) rfl ?_
   exact ⟨by rw [← HF.out]; rfl, hx⟩
 · have e3 : ((K.length : Int) == 8) = false := by rw [beq_eq_false_iff_ne]; omega
   have HF := Lib.hid (show (p ++ 46 :: Lib.decDigits n, 0) = Z by rw [HC.out, if_neg h8'])
   generalize Lib.decDigits n = D at *
   clear h8' ho HC hd h8
   go_wp2_with fail
   refine (HNU.out _).mono ?_
   rintro e w2 ⟨rfl, hx2⟩
   go_wp2_with fail
   refine bodyPost_ret (v := .tuple #[.string ((⟨p.toArray⟩ : ByteArray) ++ ⟨#[46]⟩ ++ ⟨D.toArray⟩), I 0]) (by simp [results, Tryz.f28, go_sem]) rfl ?_
   exact ⟨by rw [← HF.out, HB.out]; rfl, hx.trans hx2⟩
end
end Go.Proofs.YtblkikjmocnllaaGreatDoor
namespace Go.Proofs.YtblkikjmocnllaaGreatDoor
open Go.RowKit Go.Shelf
theorem at_find : ∀ (l : List Mbr) (p : Str), atP l p = findP l p := by
 intro l p
 unfold atP idxP findP
 induction l with
 | nil => rfl
 | cons x l ih =>
   rw [List.findIdx?_cons, List.find?_cons]
   by_cases h : x.path = p
   · simp [h]
   · simp only [h, decide_false]
     rw [← ih]
     simp only [Bool.false_eq_true, if_false]
     cases List.findIdx? (fun m => decide (m.path = p)) l <;> simp
theorem mayP_par {p : Str} (h : mayP p = true) : parP p = [] ∨ mayP (parP p) = true := by
 by_cases h2 : 2 ≤ deepP p
 · right
   unfold mayP
   rw [parP_deep]
   simp; omega
 · left
   unfold parP
   rw [if_pos (by omega)]
theorem mayP_ne {p : Str} (h : mayP p = true) : p ≠ [] := by
 rintro rfl
 unfold mayP deepP at h
 rw [splitP_nil] at h
 simp at h
set_option maxRecDepth 100000 in
set_option maxHeartbeats 4000000 in
theorem refForgot_any {S : Nat → Prop} {v : Value} {l : List Mbr} {w : World} (hv : Sl mbrT w S v l) (p : Str) (hm : mayP p = true) (hl : p.length < 4611686018427387904) :
   Calls Tryz.prog 30 #[v, St p] w fun e w' => e = .returned (.bool (forgottenM l p)) ∧ Ext w w' := by
 obtain ⟨K, hK⟩ : ∃ K, forgottenM l p = K := ⟨_, rfl⟩
 rw [hK]
 have HK := Lib.hid (show (restC p).any (goneAt l) = K by
   rw [← hK]
   unfold forgottenM restC
   rw [hm, if_neg (mayP_ne hm)]
   rfl)
 have hv' := hv
 obtain ⟨A, c, rfl, -, -⟩ := hv.form
 have HOF := Lib.hid (fun W (he : Ext w W) q => refOf_any (hv'.ext (by decide) he) q)
 have HMY := Lib.hid (fun (q : Str) (h : mayP q = true) (h2 : q.length ≤ p.length) W => refMay_any h (by omega) W)
 have HPA := Lib.hid (fun (q : Str) (h : mayP q = true) (h2 : q.length ≤ p.length) W => refParent_any h (by omega) W)
 have HNU := Lib.hid (fun (q : Str) (h : mayP q = true) (h2 : q.length ≤ p.length) W => refNumber_any h (by omega) W)
 have HP := Lib.hid hm
 clear hv hv' hK hm
 go_enter Tryz.func30, Tryz.ntmps30
 go_wp2_with fail
 go_loopw [5] (fun s wr => ∃ q : Str, s = St q ∧ Hid (q = [] ∨ mayP q = true) ∧ q.length ≤ p.length ∧ Hid ((restC q).any (goneAt l) = K) ∧ Ext w wr) (fun s _ => (match s with | .string b => b.size | _ => 0))
 case atStart => exact ⟨p, rfl, Lib.hid (.inr HP.out), Nat.le_refl _, Lib.hid HK.out, Ext.refl _⟩
 case round =>
   obtain ⟨q, rfl, hq, hql, hk, hx⟩ := hrel
   rcases hq.out with rfl | hmq
   · have HF := Lib.hid (show false = K from hk.out)
     clear hk hq
     go_wp2_with fail
     go_ret
     exact ⟨by rw [← HF.out]; rfl, hx⟩
   · have hne := mayP_ne hmq
     have e0 : q.isEmpty = false := by simpa using hne
     have HM := Lib.hid (HMY.out q hmq hql)
     have HPQ := Lib.hid (HPA.out q hmq hql)
     have HNQ := Lib.hid (HNU.out q hmq hql)
     have HST := Lib.hid (show (goneAt l q || (restC (parP q)).any (goneAt l)) = K by
       have hr : restC q = q :: chainP q := by unfold restC; rw [if_neg hne]
       rw [← hk.out, hr, List.any_cons, chainP_rest])
     have HNX := Lib.hid (mayP_par hmq)
     have hps := parP_short hne
     have HLS := Lib.hid (show (parP q).length < q.length from hps)
     have HX := Lib.hid hx
     clear hk hq hne hmq hps hx
     go_wp2_with fail
     refine (HM.out _).mono ?_
     rintro e w1 ⟨rfl, hx1⟩
     go_wp2_with fail
     refine (HPQ.out _).mono ?_
     rintro e w2 ⟨rfl, hx2⟩
     have HX2 := Lib.hid ((HX.out.trans hx1).trans hx2)
     clear hx1 hx2
     go_wp2_with fail
     refine (HOF.out _ HX2.out _).mono ?_
     rintro e w3 ⟨u1, u2, rfl, hs1, hs2, hx3⟩
     have HX3 := Lib.hid (HX2.out.trans hx3)
     obtain ⟨B1, d1, rfl, -, -⟩ := hs1.form
     obtain ⟨B2, d2, rfl, -, -⟩ := hs2.form
     have HGA := Lib.hid (show goneAt l q = match findP l (parP q) with | some x => withinL x.gone (numP q) | none => false by
       have h := at_find l (parP q)
       unfold atP at h
       unfold goneAt
       rw [h]
       cases findP l (parP q) <;> rfl)
     clear hs2 hx3
     rcases hf : findP l (parP q) with _ | x
     · rw [hf] at HGA hs1
       simp only [Option.getD_none, Option.isSome_none] at hs1 ⊢
       have HF := Lib.hid (show (restC (parP q)).any (goneAt l) = K by rw [← HST.out, HGA.out]; rfl)
       generalize parP q = pq at *
       obtain ⟨x, hx0⟩ : ∃ x, mbr0 = x := ⟨_, rfl⟩
       rw [hx0] at hs1 ⊢
       generalize hg1 : x.gone.length = g1
       generalize hg2 : x.words.length = g2
       have hxa := (Ext.refl w3).alloc (.cells #[St x.path, U8 x.status, I x.kids, I x.cut, U x.last, .slice B1 g1 d1, St x.plan.keeper, U x.plan.round, St x.plan.live, St x.plan.by_, U x.plan.cap, St x.plan.owner, U x.plan.base, .bool x.plan.done, .slice B2 g2 d2] 48)
       have HXA := Lib.hid (HX3.out.trans hxa)
       unfold mbrV
       clear hf hs1 hx0 hg1 hg2 HGA HST hxa
       go_wp2_with fail
       go_quiet (fail)
       go_wp2_with fail
       refine (HPQ.out _).mono ?_
       rintro e w5 ⟨rfl, hx5⟩
       go_wp2_with fail
       go_roundw
       case rel => exact ⟨pq, rfl, Lib.hid HNX.out, by have := HLS.out; omega, Lib.hid HF.out, (HXA.out.drewN _).trans hx5⟩
       case measure => have := HLS.out; simpa [ByteArray.size] using this
     · rw [hf] at HGA hs1
       simp only [Option.getD_some, Option.isSome_some] at hs1 ⊢
       obtain ⟨g1, hg1⟩ : ∃ g1, x.gone.length = g1 := ⟨_, rfl⟩
       obtain ⟨g2, hg2⟩ : ∃ g2, x.words.length = g2 := ⟨_, rfl⟩
       rw [hg1, hg2]
       have hxa := (Ext.refl w3).alloc (.cells #[St x.path, U8 x.status, I x.kids, I x.cut, U x.last, .slice B1 g1 d1, St x.plan.keeper, U x.plan.round, St x.plan.live, St x.plan.by_, U x.plan.cap, St x.plan.owner, U x.plan.base, .bool x.plan.done, .slice B2 g2 d2] 48)
       have k5 := (rowNew w3 48 [St x.path, U8 x.status, I x.kids, I x.cut, U x.last, .slice B1 g1 d1, St x.plan.keeper, U x.plan.round, St x.plan.live, St x.plan.by_, U x.plan.cap, St x.plan.owner, U x.plan.base, .bool x.plan.done, .slice B2 g2 d2]).cell (j := 5) rfl
       have HXA := Lib.hid (HX3.out.trans hxa)
       have hs1' := hs1.ext (by decide) hxa
       rw [hg1] at hs1'
       have HIN := Lib.hid (fun W (he : Ext (w3.alloc (.cells #[St x.path, U8 x.status, I x.kids, I x.cut, U x.last, .slice B1 g1 d1, St x.plan.keeper, U x.plan.round, St x.plan.live, St x.plan.by_, U x.plan.cap, St x.plan.owner, U x.plan.base, .bool x.plan.done, .slice B2 g2 d2] 48)) W) => (refInS_any (hs1'.ext (by decide) he) (numP q : Int)).mono (R' := fun e w' => e = .returned (.bool (withinL x.gone (numP q))) ∧ Ext W w') (by rintro e w' ⟨rfl, rfl⟩; exact ⟨rfl, Ext.refl _⟩))
       have HGB := Lib.hid (show goneAt l q = withinL x.gone (numP q) from HGA.out)
       generalize withinL x.gone (numP q) = bb at HIN HGB
       generalize (numP q : Int) = np at *
       generalize parP q = pq at *
       unfold mbrV
       clear hf hs1 hs1' hg1 hg2 HGA hxa
       go_wp2_with fail
       generalize w3.alloc (.cells #[St x.path, U8 x.status, I x.kids, I x.cut, U x.last, .slice B1 g1 d1, St x.plan.keeper, U x.plan.round, St x.plan.live, St x.plan.by_, U x.plan.cap, St x.plan.owner, U x.plan.base, .bool x.plan.done, .slice B2 g2 d2] 48) = W3 at *
       generalize w3.heap.size = gm at *
       go_region_held3 (fun W => W.cell? ⟨gm, 5, none⟩ = some (.slice B1 g1 d1) ∧ Ext W3 W) (first | exact ⟨k5, (Ext.refl _).drew⟩ | exact ⟨hb1.cell ‹_ ∧ Ext W3 _›.1, ‹_ ∧ Ext W3 _›.2.trans hb1⟩) (first | (go_at_call 81; refine (HNQ.out _).mono ?_; rintro e w6 ⟨rfl, hb1⟩) | (go_at_call 80; refine (HIN.out _ ‹_ ∧ Ext W3 _›.2).mono ?_; rintro e w6 ⟨rfl, hb1⟩))
       have hX := (‹_ ∧ Ext W3 _›).2
       cases bb with
       | true =>
         have HF := Lib.hid (show true = K by rw [← HST.out, HGB.out]; rfl)
         go_wp2_with fail
         go_ret
         exact ⟨by rw [← HF.out]; rfl, HXA.out.trans hX⟩
       | false =>
         have HF := Lib.hid (show (restC pq).any (goneAt l) = K by rw [← HST.out, HGB.out]; rfl)
         go_wp2_with fail
         refine (HPQ.out _).mono ?_
         rintro e w5 ⟨rfl, hx5⟩
         go_wp2_with fail
         go_roundw
         case rel => exact ⟨pq, rfl, Lib.hid HNX.out, by have := HLS.out; omega, Lib.hid HF.out, (HXA.out.trans hX).trans hx5⟩
         case measure => have := HLS.out; simpa [ByteArray.size] using this
set_option maxRecDepth 100000 in
set_option maxHeartbeats 2000000 in
theorem had_any {S : Nat → Prop} {v : Value} {l : List Mbr} {w : World} (hv : Sl mbrT w S v l) (sm : SmallL l) (p : Str) : Calls Tryz.prog 29 #[v, St p] w fun e w' => e = .returned (.bool (findP l p).isSome) ∧ Ext w w' := by
 have HOF := Lib.hid (of_any hv sm p)
 obtain ⟨A, c, rfl, -, -⟩ := hv.form
 generalize findP l p = F at *
 clear hv sm
 go_enter Tryz.func29, Tryz.ntmps29
 go_wp2_with fail
 refine HOF.out.mono ?_
 rintro e w1 ⟨u1, u2, rfl, ho, hx⟩
 obtain ⟨B1, d1, rfl, -, -⟩ := ho.gone.form
 obtain ⟨B2, d2, rfl, -, -⟩ := ho.words.form
 have HX := Lib.hid (fun o => hx.alloc o)
 clear ho hx
 unfold mbrV
 go_wp2_with fail
 go_ret
 exact ⟨rfl, HX.out _⟩
end Go.Proofs.YtblkikjmocnllaaGreatDoor
