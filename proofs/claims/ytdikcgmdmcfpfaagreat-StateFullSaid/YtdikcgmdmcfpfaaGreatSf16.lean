/- Contracts of the functions that the statement goes through, with their plain words: gossamerlaw15.Is at an integer. The reference's Same: marks, counts, texts: whether both lists are one. (Printed by gen_refsame.py.) A field of a value that lies in no memory. The statements' 'alive' returns true. Printed by gen_alive.py. A state of many keys: what an update comes to. No program is walked here. gossamerlaw16.StateFull: the walk. A law's row: the call has returned, and all blocks that were there stand as they stood. No program in sight. -/
import Derived.Test.YtdikcgmdmcfpfaaGreatSf15
import Derived.Laws.BytesArg
import Derived.Below
import Derived.ChangeSame
import Derived.RowKit3
namespace Go.Proofs.YtdikcgmdmcfpfaaGreat
open Go.RowKit Go.Shelf

abbrev valC (k : Nat) (n : Int) (l : Value) (t : Str) (is : Bool) : Value := .agg #[K8 k, I n, l, St t, .bool is]
set_option maxRecDepth 100000 in
set_option maxHeartbeats 400000 in
theorem is_int (n N : Int) (A : Option Addr) (a c : Nat) (t : Str) (z : Bool) (w : World) :
    Calls Tryz.prog 38 #[.iface 2 (I n), valC 1 N (.slice A a c) t z] w fun r w' => r = .returned (.bool (decide (n = N))) ∧ Ext w w' := by
  have hta := fun W => run_assert_same (P := Tryz.prog) (x := 20) (v := I n) W Tryz.underlying2 (by simp)
  by_cases h : n = N
  · subst h
    go_enter Tryz.func38, Tryz.ntmps38
    go_wp2
    go_ret
    exact ⟨by simp, (Ext.refl _).alloc _⟩
  · have h' : (n == N) = false := by simpa using h
    go_enter Tryz.func38, Tryz.ntmps38
    go_wp2
    go_ret
    exact ⟨by simp [h], (Ext.refl _).alloc _⟩
end Go.Proofs.YtdikcgmdmcfpfaaGreat
namespace Go.Proofs.YtdikcgmdmcfpfaaGreat
open Go.RowKit Go.Shelf

set_option maxRecDepth 100000 in
set_option maxHeartbeats 400000 in
theorem refSame_mark {S S' : Nat → Prop} {va vb : Value} {A B : List (Mark)} {w : World} (ha : Sl markT w S va A) (hb : Sl markT w S' vb B) :
    Calls Tryz.prog 22 #[va, vb] w fun e w' => e = .returned (.bool (decide (A = B))) ∧ Ext w w' := by
  have ha' := ha
  have hb' := hb
  obtain ⟨Aa, ca, rfl, h1, h2⟩ := ha.form
  obtain ⟨Ab, cb, rfl, h3, h4⟩ := hb.form
  clear ha hb
  by_cases hlen : A.length = B.length
  · have HE := Lib.hid hlen
    have k0 : ((A.length : Int) != (B.length : Int)) = false := by simp [hlen]
    have k1 : (A.length != B.length) = false := by simp [hlen]
    have k2 : ((A.length : Int) == (B.length : Int)) = true := by simp [hlen]
    have HAT := Lib.hid (fun (pre post : List (Mark)) (m : Mark) (wr : World) (h : Ext w wr) (hl : A = pre ++ m :: post) => mark_at ha' h hl)
    have HBT := Lib.hid (fun (pre post : List (Mark)) (m : Mark) (wr : World) (h : Ext w wr) (hl : B = pre ++ m :: post) => mark_at hb' h hl)
    have hlb : A.length ≤ B.length := by omega
    clear hlen ha' hb'
    go_enter Tryz.func22, Tryz.ntmps22
    go_wp2_with fail
    clear k0 k1 k2
    go_loopw [5] (fun i wr => ∃ pre pa pb, A = pre ++ pa ∧ B = pre ++ pb ∧ i = I pre.length ∧ Ext w wr) (fun i _ => A.length - (intOf i).toNat)
    case atStart => exact ⟨[], A, B, rfl, rfl, rfl, Ext.refl _⟩
    case round =>
      obtain ⟨pre, pa, pb, hla, hlb2, rfl, hx⟩ := hrel
      have hpp : pa.length = pb.length := by have := HE.out; rw [hla, hlb2] at this; simpa using this
      cases pa with
      | cons x pa =>
        cases pb with
        | nil => simp at hpp
        | cons y pb =>
          obtain ⟨b1, o1, rfl, hxa, hxb⟩ := HAT.out pre pa x wr hx hla
          obtain ⟨b2, o2, rfl, hya, hyb⟩ := HBT.out pre pb y wr hx hlb2
          have hlt : pre.length < A.length := by rw [hla]; simp
          have hltb : pre.length < B.length := by rw [hlb2]; simp
          have HLA := Lib.hid hla
          have HLB := Lib.hid hlb2
          have HX := Lib.hid hx
          clear hla hlb2 hpp hx
          have hgd : Tryz.prog.eqGuardType Tryz.prog.depth 25 = false := by kernel_rfl
          by_cases hxy : x = y
          · subst hxy
            have hne := fun W => neq_mark x x W
            simp only [decide_true, Bool.not_true] at hne
            go_wp2_with fail
            go_quiet (fail)
            go_wp2_with fail
            go_roundw
            case rel => exact ⟨pre ++ [x], pa, pb, by rw [HLA.out]; simp, by rw [HLB.out]; simp, by simp, HX.out.drewN _⟩
            case measure => simp [intOf]; omega
          · have hne := fun W => neq_mark x y W
            simp only [hxy, decide_false, Bool.not_false] at hne
            have HF := Lib.hid (show decide (A = B) = false by
              rw [HLA.out, HLB.out]
              simp [hxy])
            clear hxy
            go_wp2_with fail
            go_quiet (fail)
            go_wp2_with fail
            go_ret
            exact ⟨by rw [HF.out]; rfl, HX.out.drewN _⟩
      | nil =>
        have hb0 : pb = [] := List.eq_nil_of_length_eq_zero (by simpa using hpp.symm)
        subst hb0
        rw [List.append_nil] at hla hlb2
        have hl : A.length = pre.length := by rw [hla]
        have HF := Lib.hid (show decide (A = B) = true by rw [hla, hlb2]; simp)
        have HX := Lib.hid hx
        clear hla hlb2 hpp hx
        go_wp2_with fail
        go_ret
        exact ⟨by rw [HF.out]; rfl, HX.out⟩
  · have HF := Lib.hid (show decide (A = B) = false by simp; intro e; exact hlen (by rw [e]))
    have k0 : ((A.length : Int) != (B.length : Int)) = true := by simp; omega
    have k2 : ((A.length : Int) == (B.length : Int)) = false := by rw [beq_eq_false_iff_ne]; omega
    clear ha' hb'
    go_enter Tryz.func22, Tryz.ntmps22
    go_wp2_with fail
    go_ret
    exact ⟨by rw [HF.out]; rfl, Ext.refl _⟩

set_option maxRecDepth 100000 in
set_option maxHeartbeats 400000 in
theorem refSame_count {S S' : Nat → Prop} {va vb : Value} {A B : List (Count)} {w : World} (ha : Sl countT w S va A) (hb : Sl countT w S' vb B) :
    Calls Tryz.prog 67 #[va, vb] w fun e w' => e = .returned (.bool (decide (A = B))) ∧ Ext w w' := by
  have ha' := ha
  have hb' := hb
  obtain ⟨Aa, ca, rfl, h1, h2⟩ := ha.form
  obtain ⟨Ab, cb, rfl, h3, h4⟩ := hb.form
  clear ha hb
  by_cases hlen : A.length = B.length
  · have HE := Lib.hid hlen
    have k0 : ((A.length : Int) != (B.length : Int)) = false := by simp [hlen]
    have k1 : (A.length != B.length) = false := by simp [hlen]
    have k2 : ((A.length : Int) == (B.length : Int)) = true := by simp [hlen]
    have HAT := Lib.hid (fun (pre post : List (Count)) (m : Count) (wr : World) (h : Ext w wr) (hl : A = pre ++ m :: post) => count_at ha' h hl)
    have HBT := Lib.hid (fun (pre post : List (Count)) (m : Count) (wr : World) (h : Ext w wr) (hl : B = pre ++ m :: post) => count_at hb' h hl)
    have hlb : A.length ≤ B.length := by omega
    clear hlen ha' hb'
    go_enter Tryz.func67, Tryz.ntmps67
    go_wp2_with fail
    clear k0 k1 k2
    go_loopw [5] (fun i wr => ∃ pre pa pb, A = pre ++ pa ∧ B = pre ++ pb ∧ i = I pre.length ∧ Ext w wr) (fun i _ => A.length - (intOf i).toNat)
    case atStart => exact ⟨[], A, B, rfl, rfl, rfl, Ext.refl _⟩
    case round =>
      obtain ⟨pre, pa, pb, hla, hlb2, rfl, hx⟩ := hrel
      have hpp : pa.length = pb.length := by have := HE.out; rw [hla, hlb2] at this; simpa using this
      cases pa with
      | cons x pa =>
        cases pb with
        | nil => simp at hpp
        | cons y pb =>
          obtain ⟨b1, o1, rfl, hxa, hxb, hxc⟩ := HAT.out pre pa x wr hx hla
          obtain ⟨b2, o2, rfl, hya, hyb, hyc⟩ := HBT.out pre pb y wr hx hlb2
          have hlt : pre.length < A.length := by rw [hla]; simp
          have hltb : pre.length < B.length := by rw [hlb2]; simp
          have HLA := Lib.hid hla
          have HLB := Lib.hid hlb2
          have HX := Lib.hid hx
          clear hla hlb2 hpp hx
          have hgd : Tryz.prog.eqGuardType Tryz.prog.depth 93 = false := by kernel_rfl
          by_cases hxy : x = y
          · subst hxy
            have hne := fun W => neq_count x x W
            simp only [decide_true, Bool.not_true] at hne
            go_wp2_with fail
            go_quiet (fail)
            go_wp2_with fail
            go_roundw
            case rel => exact ⟨pre ++ [x], pa, pb, by rw [HLA.out]; simp, by rw [HLB.out]; simp, by simp, HX.out.drewN _⟩
            case measure => simp [intOf]; omega
          · have hne := fun W => neq_count x y W
            simp only [hxy, decide_false, Bool.not_false] at hne
            have HF := Lib.hid (show decide (A = B) = false by
              rw [HLA.out, HLB.out]
              simp [hxy])
            clear hxy
            go_wp2_with fail
            go_quiet (fail)
            go_wp2_with fail
            go_ret
            exact ⟨by rw [HF.out]; rfl, HX.out.drewN _⟩
      | nil =>
        have hb0 : pb = [] := List.eq_nil_of_length_eq_zero (by simpa using hpp.symm)
        subst hb0
        rw [List.append_nil] at hla hlb2
        have hl : A.length = pre.length := by rw [hla]
        have HF := Lib.hid (show decide (A = B) = true by rw [hla, hlb2]; simp)
        have HX := Lib.hid hx
        clear hla hlb2 hpp hx
        go_wp2_with fail
        go_ret
        exact ⟨by rw [HF.out]; rfl, HX.out⟩
  · have HF := Lib.hid (show decide (A = B) = false by simp; intro e; exact hlen (by rw [e]))
    have k0 : ((A.length : Int) != (B.length : Int)) = true := by simp; omega
    have k2 : ((A.length : Int) == (B.length : Int)) = false := by rw [beq_eq_false_iff_ne]; omega
    clear ha' hb'
    go_enter Tryz.func67, Tryz.ntmps67
    go_wp2_with fail
    go_ret
    exact ⟨by rw [HF.out]; rfl, Ext.refl _⟩

set_option maxRecDepth 100000 in
set_option maxHeartbeats 400000 in
theorem refSame_str {S S' : Nat → Prop} {va vb : Value} {A B : List (Str)} {w : World} (ha : Sl strT w S va A) (hb : Sl strT w S' vb B) :
    Calls Tryz.prog 58 #[va, vb] w fun e w' => e = .returned (.bool (decide (A = B))) ∧ Ext w w' := by
  have ha' := ha
  have hb' := hb
  obtain ⟨Aa, ca, rfl, h1, h2⟩ := ha.form
  obtain ⟨Ab, cb, rfl, h3, h4⟩ := hb.form
  clear ha hb
  by_cases hlen : A.length = B.length
  · have HE := Lib.hid hlen
    have k0 : ((A.length : Int) != (B.length : Int)) = false := by simp [hlen]
    have k1 : (A.length != B.length) = false := by simp [hlen]
    have k2 : ((A.length : Int) == (B.length : Int)) = true := by simp [hlen]
    have HAT := Lib.hid (fun (pre post : List (Str)) (m : Str) (wr : World) (h : Ext w wr) (hl : A = pre ++ m :: post) => str_at ha' h hl)
    have HBT := Lib.hid (fun (pre post : List (Str)) (m : Str) (wr : World) (h : Ext w wr) (hl : B = pre ++ m :: post) => str_at hb' h hl)
    have hlb : A.length ≤ B.length := by omega
    clear hlen ha' hb'
    go_enter Tryz.func58, Tryz.ntmps58
    go_wp2_with fail
    clear k0 k1 k2
    go_loopw [5] (fun i wr => ∃ pre pa pb, A = pre ++ pa ∧ B = pre ++ pb ∧ i = I pre.length ∧ Ext w wr) (fun i _ => A.length - (intOf i).toNat)
    case atStart => exact ⟨[], A, B, rfl, rfl, rfl, Ext.refl _⟩
    case round =>
      obtain ⟨pre, pa, pb, hla, hlb2, rfl, hx⟩ := hrel
      have hpp : pa.length = pb.length := by have := HE.out; rw [hla, hlb2] at this; simpa using this
      cases pa with
      | cons x pa =>
        cases pb with
        | nil => simp at hpp
        | cons y pb =>
          obtain ⟨b1, o1, rfl, hxa⟩ := HAT.out pre pa x wr hx hla
          obtain ⟨b2, o2, rfl, hya⟩ := HBT.out pre pb y wr hx hlb2
          have hlt : pre.length < A.length := by rw [hla]; simp
          have hltb : pre.length < B.length := by rw [hlb2]; simp
          have HLA := Lib.hid hla
          have HLB := Lib.hid hlb2
          have HX := Lib.hid hx
          clear hla hlb2 hpp hx
          by_cases hxy : x = y
          · subst hxy
            go_wp2_with fail
            go_quiet (fail)
            go_wp2_with fail
            go_roundw
            case rel => exact ⟨pre ++ [x], pa, pb, by rw [HLA.out]; simp, by rw [HLB.out]; simp, by simp, HX.out.drewN _⟩
            case measure => simp [intOf]; omega
          · have hne : (x == y) = false := by simpa using hxy
            have HF := Lib.hid (show decide (A = B) = false by
              rw [HLA.out, HLB.out]
              simp [hxy])
            clear hxy
            go_wp2_with fail
            go_quiet (fail)
            go_wp2_with fail
            go_ret
            exact ⟨by rw [HF.out]; rfl, HX.out.drewN _⟩
      | nil =>
        have hb0 : pb = [] := List.eq_nil_of_length_eq_zero (by simpa using hpp.symm)
        subst hb0
        rw [List.append_nil] at hla hlb2
        have hl : A.length = pre.length := by rw [hla]
        have HF := Lib.hid (show decide (A = B) = true by rw [hla, hlb2]; simp)
        have HX := Lib.hid hx
        clear hla hlb2 hpp hx
        go_wp2_with fail
        go_ret
        exact ⟨by rw [HF.out]; rfl, HX.out⟩
  · have HF := Lib.hid (show decide (A = B) = false by simp; intro e; exact hlen (by rw [e]))
    have k0 : ((A.length : Int) != (B.length : Int)) = true := by simp; omega
    have k2 : ((A.length : Int) == (B.length : Int)) = false := by rw [beq_eq_false_iff_ne]; omega
    clear ha' hb'
    go_enter Tryz.func58, Tryz.ntmps58
    go_wp2_with fail
    go_ret
    exact ⟨by rw [HF.out]; rfl, Ext.refl _⟩

end Go.Proofs.YtdikcgmdmcfpfaaGreat
namespace Go.Proofs.YtdikcgmdmcfpfaaGreat

theorem field_delta (v0 v1 v2 v3 : Value) (W : World) : (Instr.field 64 (.agg #[v0, v1, v2, v3]) 1).run Tryz.prog W = .ok (.agg #[v1, v2, v3]) W := by
  simp [Instr.field, run_underlying Tryz.underlying64, Go.part, asAgg, Tryz.isAgg30, Tryz.sizeOf30]
theorem field_state1 (v1 v2 v3 : Value) (W : World) : (Instr.field 30 (.agg #[v1, v2, v3]) 1).run Tryz.prog W = .ok v2 W := by
  simp [Instr.field, run_underlying Tryz.underlying30, Go.part, asAgg, Tryz.isAgg27, Tryz.sizeOf27]
end Go.Proofs.YtdikcgmdmcfpfaaGreat
namespace Go.Proofs.YtdikcgmdmcfpfaaGreat
open Go.RowKit Go.Shelf

set_option maxRecDepth 100000 in
set_option maxHeartbeats 4000000 in
theorem alive_any (w : World) : Calls Tryz.prog 12 #[] w fun r w' => r = .returned (.bool true) ∧ Ext w w' := by
  have C1 := Lib.hid (updS_any (w := w) [49] opA (by decide) (by decide) (StAt.none w (fun _ => True) none none none) small_noneS)
  have hxw := Ext.refl w
  go_enter Tryz.func12, Tryz.ntmps12
  go_wp2_with fail
  refine C1.out.mono ?_
  clear C1
  rintro r V ⟨u1, u2, u3, rfl, hS, hxV⟩
  rw [alive_A] at hS ⊢
  obtain ⟨A1, na1, rfl, -, -⟩ : ∃ A c, u1 = Value.slice A 1 c ∧ 1 ≤ c ∧ c ≤ 9223372036854775807 := hS.all.form
  obtain ⟨A2, na2, rfl, -, -⟩ : ∃ A c, u2 = Value.slice A 1 c ∧ 1 ≤ c ∧ c ≤ 9223372036854775807 := hS.entries.form
  obtain ⟨A3, na3, rfl, -, -⟩ : ∃ A c, u3 = Value.slice A 0 c ∧ 0 ≤ c ∧ c ≤ 9223372036854775807 := hS.pruned.form
  have hxa := (Ext.refl V).alloc (.cells #[.slice A1 1 na1, .slice A2 1 na2, .slice A3 0 na3] 30)
  have rr1 := rowNew V 30 [.slice A1 1 na1, .slice A2 1 na2, .slice A3 0 na3]
  have hsz1 : V.heap.size < (V.alloc (.cells #[.slice A1 1 na1, .slice A2 1 na2, .slice A3 0 na3] 30)).heap.size := by simp
  have hxw' := (hxw.trans hxV).trans hxa
  have sA := hS.ext hxa
  clear hxw hxa hxV hsz1 
  have hxw := hxw'
  clear hxw' 
  obtain ⟨W1, hW1⟩ : ∃ W, V.alloc (.cells #[.slice A1 1 na1, .slice A2 1 na2, .slice A3 0 na3] 30) = W := ⟨_, rfl⟩
  rw [hW1] at rr1 hxw sA
  obtain ⟨g1, hg1⟩ : ∃ g, V.heap.size = g := ⟨_, rfl⟩
  rw [hg1] at rr1
  replace sA := sA.mono (S' := fun _ => True) (fun _ _ _ => trivial)
  have C2 := Lib.hid (updS_any (w := W1) [49, 46, 49] opB (by decide) (by decide) (StAt.none W1 (fun _ => True) none none none) small_noneS)
  go_wp2_with fail
  (try rw [hg1])
  (try rw [hW1])
  clear hW1 hg1 V hS
  refine C2.out.mono ?_
  clear C2
  rintro r V ⟨u1, u2, u3, rfl, hS, hxV⟩
  rw [alive_B] at hS ⊢
  obtain ⟨B1, nb1, rfl, -, -⟩ : ∃ A c, u1 = Value.slice A 1 c ∧ 1 ≤ c ∧ c ≤ 9223372036854775807 := hS.all.form
  obtain ⟨B2, nb2, rfl, -, -⟩ : ∃ A c, u2 = Value.slice A 1 c ∧ 1 ≤ c ∧ c ≤ 9223372036854775807 := hS.entries.form
  obtain ⟨B3, nb3, rfl, -, -⟩ : ∃ A c, u3 = Value.slice A 0 c ∧ 0 ≤ c ∧ c ≤ 9223372036854775807 := hS.pruned.form
  have hxa := (Ext.refl V).alloc (.cells #[.slice B1 1 nb1, .slice B2 1 nb2, .slice B3 0 nb3] 30)
  have rr2 := rowNew V 30 [.slice B1 1 nb1, .slice B2 1 nb2, .slice B3 0 nb3]
  have hsz2 : V.heap.size < (V.alloc (.cells #[.slice B1 1 nb1, .slice B2 1 nb2, .slice B3 0 nb3] 30)).heap.size := by simp
  have sA' := (sA.ext hxV).ext hxa
  have rr1' := (rr1.ext hxV).ext hxa
  have hxw' := (hxw.trans hxV).trans hxa
  have sB := hS.ext hxa
  clear hxw hxa hxV hsz2 sA rr1
  have sA := sA'
  have rr1 := rr1'
  have hxw := hxw'
  clear hxw' sA' rr1'
  obtain ⟨W2, hW2⟩ : ∃ W, V.alloc (.cells #[.slice B1 1 nb1, .slice B2 1 nb2, .slice B3 0 nb3] 30) = W := ⟨_, rfl⟩
  rw [hW2] at rr2 hxw sA rr1 sB
  obtain ⟨g2, hg2⟩ : ∃ g, V.heap.size = g := ⟨_, rfl⟩
  rw [hg2] at rr2
  replace sB := sB.mono (S' := fun _ => True) (fun _ _ _ => trivial)
  have C3 := Lib.hid (joinS_any sA sB small_stA small_stB)
  have ka0 := rr1.cell (j := 0) rfl
  have ka1 := rr1.cell (j := 1) rfl
  have ka2 := rr1.cell (j := 2) rfl
  have kb0 := rr2.cell (j := 0) rfl
  have kb1 := rr2.cell (j := 1) rfl
  have kb2 := rr2.cell (j := 2) rfl
  go_wp2_with fail
  (try rw [hg2])
  (try rw [hW2])
  clear hW2 hg2 V hS ka0 ka1 ka2 kb0 kb1 kb2
  refine C3.out.mono ?_
  clear C3
  rintro r V ⟨u1, u2, u3, rfl, hS, hxV⟩
  rw [alive_J] at hS
  obtain ⟨J1, nj1, rfl, -, -⟩ : ∃ A c, u1 = Value.slice A 2 c ∧ 2 ≤ c ∧ c ≤ 9223372036854775807 := hS.all.form
  obtain ⟨J2, nj2, rfl, -, -⟩ : ∃ A c, u2 = Value.slice A 1 c ∧ 1 ≤ c ∧ c ≤ 9223372036854775807 := hS.entries.form
  obtain ⟨J3, nj3, rfl, -, -⟩ : ∃ A c, u3 = Value.slice A 0 c ∧ 0 ≤ c ∧ c ≤ 9223372036854775807 := hS.pruned.form
  have hxa := (Ext.refl V).alloc (.cells #[.slice J1 2 nj1, .slice J2 1 nj2, .slice J3 0 nj3] 30)
  have rr3 := rowNew V 30 [.slice J1 2 nj1, .slice J2 1 nj2, .slice J3 0 nj3]
  have hsz3 : V.heap.size < (V.alloc (.cells #[.slice J1 2 nj1, .slice J2 1 nj2, .slice J3 0 nj3] 30)).heap.size := by simp
  have sA' := (sA.ext hxV).ext hxa
  have rr1' := (rr1.ext hxV).ext hxa
  have sB' := (sB.ext hxV).ext hxa
  have rr2' := (rr2.ext hxV).ext hxa
  have hxw' := (hxw.trans hxV).trans hxa
  have sJ := hS.at.ext hxa
  clear hxw hxa hxV hsz3 sA rr1 sB rr2
  have sA := sA'
  have rr1 := rr1'
  have sB := sB'
  have rr2 := rr2'
  have hxw := hxw'
  clear hxw' sA' rr1' sB' rr2'
  obtain ⟨W3, hW3⟩ : ∃ W, V.alloc (.cells #[.slice J1 2 nj1, .slice J2 1 nj2, .slice J3 0 nj3] 30) = W := ⟨_, rfl⟩
  rw [hW3] at rr3 hxw sA rr1 sB rr2 sJ
  obtain ⟨g3, hg3⟩ : ∃ g, V.heap.size = g := ⟨_, rfl⟩
  rw [hg3] at rr3
  replace sJ := sJ.mono (S' := fun _ => True) (fun _ _ _ => trivial)
  have C4 := Lib.hid (sinceS_any sJ sA.all small_stJ (by decide))
  have kj0 := rr3.cell (j := 0) rfl
  have kj1 := rr3.cell (j := 1) rfl
  have kj2 := rr3.cell (j := 2) rfl
  have ka0 := rr1.cell (j := 0) rfl
  go_wp2_with fail
  (try rw [hg3])
  (try rw [hW3])
  clear hW3 hg3 V hS kj0 kj1 kj2 ka0
  refine C4.out.mono ?_
  clear C4
  rintro r V ⟨u0, u1, u2, u3, rfl, hb, hS, hxV⟩
  rw [alive_D] at hS
  rw [alive_D0] at hb
  obtain ⟨D0, nd0, rfl, -, -⟩ : ∃ A c, u0 = Value.slice A 1 c ∧ 1 ≤ c ∧ c ≤ 9223372036854775807 := hb.form
  obtain ⟨D1, nd1, rfl, -, -⟩ : ∃ A c, u1 = Value.slice A 2 c ∧ 2 ≤ c ∧ c ≤ 9223372036854775807 := hS.all.form
  obtain ⟨D2, nd2, rfl, -, -⟩ : ∃ A c, u2 = Value.slice A 1 c ∧ 1 ≤ c ∧ c ≤ 9223372036854775807 := hS.entries.form
  obtain ⟨D3, nd3, rfl, -, -⟩ : ∃ A c, u3 = Value.slice A 0 c ∧ 0 ≤ c ∧ c ≤ 9223372036854775807 := hS.pruned.form
  have hxa := (Ext.refl V).alloc (.cells #[.slice D0 1 nd0, .slice D1 2 nd1, .slice D2 1 nd2, .slice D3 0 nd3] 64)
  have rr4 := rowNew V 64 [.slice D0 1 nd0, .slice D1 2 nd1, .slice D2 1 nd2, .slice D3 0 nd3]
  have hsz4 : V.heap.size < (V.alloc (.cells #[.slice D0 1 nd0, .slice D1 2 nd1, .slice D2 1 nd2, .slice D3 0 nd3] 64)).heap.size := by simp
  have sA' := (sA.ext hxV).ext hxa
  have rr1' := (rr1.ext hxV).ext hxa
  have sB' := (sB.ext hxV).ext hxa
  have rr2' := (rr2.ext hxV).ext hxa
  have sJ' := (sJ.ext hxV).ext hxa
  have rr3' := (rr3.ext hxV).ext hxa
  have hxw' := (hxw.trans hxV).trans hxa
  have sD := hS.at.ext hxa
  have sD0 := hb.ext hxa
  clear hxw hxa hxV hsz4 sA rr1 sB rr2 sJ rr3
  have sA := sA'
  have rr1 := rr1'
  have sB := sB'
  have rr2 := rr2'
  have sJ := sJ'
  have rr3 := rr3'
  have hxw := hxw'
  clear hxw' sA' rr1' sB' rr2' sJ' rr3'
  obtain ⟨W4, hW4⟩ : ∃ W, V.alloc (.cells #[.slice D0 1 nd0, .slice D1 2 nd1, .slice D2 1 nd2, .slice D3 0 nd3] 64) = W := ⟨_, rfl⟩
  rw [hW4] at rr4 hxw sA rr1 sB rr2 sJ rr3 sD sD0
  obtain ⟨g4, hg4⟩ : ∃ g, V.heap.size = g := ⟨_, rfl⟩
  rw [hg4] at rr4
  replace sD := sD.mono (S' := fun _ => True) (fun _ _ _ => trivial)
  replace sD0 := (own_slMark (l := stA.all) sD0).mono (S' := fun _ => True) (by decide) (fun _ _ _ => trivial)
  have C5 := Lib.hid (applyS_any sA sD sD0 small_stA small_stJ (by decide))
  have ka0 := rr1.cell (j := 0) rfl
  have ka1 := rr1.cell (j := 1) rfl
  have ka2 := rr1.cell (j := 2) rfl
  have kd0 := rr4.cell (j := 0) rfl
  have kd1 := rr4.cell (j := 1) rfl
  have kd2 := rr4.cell (j := 2) rfl
  have kd3 := rr4.cell (j := 3) rfl
  go_wp2_with fail
  (try rw [hg4])
  (try rw [hW4])
  clear hW4 hg4 V hS hb ka0 ka1 ka2 kd0 kd1 kd2 kd3
  refine C5.out.mono ?_
  clear C5
  rintro r V ⟨u1, u2, u3, rfl, hS, hxV⟩
  rw [alive_P] at hS ⊢
  obtain ⟨K1, nk1, rfl, -, -⟩ : ∃ A c, u1 = Value.slice A 2 c ∧ 2 ≤ c ∧ c ≤ 9223372036854775807 := hS.all.form
  obtain ⟨K2, nk2, rfl, -, -⟩ : ∃ A c, u2 = Value.slice A 1 c ∧ 1 ≤ c ∧ c ≤ 9223372036854775807 := hS.entries.form
  obtain ⟨K3, nk3, rfl, -, -⟩ : ∃ A c, u3 = Value.slice A 0 c ∧ 0 ≤ c ∧ c ≤ 9223372036854775807 := hS.pruned.form
  have hxa := (Ext.refl V).alloc (.cells #[.slice K1 2 nk1, .slice K2 1 nk2, .slice K3 0 nk3] 30)
  have rr5 := rowNew V 30 [.slice K1 2 nk1, .slice K2 1 nk2, .slice K3 0 nk3]
  have hsz5 : V.heap.size < (V.alloc (.cells #[.slice K1 2 nk1, .slice K2 1 nk2, .slice K3 0 nk3] 30)).heap.size := by simp
  have sA' := (sA.ext hxV).ext hxa
  have rr1' := (rr1.ext hxV).ext hxa
  have sB' := (sB.ext hxV).ext hxa
  have rr2' := (rr2.ext hxV).ext hxa
  have sJ' := (sJ.ext hxV).ext hxa
  have rr3' := (rr3.ext hxV).ext hxa
  have sD' := (sD.ext hxV).ext hxa
  have sD0' := (sD0.ext (by decide) hxV).ext (by decide) hxa
  have rr4' := (rr4.ext hxV).ext hxa
  have hxw' := (hxw.trans hxV).trans hxa
  have sK := hS.ext hxa
  clear hxw hxa hxV hsz5 sA rr1 sB rr2 sJ rr3 sD sD0 rr4
  have sA := sA'
  have rr1 := rr1'
  have sB := sB'
  have rr2 := rr2'
  have sJ := sJ'
  have rr3 := rr3'
  have sD := sD'
  have sD0 := sD0'
  have rr4 := rr4'
  have hxw := hxw'
  clear hxw' sA' rr1' sB' rr2' sJ' rr3' sD' sD0' rr4'
  obtain ⟨W5, hW5⟩ : ∃ W, V.alloc (.cells #[.slice K1 2 nk1, .slice K2 1 nk2, .slice K3 0 nk3] 30) = W := ⟨_, rfl⟩
  rw [hW5] at rr5 hxw sA rr1 sB rr2 sJ rr3 sD sD0 rr4 sK
  obtain ⟨g5, hg5⟩ : ∃ g, V.heap.size = g := ⟨_, rfl⟩
  rw [hg5] at rr5
  replace sK := sK.mono (S' := fun _ => True) (fun _ _ _ => trivial)
  have C6 := Lib.hid (applyS_any (w := W5) (StAt.none W5 (fun _ => True) none none none) sD sD0 small_noneS small_stJ (by decide))
  have kd0 := rr4.cell (j := 0) rfl
  have kd1 := rr4.cell (j := 1) rfl
  have kd2 := rr4.cell (j := 2) rfl
  have kd3 := rr4.cell (j := 3) rfl
  go_wp2_with fail
  (try rw [hg5])
  (try rw [hW5])
  clear hW5 hg5 V hS kd0 kd1 kd2 kd3
  refine C6.out.mono ?_
  clear C6
  rintro r V ⟨u1, u2, u3, rfl, hS, hxV⟩
  rw [alive_P0] at hS ⊢
  obtain ⟨H1, nh1, rfl, -, -⟩ : ∃ A c, u1 = Value.slice A 0 c ∧ 0 ≤ c ∧ c ≤ 9223372036854775807 := hS.all.form
  obtain ⟨H2, nh2, rfl, -, -⟩ : ∃ A c, u2 = Value.slice A 0 c ∧ 0 ≤ c ∧ c ≤ 9223372036854775807 := hS.entries.form
  obtain ⟨H3, nh3, rfl, -, -⟩ : ∃ A c, u3 = Value.slice A 0 c ∧ 0 ≤ c ∧ c ≤ 9223372036854775807 := hS.pruned.form
  have hxa := (Ext.refl V).alloc (.cells #[.slice H1 0 nh1, .slice H2 0 nh2, .slice H3 0 nh3] 30)
  have rr6 := rowNew V 30 [.slice H1 0 nh1, .slice H2 0 nh2, .slice H3 0 nh3]
  have hsz6 : V.heap.size < (V.alloc (.cells #[.slice H1 0 nh1, .slice H2 0 nh2, .slice H3 0 nh3] 30)).heap.size := by simp
  have sA' := (sA.ext hxV).ext hxa
  have rr1' := (rr1.ext hxV).ext hxa
  have sB' := (sB.ext hxV).ext hxa
  have rr2' := (rr2.ext hxV).ext hxa
  have sJ' := (sJ.ext hxV).ext hxa
  have rr3' := (rr3.ext hxV).ext hxa
  have sD' := (sD.ext hxV).ext hxa
  have sD0' := (sD0.ext (by decide) hxV).ext (by decide) hxa
  have rr4' := (rr4.ext hxV).ext hxa
  have sK' := (sK.ext hxV).ext hxa
  have rr5' := (rr5.ext hxV).ext hxa
  have hxw' := (hxw.trans hxV).trans hxa
  clear hxw hxa hxV hsz6 sA rr1 sB rr2 sJ rr3 sD sD0 rr4 sK rr5
  have sA := sA'
  have rr1 := rr1'
  have sB := sB'
  have rr2 := rr2'
  have sJ := sJ'
  have rr3 := rr3'
  have sD := sD'
  have sD0 := sD0'
  have rr4 := rr4'
  have sK := sK'
  have rr5 := rr5'
  have hxw := hxw'
  clear hxw' sA' rr1' sB' rr2' sJ' rr3' sD' sD0' rr4' sK' rr5'
  obtain ⟨W6, hW6⟩ : ∃ W, V.alloc (.cells #[.slice H1 0 nh1, .slice H2 0 nh2, .slice H3 0 nh3] 30) = W := ⟨_, rfl⟩
  rw [hW6] at rr6 hxw sA rr1 sB rr2 sJ rr3 sD sD0 rr4 sK rr5
  obtain ⟨g6, hg6⟩ : ∃ g, V.heap.size = g := ⟨_, rfl⟩
  rw [hg6] at rr6
  have C7 := Lib.hid (reserveS_any (w := W6) [49] 3 (by decide) sA small_stA)
  have ka0 := rr1.cell (j := 0) rfl
  have ka1 := rr1.cell (j := 1) rfl
  have ka2 := rr1.cell (j := 2) rfl
  go_wp2_with fail
  (try rw [hg6])
  (try rw [hW6])
  clear hW6 hg6 V hS ka0 ka1 ka2
  refine C7.out.mono ?_
  clear C7
  rintro r V ⟨u1, u2, u3, rfl, hS, hxV⟩
  rw [alive_R] at hS ⊢
  obtain ⟨R1, nr1, rfl, -, -⟩ : ∃ A c, u1 = Value.slice A 1 c ∧ 1 ≤ c ∧ c ≤ 9223372036854775807 := hS.all.form
  obtain ⟨R2, nr2, rfl, -, -⟩ : ∃ A c, u2 = Value.slice A 1 c ∧ 1 ≤ c ∧ c ≤ 9223372036854775807 := hS.entries.form
  obtain ⟨R3, nr3, rfl, -, -⟩ : ∃ A c, u3 = Value.slice A 0 c ∧ 0 ≤ c ∧ c ≤ 9223372036854775807 := hS.pruned.form
  have hxa := (Ext.refl V).alloc (.cells #[.slice R1 1 nr1, .slice R2 1 nr2, .slice R3 0 nr3] 30)
  have rr7 := rowNew V 30 [.slice R1 1 nr1, .slice R2 1 nr2, .slice R3 0 nr3]
  have hsz7 : V.heap.size < (V.alloc (.cells #[.slice R1 1 nr1, .slice R2 1 nr2, .slice R3 0 nr3] 30)).heap.size := by simp
  have sA' := (sA.ext hxV).ext hxa
  have rr1' := (rr1.ext hxV).ext hxa
  have sB' := (sB.ext hxV).ext hxa
  have rr2' := (rr2.ext hxV).ext hxa
  have sJ' := (sJ.ext hxV).ext hxa
  have rr3' := (rr3.ext hxV).ext hxa
  have sD' := (sD.ext hxV).ext hxa
  have sD0' := (sD0.ext (by decide) hxV).ext (by decide) hxa
  have rr4' := (rr4.ext hxV).ext hxa
  have sK' := (sK.ext hxV).ext hxa
  have rr5' := (rr5.ext hxV).ext hxa
  have rr6' := (rr6.ext hxV).ext hxa
  have hxw' := (hxw.trans hxV).trans hxa
  have sR := hS.ext hxa
  clear hxw hxa hxV hsz7 sA rr1 sB rr2 sJ rr3 sD sD0 rr4 sK rr5 rr6
  have sA := sA'
  have rr1 := rr1'
  have sB := sB'
  have rr2 := rr2'
  have sJ := sJ'
  have rr3 := rr3'
  have sD := sD'
  have sD0 := sD0'
  have rr4 := rr4'
  have sK := sK'
  have rr5 := rr5'
  have rr6 := rr6'
  have hxw := hxw'
  clear hxw' sA' rr1' sB' rr2' sJ' rr3' sD' sD0' rr4' sK' rr5' rr6'
  obtain ⟨W7, hW7⟩ : ∃ W, V.alloc (.cells #[.slice R1 1 nr1, .slice R2 1 nr2, .slice R3 0 nr3] 30) = W := ⟨_, rfl⟩
  rw [hW7] at rr7 hxw sA rr1 sB rr2 sJ rr3 sD sD0 rr4 sK rr5 rr6 sR
  obtain ⟨g7, hg7⟩ : ∃ g, V.heap.size = g := ⟨_, rfl⟩
  rw [hg7] at rr7
  replace sR := sR.mono (S' := fun _ => True) (fun _ _ _ => trivial)
  have C8 := Lib.hid (updS_any (w := W7) [] op0 (by decide) (by decide) sA small_stA)
  have ka0 := rr1.cell (j := 0) rfl
  have ka1 := rr1.cell (j := 1) rfl
  have ka2 := rr1.cell (j := 2) rfl
  go_wp2_with fail
  (try rw [hg7])
  (try rw [hW7])
  clear hW7 hg7 V hS ka0 ka1 ka2
  refine C8.out.mono ?_
  clear C8
  rintro r V ⟨u1, u2, u3, rfl, hS, hxV⟩
  rw [alive_M] at hS ⊢
  obtain ⟨M1, nm1, rfl, -, -⟩ : ∃ A c, u1 = Value.slice A 0 c ∧ 0 ≤ c ∧ c ≤ 9223372036854775807 := hS.all.form
  obtain ⟨M2, nm2, rfl, -, -⟩ : ∃ A c, u2 = Value.slice A 0 c ∧ 0 ≤ c ∧ c ≤ 9223372036854775807 := hS.entries.form
  obtain ⟨M3, nm3, rfl, -, -⟩ : ∃ A c, u3 = Value.slice A 0 c ∧ 0 ≤ c ∧ c ≤ 9223372036854775807 := hS.pruned.form
  have hxa := (Ext.refl V).alloc (.cells #[.slice M1 0 nm1, .slice M2 0 nm2, .slice M3 0 nm3] 30)
  have rr8 := rowNew V 30 [.slice M1 0 nm1, .slice M2 0 nm2, .slice M3 0 nm3]
  have hsz8 : V.heap.size < (V.alloc (.cells #[.slice M1 0 nm1, .slice M2 0 nm2, .slice M3 0 nm3] 30)).heap.size := by simp
  have sA' := (sA.ext hxV).ext hxa
  have rr1' := (rr1.ext hxV).ext hxa
  have sB' := (sB.ext hxV).ext hxa
  have rr2' := (rr2.ext hxV).ext hxa
  have sJ' := (sJ.ext hxV).ext hxa
  have rr3' := (rr3.ext hxV).ext hxa
  have sD' := (sD.ext hxV).ext hxa
  have sD0' := (sD0.ext (by decide) hxV).ext (by decide) hxa
  have rr4' := (rr4.ext hxV).ext hxa
  have sK' := (sK.ext hxV).ext hxa
  have rr5' := (rr5.ext hxV).ext hxa
  have rr6' := (rr6.ext hxV).ext hxa
  have sR' := (sR.ext hxV).ext hxa
  have rr7' := (rr7.ext hxV).ext hxa
  have hxw' := (hxw.trans hxV).trans hxa
  clear hxw hxa hxV hsz8 sA rr1 sB rr2 sJ rr3 sD sD0 rr4 sK rr5 rr6 sR rr7
  have sA := sA'
  have rr1 := rr1'
  have sB := sB'
  have rr2 := rr2'
  have sJ := sJ'
  have rr3 := rr3'
  have sD := sD'
  have sD0 := sD0'
  have rr4 := rr4'
  have sK := sK'
  have rr5 := rr5'
  have rr6 := rr6'
  have sR := sR'
  have rr7 := rr7'
  have hxw := hxw'
  clear hxw' sA' rr1' sB' rr2' sJ' rr3' sD' sD0' rr4' sK' rr5' rr6' sR' rr7'
  obtain ⟨W8, hW8⟩ : ∃ W, V.alloc (.cells #[.slice M1 0 nm1, .slice M2 0 nm2, .slice M3 0 nm3] 30) = W := ⟨_, rfl⟩
  rw [hW8] at rr8 hxw sA rr1 sB rr2 sJ rr3 sD sD0 rr4 sK rr5 rr6 sR rr7
  obtain ⟨g8, hg8⟩ : ∃ g, V.heap.size = g := ⟨_, rfl⟩
  rw [hg8] at rr8
  have C9 := Lib.hid (ofS_any (w := W8) [35, 110] sJ small_stJ.each)
  have kj0 := rr3.cell (j := 0) rfl
  have kj1 := rr3.cell (j := 1) rfl
  have kj2 := rr3.cell (j := 2) rfl
  go_wp2_with fail
  (try rw [hg8])
  (try rw [hW8])
  clear hW8 hg8 V hS kj0 kj1 kj2
  refine C9.out.mono ?_
  clear C9
  rintro r V ⟨u1, u2, u3, rfl, hn, hxV⟩
  rw [alive_F] at hn ⊢
  simp only [Option.getD_some, Option.isSome_some] at hn ⊢
  obtain ⟨X1, nx1, rfl, -, -⟩ : ∃ A c, u1 = Value.slice A 2 c ∧ 2 ≤ c ∧ c ≤ 9223372036854775807 := hn.seen.form
  obtain ⟨X2, nx2, rfl, -, -⟩ : ∃ A c, u2 = Value.slice A 2 c ∧ 2 ≤ c ∧ c ≤ 9223372036854775807 := hn.counts.form
  obtain ⟨X3, nx3, rfl, -, -⟩ : ∃ A c, u3 = Value.slice A 0 c ∧ 0 ≤ c ∧ c ≤ 9223372036854775807 := hn.items.form
  have hxa := (Ext.refl V).alloc (.cells #[St entJ.key, .slice X1 2 nx1, .slice X2 2 nx2, .slice X3 0 nx3, U entJ.cell.1, St entJ.cell.2.1, .bool entJ.cell.2.2] 37)
  have rr9 := rowNew V 37 [St entJ.key, .slice X1 2 nx1, .slice X2 2 nx2, .slice X3 0 nx3, U entJ.cell.1, St entJ.cell.2.1, .bool entJ.cell.2.2]
  have hsz9 : V.heap.size < (V.alloc (.cells #[St entJ.key, .slice X1 2 nx1, .slice X2 2 nx2, .slice X3 0 nx3, U entJ.cell.1, St entJ.cell.2.1, .bool entJ.cell.2.2] 37)).heap.size := by simp
  have sA' := (sA.ext hxV).ext hxa
  have rr1' := (rr1.ext hxV).ext hxa
  have sB' := (sB.ext hxV).ext hxa
  have rr2' := (rr2.ext hxV).ext hxa
  have sJ' := (sJ.ext hxV).ext hxa
  have rr3' := (rr3.ext hxV).ext hxa
  have sD' := (sD.ext hxV).ext hxa
  have sD0' := (sD0.ext (by decide) hxV).ext (by decide) hxa
  have rr4' := (rr4.ext hxV).ext hxa
  have sK' := (sK.ext hxV).ext hxa
  have rr5' := (rr5.ext hxV).ext hxa
  have rr6' := (rr6.ext hxV).ext hxa
  have sR' := (sR.ext hxV).ext hxa
  have rr7' := (rr7.ext hxV).ext hxa
  have rr8' := (rr8.ext hxV).ext hxa
  have hxw' := (hxw.trans hxV).trans hxa
  clear hxw hxa hxV hsz9 sA rr1 sB rr2 sJ rr3 sD sD0 rr4 sK rr5 rr6 sR rr7 rr8
  have sA := sA'
  have rr1 := rr1'
  have sB := sB'
  have rr2 := rr2'
  have sJ := sJ'
  have rr3 := rr3'
  have sD := sD'
  have sD0 := sD0'
  have rr4 := rr4'
  have sK := sK'
  have rr5 := rr5'
  have rr6 := rr6'
  have sR := sR'
  have rr7 := rr7'
  have rr8 := rr8'
  have hxw := hxw'
  clear hxw' sA' rr1' sB' rr2' sJ' rr3' sD' sD0' rr4' sK' rr5' rr6' sR' rr7' rr8'
  obtain ⟨W9, hW9⟩ : ∃ W, V.alloc (.cells #[St entJ.key, .slice X1 2 nx1, .slice X2 2 nx2, .slice X3 0 nx3, U entJ.cell.1, St entJ.cell.2.1, .bool entJ.cell.2.2] 37) = W := ⟨_, rfl⟩
  rw [hW9] at rr9 hxw sA rr1 sB rr2 sJ rr3 sD sD0 rr4 sK rr5 rr6 sR rr7 rr8
  obtain ⟨g9, hg9⟩ : ∃ g, V.heap.size = g := ⟨_, rfl⟩
  rw [hg9] at rr9
  have C10 := Lib.hid (getS_any (w := W9) [35, 110] sJ small_stJ.each)
  have kj0 := rr3.cell (j := 0) rfl
  have kj1 := rr3.cell (j := 1) rfl
  have kj2 := rr3.cell (j := 2) rfl
  go_wp2_with fail
  (try rw [hg9])
  (try rw [hW9])
  clear hW9 hg9 V hn kj0 kj1 kj2
  refine C10.out.mono ?_
  clear C10
  rintro r V ⟨v, rfl, hv, hxV⟩
  rw [alive_G] at hv
  unfold ValAt at hv
  rw [alive_K, if_pos rfl, alive_V] at hv
  subst hv
  have CI := Lib.hid (is_int 7 7 none 0 0 [] false V)
  have sA := sA.ext hxV
  have rr1 := rr1.ext hxV
  have sB := sB.ext hxV
  have rr2 := rr2.ext hxV
  have sJ := sJ.ext hxV
  have rr3 := rr3.ext hxV
  have sD := sD.ext hxV
  have sD0 := sD0.ext (by decide) hxV
  have rr4 := rr4.ext hxV
  have sK := sK.ext hxV
  have rr5 := rr5.ext hxV
  have rr6 := rr6.ext hxV
  have sR := sR.ext hxV
  have rr7 := rr7.ext hxV
  have rr8 := rr8.ext hxV
  have rr9 := rr9.ext hxV
  have hxw := hxw.trans hxV
  clear hxV
  go_wp2_with fail
  refine CI.out.mono ?_
  clear CI
  rintro r Z ⟨rfl, hxV⟩
  have sA := sA.ext hxV
  have rr1 := rr1.ext hxV
  have sB := sB.ext hxV
  have rr2 := rr2.ext hxV
  have sJ := sJ.ext hxV
  have rr3 := rr3.ext hxV
  have sD := sD.ext hxV
  have sD0 := sD0.ext (by decide) hxV
  have rr4 := rr4.ext hxV
  have sK := sK.ext hxV
  have rr5 := rr5.ext hxV
  have rr6 := rr6.ext hxV
  have sR := sR.ext hxV
  have rr7 := rr7.ext hxV
  have rr8 := rr8.ext hxV
  have rr9 := rr9.ext hxV
  have hxw := hxw.trans hxV
  clear hxV
  go_wp2_with fail
  have hend := trivial
  clear hend
  refine wp_region_facts [fun v _ => v = I 0,
      fun v _ => v = .bool true,
      fun v _ => v = .bool true,
      fun v _ => v = I 0,
      fun v _ => v = .bool true,
      fun v _ => v = .bool true,
      fun v _ => v = .bool true,
      fun v _ => v = .bool true,
      fun v _ => v = .bool true,
      fun v _ => v = .bool true,
      fun v _ => v = .pointer (some ⟨g4, 1, none⟩),
      fun v _ => v = .pointer (some ⟨g4, 2, none⟩),
      fun v _ => v = .slice D2 1 nd2,
      fun v _ => v = I 1,
      fun v _ => v = .bool true,
      fun v _ => v = .bool true,
      fun v _ => v = .bool true,
      fun v _ => v = .agg #[.slice J1 2 nj1, .slice J2 1 nj2, .slice J3 0 nj3],
      fun v _ => v = .pointer (some ⟨g3, 0, none⟩),
      fun v _ => v = .slice J1 2 nj1,
      fun v _ => ∃ A0 n0 A1 n1 A2 n2 A3 n3, v = dltV (.slice A0 2 n0) (.slice A1 2 n1) (.slice A2 0 n2) (.slice A3 0 n3),
      fun v _ => ∃ A1 n1 A2 n2 A3 n3, v = stV (.slice A1 2 n1) (.slice A2 0 n2) (.slice A3 0 n3),
      fun v _ => ∃ A2 n2, v = .slice A2 0 n2,
      fun v _ => v = I 0,
      fun v _ => v = .bool true,
      fun v _ => v = .bool true,
      fun v _ => v = .bool true,
      fun v _ => v = .agg #[.slice K1 2 nk1, .slice K2 1 nk2, .slice K3 0 nk3],
      fun v _ => v = .agg #[.slice J1 2 nj1, .slice J2 1 nj2, .slice J3 0 nj3],
      fun v _ => v = .bool true,
      fun v _ => v = .bool true,
      fun v _ => v = .bool true,
      fun v _ => v = I 0,
      fun v _ => v = .bool true,
      fun v _ => v = .bool true,
      fun v _ => v = .bool true,
      fun v _ => v = I 160,
      fun v _ => v = .bool true,
      fun v _ => v = .bool true,
      fun v _ => v = .bool true,
      fun v _ => v = .pointer (some ⟨g7, 0, none⟩),
      fun v _ => v = .slice R1 1 nr1,
      fun v _ => v = U 4,
      fun v _ => v = .bool true,
      fun v _ => v = .bool true,
      fun v _ => v = .bool true,
      fun v _ => v = I 0,
      fun v _ => v = .bool true,
      fun v _ => v = .bool true,
      fun v _ => v = .bool true,
      fun v _ => v = I 2,
      fun v _ => v = .bool true,
      fun v _ => v = .bool true,
      fun v _ => v = .bool true,
      fun v _ => v = .pointer (some ⟨g9, 0, none⟩),
      fun v _ => v = St [35, 110],
      fun v _ => v = .bool true,
      fun v _ => v = .bool true,
      fun v _ => v = .bool true,
      fun v _ => v = .bool true,
      fun v _ => v = .bool true,
      fun v _ => v = .bool true,
      fun v _ => v = .agg #[.slice J1 2 nj1, .slice J2 1 nj2, .slice J3 0 nj3],
      fun v _ => v = .bool true,
      fun v _ => v = .bool true,
      fun v _ => v = .bool true,
      fun v _ => v = .agg #[.slice J1 2 nj1, .slice J2 1 nj2, .slice J3 0 nj3],
      fun v W => ∃ A1 n1 A2 n2 A3 n3, v = stV (.slice A1 2 n1) (.slice A2 1 n2) (.slice A3 0 n3) ∧ StAt W (fun _ => True) stJ (.slice A1 2 n1) (.slice A2 1 n2) (.slice A3 0 n3),
      fun v _ => v = .agg #[.slice J1 2 nj1, .slice J2 1 nj2, .slice J3 0 nj3],
      fun v _ => v = .bool true,
      fun v _ => v = .bool true] rfl (by kernel_rfl) ?hR ?hstep ?hend
  case hR =>
    simp only [List.mem_cons, List.not_mem_nil, or_false, forall_eq_or_imp, forall_eq]
    exact ⟨fun v _ _ h _ => h, fun v _ _ h _ => h, fun v _ _ h _ => h, fun v _ _ h _ => h, fun v _ _ h _ => h, fun v _ _ h _ => h, fun v _ _ h _ => h, fun v _ _ h _ => h, fun v _ _ h _ => h, fun v _ _ h _ => h, fun v _ _ h _ => h, fun v _ _ h _ => h, fun v _ _ h _ => h, fun v _ _ h _ => h, fun v _ _ h _ => h, fun v _ _ h _ => h, fun v _ _ h _ => h, fun v _ _ h _ => h, fun v _ _ h _ => h, fun v _ _ h _ => h, fun v _ _ h _ => h, fun v _ _ h _ => h, fun v _ _ h _ => h, fun v _ _ h _ => h, fun v _ _ h _ => h, fun v _ _ h _ => h, fun v _ _ h _ => h, fun v _ _ h _ => h, fun v _ _ h _ => h, fun v _ _ h _ => h, fun v _ _ h _ => h, fun v _ _ h _ => h, fun v _ _ h _ => h, fun v _ _ h _ => h, fun v _ _ h _ => h, fun v _ _ h _ => h, fun v _ _ h _ => h, fun v _ _ h _ => h, fun v _ _ h _ => h, fun v _ _ h _ => h, fun v _ _ h _ => h, fun v _ _ h _ => h, fun v _ _ h _ => h, fun v _ _ h _ => h, fun v _ _ h _ => h, fun v _ _ h _ => h, fun v _ _ h _ => h, fun v _ _ h _ => h, fun v _ _ h _ => h, fun v _ _ h _ => h, fun v _ _ h _ => h, fun v _ _ h _ => h, fun v _ _ h _ => h, fun v _ _ h _ => h, fun v _ _ h _ => h, fun v _ _ h _ => h, fun v _ _ h _ => h, fun v _ _ h _ => h, fun v _ _ h _ => h, fun v _ _ h _ => h, fun v _ _ h _ => h, fun v _ _ h _ => h, fun v _ _ h _ => h, fun v _ _ h _ => h, fun v _ _ h _ => h, fun v _ _ h _ => h, fun v _ _ h _ => h, fun v _ _ h he => by obtain ⟨A1, n1, A2, n2, A3, n3, e, a⟩ := h; exact ⟨A1, n1, A2, n2, A3, n3, e, a.ext he⟩, fun v _ _ h _ => h, fun v _ _ h _ => h, fun v _ _ h _ => h⟩
  case hstep =>
    simp only [List.append_eq, List.cons_append, List.nil_append, List.length_cons, List.length_nil, Nat.reduceAdd, List.take_succ_cons, List.take_zero, stepsAll, and_true]
    refine ⟨?_, ?_, ?_, ?_, ?_, ?_, ?_, ?_, ?_, ?_, ?_, ?_, ?_, ?_, ?_, ?_, ?_, ?_, ?_, ?_, ?_, ?_, ?_, ?_, ?_, ?_, ?_, ?_, ?_, ?_, ?_, ?_, ?_, ?_, ?_, ?_, ?_, ?_, ?_, ?_, ?_, ?_, ?_, ?_, ?_, ?_, ?_, ?_, ?_, ?_, ?_, ?_, ?_, ?_, ?_, ?_, ?_, ?_, ?_, ?_, ?_, ?_, ?_, ?_, ?_, ?_, ?_, ?_, ?_, ?_, ?_⟩
    · intro x W he f
      have h0 : x 2 = I 0 := f.1
      go_wp
      exact stepQ_ok rfl (Ext.refl _)
    · intro x W he f
      have h0 : x 69 = I 0 := f.1
      go_wp
      exact stepQ_ok rfl (Ext.refl _)
    · intro x W he f
      have h0 : x 70 = .bool true := f.1
      go_wp
      exact stepQ_ok rfl (Ext.refl _)
    · intro x W he f
      have h0 : x 4 = I 0 := f.1
      have hg : x 71 = .bool true := f.2.1
      go_wp
      exact stepQ_ok rfl (Ext.refl _)
    · intro x W he f
      have h0 : x 72 = I 0 := f.1
      have hg : x 71 = .bool true := f.2.1
      go_wp
      exact stepQ_ok rfl (Ext.refl _)
    · intro x W he f
      have h0 : x 71 = .bool true := f.1
      have h1 : x 73 = .bool true := f.2.1
      go_wp
      exact stepQ_ok rfl (Ext.refl _)
    · intro x W he f
      have h0 : x 74 = .bool true := f.1
      go_wp
      exact stepQ_ok rfl (Ext.refl _)
    · intro x W he f
      have h0 : x 17 = .bool true := f.1
      have hg : x 75 = .bool true := f.2.1
      go_wp
      exact stepQ_ok rfl (Ext.refl _)
    · intro x W he f
      have h0 : x 75 = .bool true := f.1
      have h1 : x 76 = .bool true := f.2.1
      go_wp
      exact stepQ_ok rfl (Ext.refl _)
    · intro x W he f
      have h0 : x 77 = .bool true := f.1
      go_wp
      exact stepQ_ok rfl (Ext.refl _)
    · intro x W he f
      have h0 : x 6 = .pointer (some ⟨g4, 0, none⟩) := f.1
      have hg : x 78 = .bool true := f.2.1
      go_wp
      exact stepQ_ok rfl (Ext.refl _)
    · intro x W he f
      have h0 : x 79 = .pointer (some ⟨g4, 1, none⟩) := f.1
      have hg : x 78 = .bool true := f.2.1
      go_wp
      exact stepQ_ok rfl (Ext.refl _)
    · intro x W he f
      have h0 : x 80 = .pointer (some ⟨g4, 2, none⟩) := f.1
      have hg : x 78 = .bool true := f.2.1
      have c2 := (rr4.ext he).cell (j := 2) rfl
      go_wp
      exact stepQ_ok rfl (Ext.refl _)
    · intro x W he f
      have h0 : x 81 = .slice D2 1 nd2 := f.1
      have hg : x 78 = .bool true := f.2.1
      go_wp
      exact stepQ_ok rfl (Ext.refl _)
    · intro x W he f
      have h0 : x 82 = I 1 := f.1
      have hg : x 78 = .bool true := f.2.1
      go_wp
      exact stepQ_ok rfl (Ext.refl _)
    · intro x W he f
      have h0 : x 78 = .bool true := f.1
      have h1 : x 83 = .bool true := f.2.1
      go_wp
      exact stepQ_ok rfl (Ext.refl _)
    · intro x W he f
      have h0 : x 84 = .bool true := f.1
      go_wp
      exact stepQ_ok rfl (Ext.refl _)
    · intro x W he f
      have h0 : x 5 = .pointer (some ⟨g3, 0, none⟩) := f.1
      have hg : x 85 = .bool true := f.2.1
      have c0 := (rr3.ext he).cell (j := 0) rfl
      have c1 := (rr3.ext he).cell (j := 1) rfl
      have c2 := (rr3.ext he).cell (j := 2) rfl
      go_wp
      exact stepQ_ok rfl (Ext.refl _)
    · intro x W he f
      have h0 : x 5 = .pointer (some ⟨g3, 0, none⟩) := f.1
      have hg : x 85 = .bool true := f.2.1
      go_wp
      exact stepQ_ok rfl (Ext.refl _)
    · intro x W he f
      have h0 : x 87 = .pointer (some ⟨g3, 0, none⟩) := f.1
      have hg : x 85 = .bool true := f.2.1
      have c0 := (rr3.ext he).cell (j := 0) rfl
      go_wp
      exact stepQ_ok rfl (Ext.refl _)
    · intro x W he f
      have h0 : x 86 = .agg #[.slice J1 2 nj1, .slice J2 1 nj2, .slice J3 0 nj3] := f.1
      have h1 : x 88 = .slice J1 2 nj1 := f.2.1
      have hg : x 85 = .bool true := f.2.2.1
      have HC := Lib.hid (sinceS_any (sJ.ext he) (sJ.ext he).all small_stJ (by decide))
      go_wp
      refine HC.out.mono ?_
      rintro r W2 ⟨u0, u1, u2, u3, rfl, hb, hn, hx2⟩
      rw [alive_E] at hn
      rw [show joinM stJ.all [] = stJ.all by kernel_rfl] at hb
      obtain ⟨E0, ne0, rfl, -, -⟩ : ∃ A c, u0 = Value.slice A 2 c ∧ 2 ≤ c ∧ c ≤ 9223372036854775807 := hb.form
      obtain ⟨E1, ne1, rfl, -, -⟩ : ∃ A c, u1 = Value.slice A 2 c ∧ 2 ≤ c ∧ c ≤ 9223372036854775807 := hn.all.form
      obtain ⟨E2, ne2, rfl, -, -⟩ : ∃ A c, u2 = Value.slice A 0 c ∧ 0 ≤ c ∧ c ≤ 9223372036854775807 := hn.entries.form
      obtain ⟨E3, ne3, rfl, -, -⟩ : ∃ A c, u3 = Value.slice A 0 c ∧ 0 ≤ c ∧ c ≤ 9223372036854775807 := hn.pruned.form
      dsimp only
      go_wp
      exact stepQ_ok ⟨E0, ne0, E1, ne1, E2, ne2, E3, ne3, rfl⟩ hx2
    · intro x W he f
      obtain ⟨A0, n0, A1, n1, A2, n2, A3, n3, h0⟩ : ∃ A0 n0 A1 n1 A2 n2 A3 n3, x 89 = dltV (.slice A0 2 n0) (.slice A1 2 n1) (.slice A2 0 n2) (.slice A3 0 n3) := f.1
      have hg : x 85 = .bool true := f.2.1
      have hfl := field_delta (.slice A0 2 n0) (.slice A1 2 n1) (.slice A2 0 n2) (.slice A3 0 n3) W
      go_wp
      exact stepQ_ok (v := .agg #[.slice A1 2 n1, .slice A2 0 n2, .slice A3 0 n3]) ⟨A1, n1, A2, n2, A3, n3, rfl⟩ (Ext.refl _)
    · intro x W he f
      obtain ⟨A1, n1, A2, n2, A3, n3, h0⟩ : ∃ A1 n1 A2 n2 A3 n3, x 90 = stV (.slice A1 2 n1) (.slice A2 0 n2) (.slice A3 0 n3) := f.1
      have hg : x 85 = .bool true := f.2.1
      have hfl := field_state1 (.slice A1 2 n1) (.slice A2 0 n2) (.slice A3 0 n3) W
      go_wp
      exact stepQ_ok (v := .slice A2 0 n2) ⟨A2, n2, rfl⟩ (Ext.refl _)
    · intro x W he f
      obtain ⟨A2, n2, h0⟩ : ∃ A2 n2, x 91 = .slice A2 0 n2 := f.1
      have hg : x 85 = .bool true := f.2.1
      go_wp
      exact stepQ_ok rfl (Ext.refl _)
    · intro x W he f
      have h0 : x 92 = I 0 := f.1
      have hg : x 85 = .bool true := f.2.1
      go_wp
      exact stepQ_ok rfl (Ext.refl _)
    · intro x W he f
      have h0 : x 85 = .bool true := f.1
      have h1 : x 93 = .bool true := f.2.1
      go_wp
      exact stepQ_ok rfl (Ext.refl _)
    · intro x W he f
      have h0 : x 94 = .bool true := f.1
      go_wp
      exact stepQ_ok rfl (Ext.refl _)
    · intro x W he f
      have h0 : x 7 = .pointer (some ⟨g5, 0, none⟩) := f.1
      have hg : x 95 = .bool true := f.2.1
      have c0 := (rr5.ext he).cell (j := 0) rfl
      have c1 := (rr5.ext he).cell (j := 1) rfl
      have c2 := (rr5.ext he).cell (j := 2) rfl
      go_wp
      exact stepQ_ok rfl (Ext.refl _)
    · intro x W he f
      have h0 : x 5 = .pointer (some ⟨g3, 0, none⟩) := f.1
      have hg : x 95 = .bool true := f.2.1
      have c0 := (rr3.ext he).cell (j := 0) rfl
      have c1 := (rr3.ext he).cell (j := 1) rfl
      have c2 := (rr3.ext he).cell (j := 2) rfl
      go_wp
      exact stepQ_ok rfl (Ext.refl _)
    · intro x W he f
      have h0 : x 96 = .agg #[.slice K1 2 nk1, .slice K2 1 nk2, .slice K3 0 nk3] := f.1
      have h1 : x 97 = .agg #[.slice J1 2 nj1, .slice J2 1 nj2, .slice J3 0 nj3] := f.2.1
      have hg : x 95 = .bool true := f.2.2.1
      have HC := Lib.hid (sameS_any (sK.ext he) (sJ.ext he))
      rw [show sameSt stJ stJ = true from sameSt_iff.2 rfl] at HC
      go_wp
      refine HC.out.mono ?_
      rintro r W2 ⟨rfl, hx2⟩
      dsimp only
      go_wp
      exact stepQ_ok rfl hx2
    · intro x W he f
      have h0 : x 95 = .bool true := f.1
      have h1 : x 98 = .bool true := f.2.1
      go_wp
      exact stepQ_ok rfl (Ext.refl _)
    · intro x W he f
      have h0 : x 99 = .bool true := f.1
      go_wp
      exact stepQ_ok rfl (Ext.refl _)
    · intro x W he f
      have h0 : x 8 = I 0 := f.1
      have hg : x 100 = .bool true := f.2.1
      go_wp
      exact stepQ_ok rfl (Ext.refl _)
    · intro x W he f
      have h0 : x 101 = I 0 := f.1
      have hg : x 100 = .bool true := f.2.1
      go_wp
      exact stepQ_ok rfl (Ext.refl _)
    · intro x W he f
      have h0 : x 100 = .bool true := f.1
      have h1 : x 102 = .bool true := f.2.1
      go_wp
      exact stepQ_ok rfl (Ext.refl _)
    · intro x W he f
      have h0 : x 103 = .bool true := f.1
      go_wp
      exact stepQ_ok rfl (Ext.refl _)
    · intro x W he f
      have h0 : x 10 = I 160 := f.1
      have hg : x 104 = .bool true := f.2.1
      go_wp
      exact stepQ_ok rfl (Ext.refl _)
    · intro x W he f
      have h0 : x 105 = I 160 := f.1
      have hg : x 104 = .bool true := f.2.1
      go_wp
      exact stepQ_ok rfl (Ext.refl _)
    · intro x W he f
      have h0 : x 104 = .bool true := f.1
      have h1 : x 106 = .bool true := f.2.1
      go_wp
      exact stepQ_ok rfl (Ext.refl _)
    · intro x W he f
      have h0 : x 107 = .bool true := f.1
      go_wp
      exact stepQ_ok rfl (Ext.refl _)
    · intro x W he f
      have h0 : x 11 = .pointer (some ⟨g7, 0, none⟩) := f.1
      have hg : x 108 = .bool true := f.2.1
      go_wp
      exact stepQ_ok rfl (Ext.refl _)
    · intro x W he f
      have h0 : x 109 = .pointer (some ⟨g7, 0, none⟩) := f.1
      have hg : x 108 = .bool true := f.2.1
      have c0 := (rr7.ext he).cell (j := 0) rfl
      go_wp
      exact stepQ_ok rfl (Ext.refl _)
    · intro x W he f
      have h0 : x 110 = .slice R1 1 nr1 := f.1
      have hg : x 108 = .bool true := f.2.1
      have HC := Lib.hid (refOf_any [49] (sR.ext he).all)
      rw [alive_O] at HC
      go_wp
      refine HC.out.mono ?_
      rintro r W2 ⟨rfl, rfl⟩
      dsimp only
      go_wp
      exact stepQ_ok rfl (Ext.refl _)
    · intro x W he f
      have h0 : x 111 = U 4 := f.1
      have hg : x 108 = .bool true := f.2.1
      go_wp
      exact stepQ_ok rfl (Ext.refl _)
    · intro x W he f
      have h0 : x 108 = .bool true := f.1
      have h1 : x 112 = .bool true := f.2.1
      go_wp
      exact stepQ_ok rfl (Ext.refl _)
    · intro x W he f
      have h0 : x 113 = .bool true := f.1
      go_wp
      exact stepQ_ok rfl (Ext.refl _)
    · intro x W he f
      have h0 : x 12 = I 0 := f.1
      have hg : x 114 = .bool true := f.2.1
      go_wp
      exact stepQ_ok rfl (Ext.refl _)
    · intro x W he f
      have h0 : x 115 = I 0 := f.1
      have hg : x 114 = .bool true := f.2.1
      go_wp
      exact stepQ_ok rfl (Ext.refl _)
    · intro x W he f
      have h0 : x 114 = .bool true := f.1
      have h1 : x 116 = .bool true := f.2.1
      go_wp
      exact stepQ_ok rfl (Ext.refl _)
    · intro x W he f
      have h0 : x 117 = .bool true := f.1
      go_wp
      exact stepQ_ok rfl (Ext.refl _)
    · intro x W he f
      have h0 : x 14 = I 2 := f.1
      have hg : x 118 = .bool true := f.2.1
      go_wp
      exact stepQ_ok rfl (Ext.refl _)
    · intro x W he f
      have h0 : x 119 = I 2 := f.1
      have hg : x 118 = .bool true := f.2.1
      go_wp
      exact stepQ_ok rfl (Ext.refl _)
    · intro x W he f
      have h0 : x 118 = .bool true := f.1
      have h1 : x 120 = .bool true := f.2.1
      go_wp
      exact stepQ_ok rfl (Ext.refl _)
    · intro x W he f
      have h0 : x 121 = .bool true := f.1
      go_wp
      exact stepQ_ok rfl (Ext.refl _)
    · intro x W he f
      have h0 : x 15 = .pointer (some ⟨g9, 0, none⟩) := f.1
      have hg : x 122 = .bool true := f.2.1
      go_wp
      exact stepQ_ok rfl (Ext.refl _)
    · intro x W he f
      have h0 : x 123 = .pointer (some ⟨g9, 0, none⟩) := f.1
      have hg : x 122 = .bool true := f.2.1
      have c0 := (rr9.ext he).cell (j := 0) rfl
      go_wp
      exact stepQ_ok rfl (Ext.refl _)
    · intro x W he f
      have h0 : x 124 = St [35, 110] := f.1
      have hg : x 122 = .bool true := f.2.1
      go_wp
      exact stepQ_ok rfl (Ext.refl _)
    · intro x W he f
      have h0 : x 122 = .bool true := f.1
      have h1 : x 125 = .bool true := f.2.1
      go_wp
      exact stepQ_ok rfl (Ext.refl _)
    · intro x W he f
      have h0 : x 126 = .bool true := f.1
      go_wp
      exact stepQ_ok rfl (Ext.refl _)
    · intro x W he f
      have h0 : x 16 = .bool true := f.1
      have hg : x 127 = .bool true := f.2.1
      go_wp
      exact stepQ_ok rfl (Ext.refl _)
    · intro x W he f
      have h0 : x 127 = .bool true := f.1
      have h1 : x 128 = .bool true := f.2.1
      go_wp
      exact stepQ_ok rfl (Ext.refl _)
    · intro x W he f
      have h0 : x 129 = .bool true := f.1
      go_wp
      exact stepQ_ok rfl (Ext.refl _)
    · intro x W he f
      have h0 : x 5 = .pointer (some ⟨g3, 0, none⟩) := f.1
      have hg : x 130 = .bool true := f.2.1
      have c0 := (rr3.ext he).cell (j := 0) rfl
      have c1 := (rr3.ext he).cell (j := 1) rfl
      have c2 := (rr3.ext he).cell (j := 2) rfl
      go_wp
      exact stepQ_ok rfl (Ext.refl _)
    · intro x W he f
      have h0 : x 131 = .agg #[.slice J1 2 nj1, .slice J2 1 nj2, .slice J3 0 nj3] := f.1
      have hg : x 130 = .bool true := f.2.1
      have HC := Lib.hid (mayS_any (sJ.ext he) small_stJ)
      rw [alive_may] at HC
      go_wp
      refine HC.out.mono ?_
      rintro r W2 ⟨rfl, hx2⟩
      dsimp only
      go_wp
      exact stepQ_ok rfl hx2
    · intro x W he f
      have h0 : x 130 = .bool true := f.1
      have h1 : x 132 = .bool true := f.2.1
      go_wp
      exact stepQ_ok rfl (Ext.refl _)
    · intro x W he f
      have h0 : x 133 = .bool true := f.1
      go_wp
      exact stepQ_ok rfl (Ext.refl _)
    · intro x W he f
      have h0 : x 5 = .pointer (some ⟨g3, 0, none⟩) := f.1
      have hg : x 134 = .bool true := f.2.1
      have c0 := (rr3.ext he).cell (j := 0) rfl
      have c1 := (rr3.ext he).cell (j := 1) rfl
      have c2 := (rr3.ext he).cell (j := 2) rfl
      go_wp
      exact stepQ_ok rfl (Ext.refl _)
    · intro x W he f
      have h0 : x 135 = .agg #[.slice J1 2 nj1, .slice J2 1 nj2, .slice J3 0 nj3] := f.1
      have hg : x 134 = .bool true := f.2.1
      have HC := Lib.hid (copyS_any (sJ.ext he) small_stJ)
      go_wp
      refine HC.out.mono ?_
      rintro r W2 ⟨u1, u2, u3, rfl, hn, hx2⟩
      have hn := hn.at.mono (S' := fun _ => True) (fun _ _ _ => trivial)
      obtain ⟨E1, ne1, rfl, -, -⟩ : ∃ A c, u1 = Value.slice A 2 c ∧ 2 ≤ c ∧ c ≤ 9223372036854775807 := hn.all.form
      obtain ⟨E2, ne2, rfl, -, -⟩ : ∃ A c, u2 = Value.slice A 1 c ∧ 1 ≤ c ∧ c ≤ 9223372036854775807 := hn.entries.form
      obtain ⟨E3, ne3, rfl, -, -⟩ : ∃ A c, u3 = Value.slice A 0 c ∧ 0 ≤ c ∧ c ≤ 9223372036854775807 := hn.pruned.form
      have HN := Lib.hid hn
      clear hn
      dsimp only
      go_wp
      exact stepQ_ok ⟨E1, ne1, E2, ne2, E3, ne3, rfl, HN.out⟩ hx2
    · intro x W he f
      have h0 : x 5 = .pointer (some ⟨g3, 0, none⟩) := f.1
      have hg : x 134 = .bool true := f.2.1
      have c0 := (rr3.ext he).cell (j := 0) rfl
      have c1 := (rr3.ext he).cell (j := 1) rfl
      have c2 := (rr3.ext he).cell (j := 2) rfl
      go_wp
      exact stepQ_ok rfl (Ext.refl _)
    · intro x W he f
      obtain ⟨A1, n1, A2, n2, A3, n3, h0, hs⟩ : ∃ A1 n1 A2 n2 A3 n3, x 136 = stV (.slice A1 2 n1) (.slice A2 1 n2) (.slice A3 0 n3) ∧ StAt W (fun _ => True) stJ (.slice A1 2 n1) (.slice A2 1 n2) (.slice A3 0 n3) := f.1
      have h1 : x 137 = .agg #[.slice J1 2 nj1, .slice J2 1 nj2, .slice J3 0 nj3] := f.2.1
      have hg : x 134 = .bool true := f.2.2.1
      have HC := Lib.hid (sameS_any hs (sJ.ext he))
      rw [show sameSt stJ stJ = true from sameSt_iff.2 rfl] at HC
      clear hs
      go_wp
      refine HC.out.mono ?_
      rintro r W2 ⟨rfl, hx2⟩
      dsimp only
      go_wp
      exact stepQ_ok rfl hx2
    · intro x W he f
      have h0 : x 134 = .bool true := f.1
      have h1 : x 138 = .bool true := f.2.1
      go_wp
      exact stepQ_ok rfl (Ext.refl _)
  case hend =>
    intro x W he f
    have h139 : x 139 = .bool true := f.2.2.2.2.2.2.2.2.2.2.2.2.2.2.2.2.2.2.2.2.2.2.2.2.2.2.2.2.2.2.2.2.2.2.2.2.2.2.2.2.2.2.2.2.2.2.2.2.2.2.2.2.2.2.2.2.2.2.2.2.2.2.2.2.2.2.2.2.2.2.1
    clear f
    have HX := Lib.hid (hxw.trans he)
    clear he sA rr1 sB rr2 sJ rr3 sD sD0 rr4 sK rr5 rr6 sR rr7 rr8 rr9
    simp only [List.length_cons, List.length_nil, Nat.reduceAdd, List.take_succ_cons, List.take_zero, List.filterMap_cons, List.filterMap_nil, List.drop_succ_cons, List.drop_zero, putAll, Act.put, List.setIfInBounds_toArray, List.set_cons_succ, List.set_cons_zero, List.append_eq, List.cons_append, List.nil_append, h139]
    go_wp
    go_wp2_with fail
    go_ret
    exact ⟨rfl, HX.out⟩
end Go.Proofs.YtdikcgmdmcfpfaaGreat
namespace Go.Proofs.YtdikcgmdmcfpfaaGreat

def fullK (i : Nat) : Str := [35, UInt8.ofNat (97 + i / 100), UInt8.ofNat (48 + i / 10 % 10), UInt8.ofNat (48 + i % 10)]
def fullE (i : Nat) : Entry := ⟨fullK i, [([49], 1)], [], [], 0, [], false⟩
def fullL (n : Nat) : List Entry := (List.range n).map fullE
def fullS (n : Nat) : State := ⟨[([49], 1)], fullL n, []⟩
theorem fullL_succ (n : Nat) : fullL (n + 1) = fullL n ++ [fullE n] := by simp [fullL, List.range_succ]
theorem fullL_len (n : Nat) : (fullL n).length = n := by simp [fullL]
abbrev opZ : OpD := (1, [35, 122], 0, [])
abbrev opF : OpD := (1, [35, 97, 48, 48], 1, [])

def fullOk (n : Nat) : Bool := decide ((updS (fullS n) [49] opZ).2 = if n < 256 then 0 else 6) && decide ((updS (fullS n) [49] opF).2 = 0) && decide ((updS (fullS n) [49] opF).1.entries.length = n)
theorem full_254 : fullOk 254 = true := by kernel_rfl
theorem full_255 : fullOk 255 = true := by kernel_rfl
theorem full_256 : fullOk 256 = true := by kernel_rfl
theorem full_257 : fullOk 257 = true := by kernel_rfl
theorem full_all {n : Nat} (h1 : 254 ≤ n) (h2 : n ≤ 257) : (updS (fullS n) [49] opZ).2 = (if n < 256 then 0 else 6) ∧ (updS (fullS n) [49] opF).2 = 0 ∧ (updS (fullS n) [49] opF).1.entries.length = n := by
  have h : fullOk n = true := by
    rcases (show n = 254 ∨ n = 255 ∨ n = 256 ∨ n = 257 by omega) with rfl | rfl | rfl | rfl
    · exact full_254
    · exact full_255
    · exact full_256
    · exact full_257
  simp only [fullOk, Bool.and_eq_true, decide_eq_true_eq] at h
  exact ⟨h.1.1, h.1.2, h.2⟩
theorem small_fullE (i : Nat) : SmallE (fullE i) := ⟨by simp [fullE], by simp [fullE], by simp [fullE], (fun it h => by cases h), by simp [fullE, placesL]⟩
theorem small_fullS {n : Nat} (h : n ≤ 257) : SmallS (fullS n) := ⟨by simp [fullS], by simp [fullS, fullL_len]; omega, by simp [fullS], fun e he => by
  simp only [fullS, fullL, List.mem_map] at he
  obtain ⟨i, -, rfl⟩ := he
  exact small_fullE i⟩
end Go.Proofs.YtdikcgmdmcfpfaaGreat
namespace Go.Proofs.YtdikcgmdmcfpfaaGreat
open Go.RowKit Go.Shelf

theorem own_mark1 {w : World} {g base : Nat} {m : Mark} (h : RowIs w g 25 [St m.1, U m.2] []) (hb : base ≤ g) : Own w base 25 2 (.slice (some ⟨g, 0, none⟩) 1 1) 1 ([m].flatMap markC) :=
  RowIs.own h hb (by omega) (by omega) rfl rfl rfl

def fullT (i : Nat) : Str := [UInt8.ofNat (97 + i / 100), UInt8.ofNat (48 + i / 10 % 10), UInt8.ofNat (48 + i % 10)]
theorem conv3 (k : Nat) (W : World) : (convert 31 9 (.slice (some ⟨W.heap.size, 0, none⟩) 3 3)).run Tryz.prog (W.alloc (.cells #[.int .u8 (97 + (k : Int) / 100), .int .u8 (48 + (k : Int) / 10 % 10), .int .u8 (48 + (k : Int) % 10)] 5)) = .ok (St (fullT k)) (W.alloc (.cells #[.int .u8 (97 + (k : Int) / 100), .int .u8 (48 + (k : Int) / 10 % 10), .int .u8 (48 + (k : Int) % 10)] 5)) := by
  rw [run_convert_bytes_arg _ 31 5 Tryz.underlying31 Tryz.underlying5 W.heap.size 0 3 3 [97 + (k : Int) / 100, 48 + (k : Int) / 10 % 10, 48 + (k : Int) % 10] rfl (fun i hi => by
    rcases (show i = 0 ∨ i = 1 ∨ i = 2 by omega) with rfl | rfl | rfl <;> simp [go_sem]) 9 Tryz.underlying9]
  have e1 : (97 + (k : Int) / 100).toNat = 97 + k / 100 := by omega
  have e2 : (48 + (k : Int) / 10 % 10).toNat = 48 + k / 10 % 10 := by omega
  have e3 : (48 + (k : Int) % 10).toNat = 48 + k % 10 := by omega
  simp only [strOfNums, List.map_cons, List.map_nil, e1, e2, e3]
  rfl

theorem fullK_is (k : Nat) : ((⟨#[35]⟩ : ByteArray) ++ ⟨(fullT k).toArray⟩) = ⟨(fullK k).toArray⟩ := by
  apply ByteArray.ext
  simp [fullT, fullK]

/-- what is made of the state -/
structure FullAt (w : World) (b : Nat) (vE : Value) (k : Nat) : Prop where
  row : RowIs w (b + 1) 30 [.slice (some ⟨b, 0, none⟩) 1 1, vE, .slice none 0 0] []
  all : RowIs w b 25 [St [49], U 1] []
  ents : RowE w b (b + 1) vE (fullL k)
theorem FullAt.ext {w w' : World} {b k : Nat} {vE : Value} (h : FullAt w b vE k) (he : Ext w w') : FullAt w' b vE k := ⟨h.row.ext he, h.all.ext he, h.ents.ext he⟩

set_option maxRecDepth 100000 in
set_option maxHeartbeats 2000000 in
theorem full_walk (a : Int) (h1 : -128 ≤ a) (h2 : a < 128) (w : World) : Calls Tryz.prog 3 #[.int .i8 a] w fun r w' => r = .returned (.bool true) ∧ Ext w w' := by
  have hx0 : Ext w ((w.alloc (.cells #[St [49], U 1] 25)).alloc (.cells #[.slice (some ⟨w.heap.size, 0, none⟩) 1 1, .slice none 0 0, .slice none 0 0] 30)) := ((Ext.refl w).alloc _).alloc _
  have hF0 : FullAt ((w.alloc (.cells #[St [49], U 1] 25)).alloc (.cells #[.slice (some ⟨w.heap.size, 0, none⟩) 1 1, .slice none 0 0, .slice none 0 0] 30)) w.heap.size (.slice none 0 0) 0 := ⟨by have h := rowNew (w.alloc (.cells #[St [49], U 1] 25)) 30 [.slice (some ⟨w.heap.size, 0, none⟩) 1 1, .slice none 0 0, .slice none 0 0]; simp only [World.size_alloc] at h; exact h,
    (rowNew w 25 [St [49], U 1]).alloc _, RowE.nil _ _ _ _⟩
  have HF0 := Lib.hid hF0
  have HX0 := Lib.hid hx0
  clear hF0 hx0
  go_enter Tryz.func3, Tryz.ntmps3
  go_wp2_with fail
  generalize ((w.alloc (.cells #[St [49], U 1] 25)).alloc (.cells #[.slice (some ⟨w.heap.size, 0, none⟩) 1 1, .slice none 0 0, .slice none 0 0] 30)) = W0 at *
  obtain ⟨n, hn1, hn2, hn⟩ : ∃ n : Nat, 254 ≤ n ∧ n ≤ 257 ∧ 254 + a % 4 = (n : Int) := ⟨(254 + a % 4).toNat, by omega, by omega, by omega⟩
  rw [hn]
  clear hn
  generalize a % 256 % 4 = y1
  generalize a % 256 = y2
  generalize a % 4 = y3
  clear h1 h2
  go_loopw [5] (fun i wr => ∃ k vE, k ≤ n ∧ i = I k ∧ FullAt wr w.heap.size vE k ∧ Ext w wr) (fun i _ => n - (intOf i).toNat)
  case atStart => exact ⟨0, _, by omega, rfl, HF0.out, HX0.out⟩
  case round =>
    obtain ⟨k, vE, hk, rfl, hF, hx⟩ := hrel
    by_cases hlt : k < n
    · obtain ⟨AE, cE, rfl, -, -⟩ := hF.ents.form
      rw [fullL_len] at *
      have hxa : Ext wr (wr.alloc (.cells #[.int .u8 (97 + (k : Int) / 100), .int .u8 (48 + (k : Int) / 10 % 10), .int .u8 (48 + (k : Int) % 10)] 5)) := (Ext.refl wr).alloc _
      have hxb : Ext (wr.alloc (.cells #[.int .u8 (97 + (k : Int) / 100), .int .u8 (48 + (k : Int) / 10 % 10), .int .u8 (48 + (k : Int) % 10)] 5)) ((wr.alloc (.cells #[.int .u8 (97 + (k : Int) / 100), .int .u8 (48 + (k : Int) / 10 % 10), .int .u8 (48 + (k : Int) % 10)] 5)).alloc (.cells #[St [49], U 1] 25)) := (Ext.refl _).alloc _
      have hxc : Ext ((wr.alloc (.cells #[.int .u8 (97 + (k : Int) / 100), .int .u8 (48 + (k : Int) / 10 % 10), .int .u8 (48 + (k : Int) % 10)] 5)).alloc (.cells #[St [49], U 1] 25)) (((wr.alloc (.cells #[.int .u8 (97 + (k : Int) / 100), .int .u8 (48 + (k : Int) / 10 % 10), .int .u8 (48 + (k : Int) % 10)] 5)).alloc (.cells #[St [49], U 1] 25)).alloc (.cells (entL (fullE k) (.slice (some ⟨wr.heap.size + 1, 0, none⟩) 1 1) (.slice none 0 0) (.slice none 0 0)).toArray 37)) := (Ext.refl _).alloc _
      have c1 := (hF.row.ext hxa).cell (j := 1) rfl
      have hF3 := ((hF.ext hxa).ext hxb).ext hxc
      have rM : RowIs (((wr.alloc (.cells #[.int .u8 (97 + (k : Int) / 100), .int .u8 (48 + (k : Int) / 10 % 10), .int .u8 (48 + (k : Int) % 10)] 5)).alloc (.cells #[St [49], U 1] 25)).alloc (.cells (entL (fullE k) (.slice (some ⟨wr.heap.size + 1, 0, none⟩) 1 1) (.slice none 0 0) (.slice none 0 0)).toArray 37)) (wr.heap.size + 1) 25 [St [49], U 1] [] := by have h := rowNew (wr.alloc (.cells #[.int .u8 (97 + (k : Int) / 100), .int .u8 (48 + (k : Int) / 10 % 10), .int .u8 (48 + (k : Int) % 10)] 5)) 25 [St [49], U 1]; simp only [World.size_alloc] at h; exact h.alloc _
      have rE : RowIs (((wr.alloc (.cells #[.int .u8 (97 + (k : Int) / 100), .int .u8 (48 + (k : Int) / 10 % 10), .int .u8 (48 + (k : Int) % 10)] 5)).alloc (.cells #[St [49], U 1] 25)).alloc (.cells (entL (fullE k) (.slice (some ⟨wr.heap.size + 1, 0, none⟩) 1 1) (.slice none 0 0) (.slice none 0 0)).toArray 37)) (wr.heap.size + 1 + 1) 37 (entL (fullE k) (.slice (some ⟨wr.heap.size + 1, 0, none⟩) 1 1) (.slice none 0 0) (.slice none 0 0)) [] := by have h := rowNew ((wr.alloc (.cells #[.int .u8 (97 + (k : Int) / 100), .int .u8 (48 + (k : Int) / 10 % 10), .int .u8 (48 + (k : Int) % 10)] 5)).alloc (.cells #[St [49], U 1] 25)) 37 (entL (fullE k) (.slice (some ⟨wr.heap.size + 1, 0, none⟩) 1 1) (.slice none 0 0) (.slice none 0 0)); simp only [World.size_alloc] at h; exact h
      have hsz3 : (((wr.alloc (.cells #[.int .u8 (97 + (k : Int) / 100), .int .u8 (48 + (k : Int) / 10 % 10), .int .u8 (48 + (k : Int) % 10)] 5)).alloc (.cells #[St [49], U 1] 25)).alloc (.cells (entL (fullE k) (.slice (some ⟨wr.heap.size + 1, 0, none⟩) 1 1) (.slice none 0 0) (.slice none 0 0)).toArray 37)).heap.size = wr.heap.size + 3 := by simp
      have hx3 := ((hx.trans hxa).trans hxb).trans hxc
      have hwb := hx.size
      have hEN : EntNew (((wr.alloc (.cells #[.int .u8 (97 + (k : Int) / 100), .int .u8 (48 + (k : Int) / 10 % 10), .int .u8 (48 + (k : Int) % 10)] 5)).alloc (.cells #[St [49], U 1] 25)).alloc (.cells (entL (fullE k) (.slice (some ⟨wr.heap.size + 1, 0, none⟩) 1 1) (.slice none 0 0) (.slice none 0 0)).toArray 37)) wr.heap.size (fullE k) (.slice (some ⟨wr.heap.size + 1, 0, none⟩) 1 1) (.slice none 0 0) (.slice none 0 0) := ⟨own_mark1 (m := ([49], 1)) rM (by omega), Own.nil _ _ _ _ _, OwnL.nil _ _⟩
      have hEl : ∀ b, ownBlk (.slice AE k cE) b → b < wr.heap.size := fun b hb => (hF.ents.base_le hb).2
      have hgl := hF.row.lt
      have hrg := hF3.row
      obtain ⟨xE, hoE⟩ := hF3.ents.own
      rw [fullL_len] at hoE
      have HOE := Lib.hid hoE
      have hEg : ¬ ownBlk (.slice AE k cE) (w.heap.size + 1) := hoE.apart hF3.row (by decide)
      have hEa : ¬ ownBlk (.slice AE k cE) w.heap.size := hoE.apart hF3.all (by decide)
      obtain ⟨vss, g1, g2, g3⟩ := hF3.ents
      have hone := entL_one (hEN.rd (S := fun _ => True) (fun _ _ _ => trivial))
      have G1 := Lib.hid g1
      have G2 := Lib.hid g2
      have G3 := Lib.hid g3
      have RE := Lib.hid rE
      have HEN := Lib.hid hEN
      have HEL := Lib.hid hEl
      have HONE := Lib.hid hone
      have HF := Lib.hid hF3
      have HX := Lib.hid hx3
      have HSZ := Lib.hid hsz3
      have hcv := conv3 k wr
      have hky := fullK_is k
      clear hF hx hxa hxb hxc g1 g2 g3 rE rM hEN hEl hone hF3 hx3 hoE hsz3
      go_wp2_with (at_builtin; refine wpList_append_Own rfl (.tmp 41) (.tmp 46) 27 rfl w.heap.size 37 7 120 zeroEnt Tryz.underlying27 info_entry rfl (by omega) (.slice AE k cE) k vss.flatten rfl (by have h := G3.out; rw [fullL_len] at h; exact h) (some ⟨wr.heap.size + 1 + 1, 0, none⟩) 1 1 (entL (fullE k) (.slice (some ⟨wr.heap.size + 1, 0, none⟩) 1 1) (.slice none 0 0) (.slice none 0 0)) rfl ⟨by simp, HONE.out, fun _ => ⟨wr.heap.size + 1 + 1, 0, rfl, fun j u hj => by rw [Nat.zero_add]; exact RE.out.cell hj⟩⟩ (by omega) (by omega) (by simp; omega) ?_; intro v' w' hown hgr; obtain ⟨AF, cF, rfl, -, -⟩ := hown.form; have hmv := Grew.moved (Ext.refl _) hgr; have hgW := hrg.mvR hmv.mv hEg; have hc := hgW.cell (j := 1) rfl; have hf := hgW.frozen 1; clear hgW hmv)
      have hmv := Grew.moved (Ext.refl _) hgr
      have hgW := hrg.mvR hmv.mv hEg
      have haW := HF.out.all.mvR hmv.mv hEa
      have hrow := RowE.snoc (g := w.heap.size + 1) (base := w.heap.size) G1.out G2.out HEN.out HEL.out hgl (by omega) (by rw [fullL_len]; exact hown) hgr
      have hlow : ∀ b, ownBlk (.slice AE k cE) b → w.heap.size ≤ b := fun b hb => by
        have := HOE.out.base_le hb
        omega
      have hxW := HX.out.moved hmv hlow
      have hS := hgW.set (j := 1) (by simp) (.slice AF (k + 1) cF)
      simp only [List.set_cons_succ, List.set_cons_zero] at hS
      go_roundw
      case rel => exact ⟨k + 1, _, by omega, by simp, ⟨hS, haW.other (by simp) _, by rw [fullL_succ]; exact hrow.set hgW (by decide)⟩, hxW.set (p := ⟨w.heap.size + 1, 1, none⟩) (by simp) _⟩
      case measure => simp [intOf]; omega
    · obtain rfl : k = n := by omega
      obtain ⟨AE, cE, rfl, -, -⟩ := hF.ents.form
      rw [fullL_len] at *
      have hst : StAt wr (fun _ => True) (fullS k) (.slice (some ⟨w.heap.size, 0, none⟩) 1 1) (.slice AE k cE) (.slice none 0 0) :=
        ⟨(own_slMark (l := [([49], 1)]) (own_mark1 (m := ([49], 1)) hF.all (Nat.le_refl _))).mono (by decide) (fun _ _ _ => trivial), OwnL.sl hF.ents (by decide) (fun _ _ _ => trivial) (fun _ _ _ => trivial), Sl.nil _ _ (by decide)⟩
      obtain ⟨F1, F2, F3⟩ := full_all hn1 hn2
      have hsm := small_fullS hn2
      have C1 := Lib.hid (updS_any [49] opZ (by decide) (by decide) hst hsm)
      have rr0 := hF.row
      have c0 := rr0.cell (j := 0) rfl
      have c1 := rr0.cell (j := 1) rfl
      have c2 := rr0.cell (j := 2) rfl
      have HST := Lib.hid hst
      have HR0 := Lib.hid rr0
      have HSM := Lib.hid hsm
      have F2' := Lib.hid F2
      have F3' := Lib.hid F3
      have HX := Lib.hid hx
      clear hF hst rr0 hsm F2 F3 hx hk hlt
      by_cases h256 : k < 256
      case' pos =>
        rw [if_pos h256] at F1
        have hi : (k : Int) < 256 := by omega
      case' neg =>
        rw [if_neg h256] at F1
        have hi : ¬ (k : Int) < 256 := by omega
        have hid : decide ((k : Int) < 256) = false := decide_eq_false hi
        have hge : ¬ k < 256 := h256
      all_goals
        have F1' := Lib.hid F1
        clear F1 h256
        go_wp2_with fail
        refine C1.out.mono ?_
        rintro r V ⟨u1, u2, u3, rfl, hS, hxV⟩
        rw [F1'.out]
        generalize (updS (fullS k) [49] opZ).1 = s1 at *
        obtain ⟨U1, v1, rfl, -, -⟩ := hS.all.form
        obtain ⟨U2, v2, rfl, -, -⟩ := hS.entries.form
        obtain ⟨U3, v3, rfl, -, -⟩ := hS.pruned.form
        have hxa := (Ext.refl V).alloc (.cells #[.slice U1 s1.all.length v1, .slice U2 s1.entries.length v2, .slice U3 s1.pruned.length v3] 30)
        have C2 := Lib.hid (updS_any [49] opF (by decide) (by decide) ((HST.out.ext hxV).ext hxa) HSM.out)
        have hr1 := (HR0.out.ext hxV).ext hxa
        have d0 := hr1.cell (j := 0) rfl
        have d1 := hr1.cell (j := 1) rfl
        have d2 := hr1.cell (j := 2) rfl
        have HX1 := Lib.hid ((HX.out.trans hxV).trans hxa)
        clear c0 c1 c2 C1 F1' hxV hxa hr1 hS HR0
        go_wp2_with fail
        refine C2.out.mono ?_
        rintro r Z ⟨u1, u2, u3, rfl, hS, hxZ⟩
        rw [F2'.out]
        have hF3 := F3'.out
        generalize (updS (fullS k) [49] opF).1 = s2 at *
        obtain ⟨X1, y1', rfl, -, -⟩ := hS.all.form
        obtain ⟨X2, y2', rfl, -, -⟩ : ∃ A c, u2 = Value.slice A k c ∧ k ≤ c ∧ c ≤ 9223372036854775807 := by have h := hS.entries.form; rw [hF3] at h; exact h
        obtain ⟨X3, y3', rfl, -, -⟩ := hS.pruned.form
        have HX2 := Lib.hid (HX1.out.trans hxZ)
        clear d0 d1 d2 C2 F2' F3' hF3 hxZ hS HST
        go_wp2_with fail
        refine (alive_any _).mono ?_
        rintro r Y ⟨rfl, hxY⟩
        go_wp2_with fail
        go_ret
        exact ⟨rfl, (HX2.out.alloc _).trans hxY⟩
end Go.Proofs.YtdikcgmdmcfpfaaGreat
namespace Go.Proofs.YtdikcgmdmcfpfaaGreat
open Go.RowKit Go.WideShapes Go.ChangeShapes

theorem law_below {H : Type} {enc : TypeId × Value → H} {P : Program} {f : Func} {s : ChangeSpec} {apart fresh handsOn again : Bool} {W W' : World} {args : Array Value} {v : Value} {ds gs : List (DataW H)} {before : List MemPlace}
    (hW : DataW.Whole enc P f.params.toList s.vars apart W args.toList ds gs before) (hb : Below W.heap.size W W')
    (hr : ∀ (b : Nat) (sp : Nat → Bool) (hd : Bool), DataW.TrodAll enc P W' b sp hd f.resultTypes.toList (v.resultList f.resultTypes.size) (s.fn H (ds ++ gs)).results [])
    (ha : ∀ sp : Nat → Bool, (∀ p ∈ before, sp p.block = true) → DataW.TrodAll enc P W' 0 sp true f.params.toList args.toList (s.fn H (ds ++ gs)).args before)
    (hv : ∀ sp : Nat → Bool, DataW.TrodVars enc P W' sp s.vars (s.fn H (ds ++ gs)).vars [])
    (ho : ∀ (j : Nat) (t : TypeId) (r : Value), f.resultTypes[j]? = some t → (v.resultList f.resultTypes.size)[j]? = some r → Value.okWide P W' .any 0 t r) :
    s.post enc P f apart fresh handsOn again W args v W' := by
  have hlt : ∀ p ∈ before, p.block < W.heap.size := hW.lt
  have hsp : ∀ p ∈ before, decide (p.block < W.heap.size) = true := fun p hp => decide_eq_true (hlt p hp)
  refine ⟨ds, gs, before, [], before, [], hW, hr _ _ _, ha _ hsp, hv _, World.keptBut_mono (fun p hp => ⟨hp, .inr (.inl hp)⟩) (hb.frame (· ∈ before)), fun _ => ⟨ho, _, _, before ++ [], ⟨[] ++ before, [], trodAll_append (ha _ fun _ _ => rfl) (hr _ _ _), hv _, rfl, ?_, ?_⟩, ?_⟩⟩
  · intro b off hp
    have hp' : MemPlace.cell b off ∈ before := by simpa using hp
    obtain ⟨_, _, _, _, _, hz, _⟩ := hW
    rw [hb.frozen (hlt _ hp')]
    exact hz b off hp'
  · intro hap
    obtain ⟨_, _, _, _, _, _, hn⟩ := hW
    simpa using hn hap
  · intro p hp _
    simpa using hp
end Go.Proofs.YtdikcgmdmcfpfaaGreat
