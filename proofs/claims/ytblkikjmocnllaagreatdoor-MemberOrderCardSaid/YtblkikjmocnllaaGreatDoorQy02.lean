/- A drawn region whose first k operations have been done, in which calls make memory from there on, in any order: a fact for each slot, that lasts while memory grows. -/
import Derived.Test.YtblkikjmocnllaaGreatDoorQv18
import Derived.StillTailTactics
import Derived.Test.YtblkikjmocnllaaGreatDoorQv28
set_option linter.unusedVariables false
set_option linter.unusedSimpArgs false
set_option linter.unusedSectionVars false
namespace Go.Proofs.YtblkikjmocnllaaGreatDoor
open Go.RowKit Go.Shelf

theorem rneq_plan (p : Plan) (w : World) : (binOp .neq 45 (planV p) (planV p)).run Tryz.prog w = .ok (.bool false) w := by
  have h := eqIn_plan 9997 p w
  unfold planV at h ⊢
  rw [run_neq_struct, show (10000 : Nat) = 9997 + 1 + 1 + 1 from rfl, h]; rfl
set_option maxRecDepth 100000 in
set_option maxHeartbeats 4000000 in
theorem refSame1_any {S S' : Nat → Prop} (x : Mbr) {A1 A2 B1 B2 : Option Addr} {c1 c2 d1 d2 : Nat} {w : World} (h1 : Sl spanT w S (.slice A1 x.gone.length c1) x.gone) (h2 : Sl wordT w S (.slice A2 x.words.length c2) x.words) (g1 : Sl spanT w S' (.slice B1 x.gone.length d1) x.gone) (g2 : Sl wordT w S' (.slice B2 x.words.length d2) x.words) :
    Calls Tryz.prog 41 #[.agg #[St x.path, U8 x.status, I x.kids, I x.cut, U x.last, .slice A1 x.gone.length c1, St x.plan.keeper, U x.plan.round, St x.plan.live, St x.plan.by_, U x.plan.cap, St x.plan.owner, U x.plan.base, .bool x.plan.done, .slice A2 x.words.length c2], .agg #[St x.path, U8 x.status, I x.kids, I x.cut, U x.last, .slice B1 x.gone.length d1, St x.plan.keeper, U x.plan.round, St x.plan.live, St x.plan.by_, U x.plan.cap, St x.plan.owner, U x.plan.base, .bool x.plan.done, .slice B2 x.words.length d2]] w fun e w' => e = .returned (.bool true) ∧ Ext w w' := by
  have rA := rowNew w 48 [St x.path, U8 x.status, I x.kids, I x.cut, U x.last, .slice A1 x.gone.length c1, St x.plan.keeper, U x.plan.round, St x.plan.live, St x.plan.by_, U x.plan.cap, St x.plan.owner, U x.plan.base, .bool x.plan.done, .slice A2 x.words.length c2]
  have xA := (Ext.refl w).alloc (.cells #[St x.path, U8 x.status, I x.kids, I x.cut, U x.last, .slice A1 x.gone.length c1, St x.plan.keeper, U x.plan.round, St x.plan.live, St x.plan.by_, U x.plan.cap, St x.plan.owner, U x.plan.base, .bool x.plan.done, .slice A2 x.words.length c2] 48)
  have rB := rowNew (w.alloc (.cells #[St x.path, U8 x.status, I x.kids, I x.cut, U x.last, .slice A1 x.gone.length c1, St x.plan.keeper, U x.plan.round, St x.plan.live, St x.plan.by_, U x.plan.cap, St x.plan.owner, U x.plan.base, .bool x.plan.done, .slice A2 x.words.length c2] 48)) 48 [St x.path, U8 x.status, I x.kids, I x.cut, U x.last, .slice B1 x.gone.length d1, St x.plan.keeper, U x.plan.round, St x.plan.live, St x.plan.by_, U x.plan.cap, St x.plan.owner, U x.plan.base, .bool x.plan.done, .slice B2 x.words.length d2]
  have xB := xA.alloc (.cells #[St x.path, U8 x.status, I x.kids, I x.cut, U x.last, .slice B1 x.gone.length d1, St x.plan.keeper, U x.plan.round, St x.plan.live, St x.plan.by_, U x.plan.cap, St x.plan.owner, U x.plan.base, .bool x.plan.done, .slice B2 x.words.length d2] 48)
  rw [World.size_alloc] at rB
  have rA := rA.alloc (.cells #[St x.path, U8 x.status, I x.kids, I x.cut, U x.last, .slice B1 x.gone.length d1, St x.plan.keeper, U x.plan.round, St x.plan.live, St x.plan.by_, U x.plan.cap, St x.plan.owner, U x.plan.base, .bool x.plan.done, .slice B2 x.words.length d2] 48)
  obtain ⟨a0, a1, a2, a3, a4, a5, a6, a7, a8, a9, a10, a11, a12, a13, a14⟩ := RowIs.c15 rA
  obtain ⟨b0, b1, b2, b3, b4, b5, b6, b7, b8, b9, b10, b11, b12, b13, b14⟩ := RowIs.c15 rB
  have HRA := Lib.hid (And.intro rA rB)
  have HQ : ∀ w, (binOp .neq 45 (.agg #[St x.plan.keeper, U x.plan.round, St x.plan.live, St x.plan.by_, U x.plan.cap, St x.plan.owner, U x.plan.base, .bool x.plan.done]) (.agg #[St x.plan.keeper, U x.plan.round, St x.plan.live, St x.plan.by_, U x.plan.cap, St x.plan.owner, U x.plan.base, .bool x.plan.done])).run Tryz.prog w = .ok (.bool false) w := rneq_plan x.plan
  have HA1 := Lib.hid (fun (pre post : List Span) (m : Span) (wr : World) (h : Ext w wr) (hl : x.gone = pre ++ m :: post) => span_at h1 h hl)
  have HB1 := Lib.hid (fun (pre post : List Span) (m : Span) (wr : World) (h : Ext w wr) (hl : x.gone = pre ++ m :: post) => span_at g1 h hl)
  have HA2 := Lib.hid (fun (pre post : List Word) (m : Word) (wr : World) (h : Ext w wr) (hl : x.words = pre ++ m :: post) => word_at h2 h hl)
  have HB2 := Lib.hid (fun (pre post : List Word) (m : Word) (wr : World) (h : Ext w wr) (hl : x.words = pre ++ m :: post) => word_at g2 h hl)
  have hgd1 : Tryz.prog.eqGuardType Tryz.prog.depth 76 = false := by kernel_rfl
  have hgd2 : Tryz.prog.eqGuardType Tryz.prog.depth 71 = false := by kernel_rfl
  have q0 : (x.path != x.path) = false := by simp
  have q1 : ((x.status : Int) != x.status) = false := by simp
  have q2 : (x.kids != x.kids) = false := by simp
  have q3 : (x.cut != x.cut) = false := by simp
  have q4 : ((x.last : Int) != x.last) = false := by simp
  have q5 : ((x.gone.length : Int) != x.gone.length) = false := by simp
  have q6 : ((x.words.length : Int) != x.words.length) = false := by simp
  have HXB := Lib.hid xB
  have hG : x.gone.length ≤ 9223372036854775807 := by obtain ⟨_, _, _, l1, l2⟩ := h1.form; omega
  have hW : x.words.length ≤ 9223372036854775807 := by obtain ⟨_, _, _, l1, l2⟩ := h2.form; omega
  clear h1 h2 g1 g2 rA rB xA xB
  go_enter Tryz.func41, Tryz.ntmps41
  go_wp2_with fail
  clear q0 q1 q2 q3 q4 q5 q6 HQ a0 a1 a2 a3 a4 a5 a6 a7 a8 a9 a10 a11 a12 a13 a14 b0 b1 b2 b3 b4 b5 b6 b7 b8 b9 b10 b11 b12 b13 b14
  generalize ((w.alloc (.cells #[St x.path, U8 x.status, I x.kids, I x.cut, U x.last, .slice A1 x.gone.length c1, St x.plan.keeper, U x.plan.round, St x.plan.live, St x.plan.by_, U x.plan.cap, St x.plan.owner, U x.plan.base, .bool x.plan.done, .slice A2 x.words.length c2] 48)).alloc (.cells #[St x.path, U8 x.status, I x.kids, I x.cut, U x.last, .slice B1 x.gone.length d1, St x.plan.keeper, U x.plan.round, St x.plan.live, St x.plan.by_, U x.plan.cap, St x.plan.owner, U x.plan.base, .bool x.plan.done, .slice B2 x.words.length d2] 48)) = W2 at *
  go_loopw [5] (fun i wr => ∃ pre pa, x.gone = pre ++ pa ∧ i = I pre.length ∧ Ext W2 wr) (fun i _ => x.gone.length - (intOf i).toNat)
  case atStart => exact ⟨[], x.gone, rfl, rfl, Ext.refl _⟩
  case round =>
    obtain ⟨pre, pa, hla, rfl, hx⟩ := hrel
    have HX := Lib.hid hx
    clear hx
    obtain ⟨a0, a1, a2, a3, a4, a5, a6, a7, a8, a9, a10, a11, a12, a13, a14⟩ := RowIs.c15 (HRA.out.1.ext HX.out)
    obtain ⟨b0, b1, b2, b3, b4, b5, b6, b7, b8, b9, b10, b11, b12, b13, b14⟩ := RowIs.c15 (HRA.out.2.ext HX.out)
    cases pa with
    | cons s pa =>
      obtain ⟨k1, o1, rfl, p0, p1⟩ := HA1.out pre pa s _ (HXB.out.trans HX.out) hla
      obtain ⟨k2, o2, rfl, r0, r1⟩ := HB1.out pre pa s _ (HXB.out.trans HX.out) hla
      have hlt : pre.length < x.gone.length := by rw [hla]; simp
      have HLA := Lib.hid hla
      have hne := fun W => neq_span s W
      skip
      clear hla
      go_wp2_with fail
      go_quiet (fail)
      go_wp2_with fail
      go_roundw
      case rel => exact ⟨pre ++ [s], pa, by rw [HLA.out]; simp, by simp, HX.out.drewN _⟩
      case measure => simp [intOf]; omega
    | nil =>
      rw [List.append_nil] at hla
      have hlen : pre.length = x.gone.length := by rw [hla]
      have d1 : ¬ (pre.length : Int) < x.gone.length := by omega
      clear hla hlen
      go_wp2_with fail
      clear d1 a0 a1 a2 a3 a4 a5 a6 a7 a8 a9 a10 a11 a12 a13 a14 b0 b1 b2 b3 b4 b5 b6 b7 b8 b9 b10 b11 b12 b13 b14
      go_loopw [6] (fun i wr => ∃ pre pa, x.words = pre ++ pa ∧ i = I pre.length ∧ Ext W2 wr) (fun i _ => x.words.length - (intOf i).toNat)
      case atStart => exact ⟨[], x.words, rfl, rfl, HX.out⟩
      case round =>
        obtain ⟨pre, pa, hla, rfl, hx⟩ := hrel
        have HX := Lib.hid hx
        clear hx
        obtain ⟨a0, a1, a2, a3, a4, a5, a6, a7, a8, a9, a10, a11, a12, a13, a14⟩ := RowIs.c15 (HRA.out.1.ext HX.out)
        obtain ⟨b0, b1, b2, b3, b4, b5, b6, b7, b8, b9, b10, b11, b12, b13, b14⟩ := RowIs.c15 (HRA.out.2.ext HX.out)
        cases pa with
        | cons s pa =>
          obtain ⟨k1, o1, rfl, p0, p1, p2, p3, p4, p5, p6⟩ := HA2.out pre pa s _ (HXB.out.trans HX.out) hla
          obtain ⟨k2, o2, rfl, r0, r1, r2, r3, r4, r5, r6⟩ := HB2.out pre pa s _ (HXB.out.trans HX.out) hla
          have hlt : pre.length < x.words.length := by rw [hla]; simp
          have HLA := Lib.hid hla
          have hne := fun W => neq_word s W
          unfold wordV at hne
          clear hla
          go_wp2_with fail
          go_quiet (fail)
          go_wp2_with fail
          go_roundw
          case rel => exact ⟨pre ++ [s], pa, by rw [HLA.out]; simp, by simp, HX.out.drewN _⟩
          case measure => simp [intOf]; omega
        | nil =>
          rw [List.append_nil] at hla
          have hlen : pre.length = x.words.length := by rw [hla]
          have d1 : ¬ (pre.length : Int) < x.words.length := by omega
          clear hla hlen
          go_wp2_with fail
          go_ret
          exact ⟨rfl, HXB.out.trans HX.out⟩

set_option maxRecDepth 100000 in
set_option maxHeartbeats 4000000 in
theorem refSame_any {S S' : Nat → Prop} {v u : Value} {l : List Mbr} {w : World} (hv : Sl mbrT w S v l) (hu : Sl mbrT w S' u l) :
    Calls Tryz.prog 17 #[v, u] w fun e w' => e = .returned (.bool true) ∧ Ext w w' := by
  have hv' := hv
  have hu' := hu
  obtain ⟨A, ca, rfl, hc1, hc2⟩ := hv.form
  obtain ⟨B, cb, rfl, -, -⟩ := hu.form
  have HAT := Lib.hid (fun (pre post : List Mbr) (x : Mbr) w1 (hx : Ext w w1) (hl : l = pre ++ x :: post) => mbr_at (wr := w1) hv' (fun b _ hb => hx.block b hb) hl)
  have HBT := Lib.hid (fun (pre post : List Mbr) (x : Mbr) w1 (hx : Ext w w1) (hl : l = pre ++ x :: post) => mbr_at (wr := w1) hu' (fun b _ hb => hx.block b hb) hl)
  have k0 : ((l.length : Int) != (l.length : Int)) = false := by simp
  clear hv hu hv' hu'
  go_enter Tryz.func17, Tryz.ntmps17
  go_wp2_with fail
  clear k0
  go_loopw [5] (fun i wr => ∃ pre post, l = pre ++ post ∧ i = I pre.length ∧ Ext w wr) (fun i _ => l.length - (intOf i).toNat)
  case atStart => exact ⟨[], l, rfl, rfl, Ext.refl _⟩
  case round =>
    obtain ⟨pre, post, hl, rfl, hx⟩ := hrel
    cases post with
    | nil =>
      rw [List.append_nil] at hl
      have hlen : pre.length = l.length := by rw [hl]
      have d1 : ¬ (pre.length : Int) < l.length := by omega
      have HX := Lib.hid hx
      clear hx hl hlen
      go_wp2_with fail
      go_ret
      exact ⟨rfl, HX.out⟩
    | cons x post =>
      obtain ⟨b, o, A1, c1, A2, c2, rfl, -, h1, h2, hc⟩ := HAT.out pre post x wr hx hl
      obtain ⟨b', o', B1, d1, B2, d2, rfl, -, g1, g2, hd⟩ := HBT.out pre post x wr hx hl
      obtain ⟨Wd, hWd⟩ : ∃ Wd, wr.drew = Wd := ⟨_, rfl⟩
      have hdx : Ext wr Wd := hWd ▸ (Ext.refl _).drew
      obtain ⟨k0, k1, k2, k3, k4, k5, k6, k7, k8, k9, k10, k11, k12, k13, k14⟩ := mbr_c15 (fun j u hj => hdx.cell (hc j u hj))
      obtain ⟨j0, j1, j2, j3, j4, j5, j6, j7, j8, j9, j10, j11, j12, j13, j14⟩ := mbr_c15 (fun j u hj => hdx.cell (hd j u hj))
      have hlt : pre.length < l.length := by rw [hl]; simp
      have hlt2 : (pre.length : Int) < l.length := by omega
      have HS := Lib.hid (refSame1_any x (h1.ext (by decide) hdx) (h2.ext (by decide) hdx) (g1.ext (by decide) hdx) (g2.ext (by decide) hdx))
      have HL := Lib.hid hl
      have HX := Lib.hid (hx.trans hdx)
      have HWD := Lib.hid hWd
      clear hl hx hc hd h1 h2 g1 g2 hdx hWd
      go_wp2_with fail
      refine wp_region_still_tail 8 (by kernel_rfl) (by kernel_rfl) ?_
      simp only [List.take_succ_cons, List.take_zero, List.drop_succ_cons, List.drop_zero]
      change wpStill _ _ (wr).drew (fun a' => wpList _ _ _ _ a' (wr).drew) _ _
      rw [HWD.out]
      generalize hA : Act.mk _ _ = A0; repeat (refine wpStill_step (fun K2 hK2 => ?_); subst hA; go_simp; generalize hA : Act.mk _ _ = A0; refine hK2 A0 ?_; clear hK2 K2)
      refine wpStill_nil ?_
      subst hA
      go_wp2_with fail
      refine HS.out.mono ?_
      rintro e w4 ⟨rfl, hx4⟩
      go_wp2_with fail
      go_roundw
      case rel => exact ⟨pre ++ [x], post, by rw [HL.out]; simp, by simp, HX.out.trans hx4⟩
      case measure => simp [intOf]; omega
end Go.Proofs.YtblkikjmocnllaaGreatDoor
namespace Go.Proofs.YtblkikjmocnllaaGreatDoor
open Go.RowKit

section
variable {P : Program} {ops : Array Oper} {Q : Exit → Act → World → Prop} {n k : Nat} {a0 : Act} {w0 : World} {R : Nat → Value → World → Prop}
theorem wpAny_invK (hB : headB ops n a0.tmps.size = true) (hR : ∀ i v w w', R i v w → Ext w w' → R i v w')
    (hstep : ∀ i o, k ≤ i → i < n → ops[i]? = some o → ∀ (x : Nat → Value) (w : World), Ext w0 w → (∀ t ∈ o.looksAt ops, slotFact ops n a0 R x w t) → wpList P ops (stepQ (InvAct a0.tmps.size a0.defers x) o.dst (R i) w) [o] (InvAct a0.tmps.size a0.defers x) w)
    (hend : ∀ (x : Nat → Value) (w : World), Ext w0 w → (∀ t, slotFact ops n a0 R x w t) → wpList P ops Q (ops.toList.drop n) (InvAct a0.tmps.size a0.defers x) w) :
    ∀ (c : Nat) (listed : Array Bool) (a : Act) (w : World), HeadInv .any ops n listed → cntU n listed = c → (∀ j, j < k → listed.getD j false = true) → RInv ops n a0 w0 R listed a w → wpAny P .any ops Q (c + (ops.size - n)) listed a w := by
  obtain ⟨h1, h2, h3, h4, h5⟩ := headB_spec hB
  intro c
  induction c with
  | zero =>
    intro listed a w inv hc hpre ri
    have hall : ∀ i, i < n → listed.getD i false = true := fun i hi => by
      have := List.countP_eq_zero.1 hc i (List.mem_range.2 hi)
      simpa using this
    have hcan : listed = canonL n ops.size := by
      apply Array.ext_getElem?
      intro i
      by_cases hi : i < ops.size
      · have hil : i < listed.size := by rw [inv.size]; exact hi
        by_cases hin : i < n
        · have := hall i hin
          simp [hil] at this
          simp [canonL, hi, hin, hil, this]
        · have := inv.tail i (by omega) hi
          simp [hil] at this
          simp [canonL, hi, hin, hil, this]
      · have hil : ¬ i < listed.size := by rw [inv.size]; exact hi
        simp [canonL, hi, hil]
    have hlen : (ops.toList.drop n).length = ops.size - n := by simp
    have ha := invAct_eq a
    rw [ri.size, ri.defers] at ha
    have hw : wpList P ops Q (ops.toList.drop n) a w := by
      rw [ha]
      refine hend _ w ri.ext fun t => ?_
      unfold slotFact
      split
      · rename_i hd; exact ri.old t hd
      · rename_i j hd; exact ri.got j t hd (hall j (dstIdx_some hd).1)
    have := wpAny_of_seq (md := .any) (Q' := Q) (ops.toList.drop n) n listed a w (fun j => by simp [List.getElem?_drop]) (by rw [hlen, hcan]; exact h5) hw
    rw [hlen] at this
    rw [Nat.zero_add]
    exact this
  | succ c ih =>
    intro listed a w inv hc hpre ri
    have hex : ∃ i, i < n ∧ listed.getD i false = false := by
      have : 0 < cntU n listed := by omega
      obtain ⟨i, hi, hl⟩ := List.countP_pos_iff.1 this
      exact ⟨i, List.mem_range.1 hi, by simpa using hl⟩
    obtain ⟨i0, hi0, hl0⟩ := hex
    obtain ⟨jr, hjr, hjr2⟩ := least_ready hB inv i0 hi0 hl0
    rw [show c + 1 + (ops.size - n) = (c + (ops.size - n)) + 1 by omega]
    refine ⟨(fun h0 => (by rw [h0] at hjr2; cases hjr2)), fun i hi => ?_⟩
    have hin : i < n := by
      rcases Nat.lt_or_ge i n with h | h
      · exact h
      · exact absurd hi (tail_waits h2 h3 h1 inv _ i0 rfl hi0 (getD_in (by rw [inv.size]; omega) hl0) i h)
    obtain ⟨hun, o, ho, hdeps⟩ := mem_ready.1 hi
    have hki : k ≤ i := by
      rcases Nat.lt_or_ge i k with h | h
      · have h1 := hpre i h
        rw [getD_both hun] at h1
        cases h1
      · exact h
    obtain ⟨g2, ⟨d, g3, g3', g3''⟩, g4⟩ := headOp_spec (h4 i o hin ho)
    have ha := invAct_eq a
    rw [ri.size, ri.defers] at ha
    have hs := hstep i o hki hin ho (fun t => a.eval (.tmp t)) w ri.ext fun t ht => by
      unfold slotFact
      split
      · rename_i hd; exact ri.old t hd
      · rename_i j hd
        refine ri.got j t hd ?_
        obtain ⟨o', ho', e, he, hb, hon⟩ := Region.waitsFor_spec (g4 t ht j hd)
        have : o' = o := Option.some.inj (ho'.symm.trans ho)
        subst this
        rw [← hon]
        exact hdeps e he hb
    rw [← ha] at hs
    refine wpOp_of_list ho (fun e a w he h => by cases e <;> first | exact absurd rfl he | exact h) (fun a' w' h => ?_) hs
    obtain ⟨v, rfl, hv, hx⟩ := h
    rw [g3]
    have hsz : d < a.tmps.size := by rw [ri.size]; exact g3'
    refine ih _ _ _ (inv.set hi hin) ?_ (fun j hj => ?_) ⟨by rw [putA_size]; exact ri.size, by rw [putA_defers]; exact ri.defers, ri.ext.trans hx, fun t ht => ?_, fun j t ht hl => ?_⟩
    · have := countP_one (fun j => !listed.getD j false) (fun j => !(listed.setIfInBounds i true).getD j false) i (by simpa using getD_both hun) (by
        have hlt : i < listed.size := by rw [inv.size]; omega
        simp [hlt]) (fun j hj => by simp only [getD_set_ne false (Ne.symm hj)]) n hin
      unfold cntU at hc ⊢
      omega
    · rw [getD_set_ne false (show i ≠ j by omega)]
      exact hpre j hj
    · rw [putA_ne _ _ _ _ (fun e => by subst e; rw [ht] at g3''; cases g3'')]
      exact ri.old t ht
    · by_cases hdt : d = t
      · subst hdt
        obtain rfl : j = i := Option.some.inj (ht.symm.trans g3'')
        rw [putA_same _ _ _ hsz]
        exact hv
      · rw [putA_ne _ _ _ _ hdt]
        have hji : i ≠ j := fun e => by
          subst e
          have := (dstIdx_some ht).2
          rw [ho] at this
          exact hdt (Option.some.inj (g3.symm.trans this))
        rw [getD_set_ne false hji] at hl
        exact hR _ _ _ _ (ri.got j t ht hl) hx
def factK (ops : Array Oper) (a : Act) (k : Nat) (Rs : List (Value → World → Prop)) (i : Nat) : Value → World → Prop :=
  if i < k then fun v _ => match (ops[i]?).bind (·.dst) with | some d => v = a.eval (.tmp d) | none => True else nthR Rs (i - k)
def stepsK (P : Program) (ops : Array Oper) (n : Nat) (a0 : Act) (w0 : World) (R : Nat → Value → World → Prop) : List Oper → List (Value → World → Prop) → Prop
  | o :: l, r :: rs => (∀ (x : Nat → Value) (w : World), Ext w0 w → slotFacts ops n a0 R x w (o.looksAt ops) → wpList P ops (stepQ (InvAct a0.tmps.size a0.defers x) o.dst r w) [o] (InvAct a0.tmps.size a0.defers x) w) ∧ stepsK P ops n a0 w0 R l rs
  | [], [] => True
  | _, _ => False
theorem stepsK_at : ∀ (l : List Oper) (rs : List (Value → World → Prop)), stepsK P ops n a0 w0 R l rs → ∀ i o, l[i]? = some o → ∀ (x : Nat → Value) (w : World), Ext w0 w → (∀ t ∈ o.looksAt ops, slotFact ops n a0 R x w t) →
    wpList P ops (stepQ (InvAct a0.tmps.size a0.defers x) o.dst (nthR rs i) w) [o] (InvAct a0.tmps.size a0.defers x) w
  | [], _, _, i, o, ho, _, _, _, _ => by simp at ho
  | p :: l, [], h, _, _, _, _, _, _, _ => h.elim
  | p :: l, r :: rs, h, 0, o, ho, x, w, he, hf => by
    obtain rfl : p = o := by simpa using ho
    exact h.1 x w he (slotFacts_of _ hf)
  | p :: l, r :: rs, h, i + 1, o, ho, x, w, he, hf => by
    have := stepsK_at l rs h.2 i o (by simpa using ho) x w he hf
    simpa [nthR] using this
def zipFacts (x : Nat → Value) (w : World) : List Tmp → List (Value → World → Prop) → Prop
  | d :: ds, r :: rs => r (x d) w ∧ zipFacts x w ds rs
  | _, _ => True
theorem zip_of {x : Nat → Value} {w : World} : ∀ (l : List Oper) (rs : List (Value → World → Prop)), (∀ (i : Nat) (o : Oper), l[i]? = some o → ∃ d, o.dst = some d ∧ nthR rs i (x d) w) → zipFacts x w (l.filterMap (·.dst)) rs
  | [], rs, _ => by cases rs <;> trivial
  | o :: l, rs, h => by
    obtain ⟨d, h1, h2⟩ := h 0 o rfl
    rw [List.filterMap_cons, h1]
    simp only
    cases rs with
    | nil => trivial
    | cons r rs => exact ⟨h2, zip_of l rs fun i o ho => by obtain ⟨d, h1, h2⟩ := h (i + 1) o (by simpa using ho); exact ⟨d, h1, by simpa [nthR] using h2⟩⟩
theorem wpAny_factsK (Rs : List (Value → World → Prop)) (ds : List Tmp) (hds : ((ops.toList.drop k).take Rs.length).filterMap (·.dst) = ds) (hn : n = k + Rs.length) (hB : headB ops n a0.tmps.size = true)
    (hR : ∀ r ∈ Rs, ∀ v w w', r v w → Ext w w' → r v w')
    (hstep : stepsK P ops n a0 w0 (factK ops a0 k Rs) ((ops.toList.drop k).take Rs.length) Rs)
    (hend : ∀ (x : Nat → Value) (w : World), Ext w0 w → zipFacts x w ds Rs → wpList P ops Q (ops.toList.drop n) (putAll a0 x ds) w) :
    wpAny P .any ops Q (ops.size - k) (canonL k ops.size) a0 w0 := by
  obtain ⟨h1, h2, h3, h4, h5⟩ := headB_spec hB
  have hinv : HeadInv .any ops n (canonL k ops.size) := by
    refine ⟨by simp [canonL], fun j oj hj hl e he hb => ?_, fun t ht ht' => by rw [canonL_getD ht']; simp; omega⟩
    have hjs := (Array.getElem?_eq_some_iff.1 hj).1
    rw [canonL_getD hjs] at hl
    have hjk : j < k := by simpa using hl
    have h6 := (headOp_spec (h4 j oj (by omega) hj)).1 e he hb
    rw [canonL_getD (by omega)]
    simp
    omega
  have hcnt : cntU n (canonL k ops.size) = n - k := by
    unfold cntU
    have : ∀ m, m ≤ ops.size → (List.range m).countP (fun i => !(canonL k ops.size).getD i false) = m - k := by
      intro m
      induction m with
      | zero => intro _; simp
      | succ m ih =>
        intro hm
        rw [List.range_succ, List.countP_append, ih (by omega)]
        have : (canonL k ops.size).getD m false = decide (m < k) := canonL_getD (by omega) _
        simp only [List.countP_cons, List.countP_nil, this]
        by_cases h : m < k
        · simp [h]; omega
        · simp [h]; omega
    exact this n (by omega)
  have := wpAny_invK (P := P) (Q := Q) (w0 := w0) (k := k) (R := factK ops a0 k Rs) hB (fun i v w w' h he => by
    unfold factK at h ⊢
    split
    · rename_i hi; rw [if_pos hi] at h; exact h
    · rename_i hi
      rw [if_neg hi] at h
      unfold nthR at h ⊢
      by_cases hil : i - k < Rs.length
      · rw [List.getD_eq_getElem?_getD, List.getElem?_eq_getElem hil] at h ⊢
        exact hR _ (List.getElem_mem hil) v w w' h he
      · rw [List.getD_eq_getElem?_getD, List.getElem?_eq_none (by omega)] at h ⊢
        trivial) (fun i o hki hin ho x w he hf => by
    have h6 := stepsK_at _ _ hstep (i - k) o (by rw [List.getElem?_take_of_lt (by omega), List.getElem?_drop, show k + (i - k) = i by omega]; simpa using ho) x w he hf
    have h7 : factK ops a0 k Rs i = nthR Rs (i - k) := by unfold factK; rw [if_neg (by omega)]
    rw [h7]
    exact h6) (fun x w he hf => by
    have h6 := hend x w he (by
      rw [← hds]
      refine zip_of _ _ fun i o ho => ?_
      have hi : i < Rs.length := by
        have h1 := (List.getElem?_eq_some_iff.1 ho).1
        rw [List.length_take] at h1
        omega
      have ho2 : ops[k + i]? = some o := by
        rw [List.getElem?_take_of_lt hi, List.getElem?_drop] at ho
        simpa using ho
      obtain ⟨-, ⟨d, g1, g2, g3⟩, -⟩ := headOp_spec (h4 (k + i) o (by omega) ho2)
      refine ⟨d, g1, ?_⟩
      have h7 := hf d
      unfold slotFact at h7
      rw [g3] at h7
      unfold factK at h7
      simp only at h7
      rw [if_neg (by omega), show k + i - k = i by omega] at h7
      exact h7)
    rw [← hds] at h6
    have h7 : InvAct a0.tmps.size a0.defers x = putAll a0 x (((ops.toList.drop k).take Rs.length).filterMap (·.dst)) := by
      obtain ⟨p1, p2⟩ := putAll_size x (((ops.toList.drop k).take Rs.length).filterMap (·.dst)) a0
      rw [invAct_eq (putAll a0 x (((ops.toList.drop k).take Rs.length).filterMap (·.dst))), p1, p2]
      unfold InvAct
      congr 2
      apply List.map_congr_left
      intro t ht
      rw [putAll_eval _ _ _ _ (List.mem_range.1 ht)]
      split
      · rfl
      · rename_i hm
        have h8 := hf t
        unfold slotFact at h8
        split at h8
        · exact h8
        · rename_i j hd
          obtain ⟨d1, d2⟩ := dstIdx_some hd
          by_cases hjk : j < k
          · unfold factK at h8
            rw [if_pos hjk] at h8
            rw [d2] at h8
            exact h8
          · exfalso
            refine hm ?_
            cases ho : ops[j]? with
            | none => rw [ho] at d2; cases d2
            | some o =>
              rw [ho] at d2
              rw [List.mem_filterMap]
              refine ⟨o, ?_, d2⟩
              have : ((ops.toList.drop k).take Rs.length)[j - k]? = some o := by rw [List.getElem?_take_of_lt (by omega), List.getElem?_drop, show k + (j - k) = j by omega]; simpa using ho
              exact List.mem_of_getElem? this
    rw [h7]
    exact h6) (n - k) (canonL k ops.size) a0 w0 hinv hcnt (fun j hj => by rw [canonL_getD (by omega)]; simpa using hj)
    ⟨rfl, rfl, Ext.refl _, fun _ _ => rfl, fun j d hd hl => by
      obtain ⟨d1, d2⟩ := dstIdx_some hd
      have hjk : j < k := by rw [canonL_getD (by omega)] at hl; simpa using hl
      unfold factK
      rw [if_pos hjk, d2]⟩
  rw [show n - k + (ops.size - n) = ops.size - k by omega] at this
  exact this
end
end Go.Proofs.YtblkikjmocnllaaGreatDoor
