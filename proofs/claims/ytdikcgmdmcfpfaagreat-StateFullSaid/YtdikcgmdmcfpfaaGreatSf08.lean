/- Contracts of the functions that the statement goes through, with their plain words: As RegionInv, with ONE operation q in the head that writes (a store without a slot): the world has J0 ahead of it, J1 behind it; the operations of 'pre' are bound to come ahead of it. As RegionInv2, with two kinds of moves: what the other operations do (Mn), and what the one that writes does (Mq): its own fact is to last the first kind alone. Rows of entries that a call fills: what they read as, one more behind. Package entry: seenCounts, seenItems. Maps keyed by uint8. Package text: what a key is of. Total functions over the model's own decoding of UTF-8. Package entry: May. Package entry: May, the whole. -/
import Derived.Test.YtdikcgmdmcfpfaaGreatSf07
import Derived.Lib.Walk
import Derived.Lib.RuneCount
import Derived.Laws.RangeString
import Derived.Laws.RangeAny
namespace Go.Proofs.YtdikcgmdmcfpfaaGreat
open Go.RowKit

section
variable {P : Program} {ops : Array Oper} {Q : Exit → Act → World → Prop}

def preB (ops : Array Oper) (q : Nat) (pre : List Nat) : Bool := pre.all fun i => Region.waitsFor .any ops q i || pre.any fun j => decide (i < j) && Region.waitsFor .any ops j i
def headOp2 (ops : Array Oper) (n N q i : Nat) (o : Oper) : Bool :=
  o.guard.isNone && (o.after.toList.all fun e => !Region.binds .any e || decide (e.on < i)) && (match o.dst with | none => decide (i = q) | some d => decide (d < N) && (dstIdx ops n d == some i)) &&
    ((o.looksAt ops).all fun t => match dstIdx ops n t with | none => true | some j => Region.waitsFor .any ops i j)
def headB2 (ops : Array Oper) (n N q : Nat) (pre : List Nat) : Bool :=
  decide (n < ops.size) && Region.sinkB .any ops n && Region.chainB .any ops n && ((List.range n).all fun i => match ops[i]? with | none => false | some o => headOp2 ops n N q i o) &&
    Region.seqB .any ops (ops.size - n) n (canonL n ops.size) && decide (q < n) && preB ops q pre

def stepQ2 (A : Act) (dst : Option Tmp) (R : Value → World → Prop) (M : World → Prop) : Exit → Act → World → Prop
  | .normal, a', w' => ∃ v, a' = A.put dst v ∧ R v w' ∧ M w'
  | _, _, _ => False
theorem stepQ2_ok {A : Act} {dst : Option Tmp} {r : Value → World → Prop} {M : World → Prop} {w' : World} {v : Value} (hv : r v w') (hx : M w') : stepQ2 A dst r M .normal (A.put dst v) w' := ⟨v, rfl, hv, hx⟩

structure RInv2 (ops : Array Oper) (n q : Nat) (a0 : Act) (J0 J1 : World → Prop) (R : Nat → Value → World → Prop) (listed : Array Bool) (a : Act) (w : World) : Prop where
  size : a.tmps.size = a0.tmps.size
  defers : a.defers = a0.defers
  jn : if listed.getD q false = true then J1 w else J0 w
  old : ∀ t, dstIdx ops n t = none → a.eval (.tmp t) = a0.eval (.tmp t)
  got : ∀ i d, dstIdx ops n d = some i → listed.getD i false = true → R i (a.eval (.tmp d)) w

variable {n N q : Nat} {a0 : Act} {J0 J1 : World → Prop} {R : Nat → Value → World → Prop} {Mv : World → World → Prop} {pre : List Nat}

theorem headB2_spec (h : headB2 ops n N q pre = true) : n < ops.size ∧ Region.sinkB .any ops n = true ∧ Region.chainB .any ops n = true ∧ (∀ i o, i < n → ops[i]? = some o → headOp2 ops n N q i o = true) ∧ Region.seqB .any ops (ops.size - n) n (canonL n ops.size) = true ∧ q < n ∧ preB ops q pre = true := by
  simp only [headB2, Bool.and_eq_true, decide_eq_true_eq, List.all_eq_true, List.mem_range] at h
  obtain ⟨⟨⟨⟨⟨⟨h1, h2⟩, h3⟩, h4⟩, h5⟩, h6⟩, h7⟩ := h
  exact ⟨h1, h2, h3, fun i o hi ho => by have := h4 i hi; rw [ho] at this; exact this, h5, h6, h7⟩
theorem headOp2_spec {i : Nat} {o : Oper} (h : headOp2 ops n N q i o = true) : o.guard = none ∧ (∀ e ∈ o.after, Region.binds .any e = true → e.on < i) ∧ ((o.dst = none ∧ i = q) ∨ ∃ d, o.dst = some d ∧ d < N ∧ dstIdx ops n d = some i) ∧
    (∀ t ∈ o.looksAt ops, ∀ j, dstIdx ops n t = some j → Region.waitsFor .any ops i j = true) := by
  simp only [headOp2, Bool.and_eq_true, List.all_eq_true, Option.isNone_iff_eq_none] at h
  obtain ⟨⟨⟨h1, h2⟩, h3⟩, h4⟩ := h
  refine ⟨h1, fun e he hb => ?_, ?_, fun t ht j hj => ?_⟩
  · have := h2 e (by simpa using he)
    simpa [hb] using this
  · cases hd : o.dst with
    | none => rw [hd] at h3; exact .inl ⟨rfl, by simpa using h3⟩
    | some d => rw [hd] at h3; simp at h3; exact .inr ⟨d, rfl, h3⟩
  · have := h4 t ht
    rw [hj] at this
    exact this

theorem pre_listed (hp : preB ops q pre = true) {listed : Array Bool} (inv : HeadInv .any ops n listed) (hq : listed.getD q false = true) : ∀ (k i : Nat), pre.foldr max 0 - i = k → i ∈ pre → listed.getD i false = true := by
  intro k
  induction k using Nat.strongRecOn with
  | _ k ih =>
    intro i hk hi
    have h := List.all_eq_true.1 hp i hi
    simp only [Bool.or_eq_true] at h
    have step : ∀ j, listed.getD j false = true → Region.waitsFor .any ops j i = true → listed.getD i false = true := fun j hj hw => by
      obtain ⟨oj, hoj, e, he, hb, hon⟩ := Region.waitsFor_spec hw
      have := inv.closed j oj hoj hj e he hb
      rw [hon] at this
      exact this
    rcases h with h | h
    · exact step q hq h
    · obtain ⟨j, hj, hw⟩ := List.any_eq_true.1 h
      simp only [Bool.and_eq_true, decide_eq_true_eq] at hw
      have hmax : j ≤ pre.foldr max 0 := by
        clear hp hi h ih hk
        induction pre with
        | nil => cases hj
        | cons a l ih =>
          simp only [List.foldr_cons]
          rcases List.mem_cons.1 hj with rfl | hj
          · exact Nat.le_max_left _ _
          · exact Nat.le_trans (ih hj) (Nat.le_max_right _ _)
      exact step j (ih _ (by omega) j rfl hj) hw.2

theorem least_ready2 (hB : headB2 ops n N q pre = true) {listed : Array Bool} (inv : HeadInv .any ops n listed) : ∀ i, i < n → listed.getD i false = false → ∃ j, j < n ∧ j ∈ Region.ready .any ops listed := by
  obtain ⟨h1, h2, h3, h4, h5, -, -⟩ := headB2_spec hB
  intro i
  induction i using Nat.strongRecOn with
  | _ i ih =>
    intro hi hl
    have hio : i < ops.size := by omega
    have hoi : ops[i]? = some ops[i] := by simp [hio]
    obtain ⟨g1, g2, g3, g4⟩ := headOp2_spec (h4 i _ hi hoi)
    by_cases hall : ∀ e ∈ (ops[i]).after, Region.binds .any e = true → listed.getD e.on false = true
    · refine ⟨i, hi, mem_ready.2 ⟨?_, _, hoi, hall⟩⟩
      exact getD_in (by rw [inv.size]; omega) hl
    · simp only [Classical.not_forall] at hall
      obtain ⟨e, he, hb, hne⟩ := hall
      have := g2 e he hb
      exact ih e.on this (by omega) (by simpa using hne)

theorem wpAny_inv2 (hB : headB2 ops n a0.tmps.size q pre = true) (hR : ∀ i v w w', R i v w → Mv w w' → R i v w')
    (hstep : ∀ i o, i < n → i ≠ q → ops[i]? = some o → ∀ (x : Nat → Value) (w : World) (b : Bool), (b = true → i ∉ pre) → (if b = true then J1 w else J0 w) → (∀ t ∈ o.looksAt ops, slotFact ops n a0 R x w t) →
      wpList P ops (stepQ2 (InvAct a0.tmps.size a0.defers x) o.dst (R i) (fun w' => (if b = true then J1 w' else J0 w') ∧ Mv w w')) [o] (InvAct a0.tmps.size a0.defers x) w)
    (hq : ∀ o, ops[q]? = some o → ∀ (x : Nat → Value) (w : World), J0 w → (∀ t ∈ o.looksAt ops, slotFact ops n a0 R x w t) →
      wpList P ops (stepQ2 (InvAct a0.tmps.size a0.defers x) o.dst (R q) (fun w' => J1 w' ∧ Mv w w')) [o] (InvAct a0.tmps.size a0.defers x) w)
    (hend : ∀ (x : Nat → Value) (w : World), J1 w → (∀ t, slotFact ops n a0 R x w t) → wpList P ops Q (ops.toList.drop n) (InvAct a0.tmps.size a0.defers x) w) :
    ∀ (k : Nat) (listed : Array Bool) (a : Act) (w : World), HeadInv .any ops n listed → cntU n listed = k → RInv2 ops n q a0 J0 J1 R listed a w → wpAny P .any ops Q (k + (ops.size - n)) listed a w := by
  obtain ⟨h1, h2, h3, h4, h5, hqn, hpre⟩ := headB2_spec hB
  intro k
  induction k with
  | zero =>
    intro listed a w inv hc ri
    have hall : ∀ i, i < n → listed.getD i false = true := fun i hi => by
      have := List.countP_eq_zero.1 hc i (List.mem_range.2 hi)
      simpa using this
    have hcan : listed = canonL n ops.size := by
      apply Array.ext_getElem?
      intro i
      by_cases hi : i < ops.size
      · have hil : i < listed.size := by rw [inv.size]; exact hi
        by_cases hin : i < n
        · have := hall i hin
          simp [hil] at this
          simp [canonL, hi, hin, hil, this]
        · have := inv.tail i (by omega) hi
          simp [hil] at this
          simp [canonL, hi, hin, hil, this]
      · have hil : ¬ i < listed.size := by rw [inv.size]; exact hi
        simp [canonL, hi, hil]
    have hlen : (ops.toList.drop n).length = ops.size - n := by simp
    have ha := invAct_eq a
    rw [ri.size, ri.defers] at ha
    have hj := ri.jn
    rw [if_pos (hall q hqn)] at hj
    have hw : wpList P ops Q (ops.toList.drop n) a w := by
      rw [ha]
      refine hend _ w hj fun t => ?_
      unfold slotFact
      split
      · rename_i hd; exact ri.old t hd
      · rename_i j hd; exact ri.got j t hd (hall j (dstIdx_some hd).1)
    have := wpAny_of_seq (md := .any) (Q' := Q) (ops.toList.drop n) n listed a w (fun j => by simp [List.getElem?_drop]) (by rw [hlen, hcan]; exact h5) hw
    rw [hlen] at this
    rw [Nat.zero_add]
    exact this
  | succ k ih =>
    intro listed a w inv hc ri
    have hex : ∃ i, i < n ∧ listed.getD i false = false := by
      have : 0 < cntU n listed := by omega
      obtain ⟨i, hi, hl⟩ := List.countP_pos_iff.1 this
      exact ⟨i, List.mem_range.1 hi, by simpa using hl⟩
    obtain ⟨i0, hi0, hl0⟩ := hex
    obtain ⟨jr, hjr, hjr2⟩ := least_ready2 hB inv i0 hi0 hl0
    rw [show k + 1 + (ops.size - n) = (k + (ops.size - n)) + 1 by omega]
    refine ⟨(fun h0 => (by rw [h0] at hjr2; cases hjr2)), fun i hi => ?_⟩
    have hin : i < n := by
      rcases Nat.lt_or_ge i n with h | h
      · exact h
      · exact absurd hi (tail_waits h2 h3 h1 inv _ i0 rfl hi0 (getD_in (by rw [inv.size]; omega) hl0) i h)
    obtain ⟨hun, o, ho, hdeps⟩ := mem_ready.1 hi
    obtain ⟨g1, g2, g3, g4⟩ := headOp2_spec (h4 i o hin ho)
    have ha := invAct_eq a
    rw [ri.size, ri.defers] at ha
    have hfacts : ∀ t ∈ o.looksAt ops, slotFact ops n a0 R (fun t => a.eval (.tmp t)) w t := fun t ht => by
      unfold slotFact
      split
      · rename_i hd; exact ri.old t hd
      · rename_i j hd
        refine ri.got j t hd ?_
        obtain ⟨o', ho', e, he, hb, hon⟩ := Region.waitsFor_spec (g4 t ht j hd)
        have : o' = o := Option.some.inj (ho'.symm.trans ho)
        subst this
        rw [← hon]
        exact hdeps e he hb
    have hcnt : cntU n (listed.setIfInBounds i true) = k := by
      have := countP_one (fun j => !listed.getD j false) (fun j => !(listed.setIfInBounds i true).getD j false) i (by simpa using getD_both hun) (by
        have hlt : i < listed.size := by rw [inv.size]; omega
        simp [hlt]) (fun j hj => by simp only [getD_set_ne false (Ne.symm hj)]) n hin
      unfold cntU at hc ⊢
      omega
    have hself : (listed.setIfInBounds i true).getD i false = true := by
      have hlt : i < listed.size := by rw [inv.size]; omega
      simp [hlt]
    rcases g3 with ⟨gd, rfl⟩ | ⟨d, g3, g3', g3''⟩
    · have hj := ri.jn
      rw [getD_both hun, if_neg (by simp)] at hj
      have hs := hq o ho (fun t => a.eval (.tmp t)) w hj hfacts
      rw [← ha] at hs
      refine wpOp_of_list ho (fun e a w he h => by cases e <;> first | exact absurd rfl he | exact h) (fun a' w' h => ?_) hs
      obtain ⟨v, rfl, -, hj1, hx⟩ := h
      rw [gd]
      refine ih _ _ _ (inv.set hi hin) hcnt ⟨ri.size, ri.defers, by rw [if_pos hself]; exact hj1, ri.old, fun j t ht hl => ?_⟩
      have hji : i ≠ j := fun e => by
        subst e
        have := (dstIdx_some ht).2
        rw [ho] at this
        simp [gd] at this
      rw [getD_set_ne false hji] at hl
      exact hR _ _ _ _ (ri.got j t ht hl) hx
    · have hs : wpList P ops (stepQ2 (InvAct a0.tmps.size a0.defers (fun t => a.eval (.tmp t))) o.dst (R i) (fun w' => (if (listed.setIfInBounds i true).getD q false = true then J1 w' else J0 w') ∧ Mv w w')) [o] (InvAct a0.tmps.size a0.defers (fun t => a.eval (.tmp t))) w := by
        by_cases giq : i = q
        · subst giq
          have hj := ri.jn
          rw [getD_both hun, if_neg (by simp)] at hj
          simp only [hself, if_true]
          exact hq o ho (fun t => a.eval (.tmp t)) w hj hfacts
        · simp only [getD_set_ne false giq]
          exact hstep i o hin giq ho (fun t => a.eval (.tmp t)) w (listed.getD q false) (fun hb hip => by
            have := pre_listed hpre inv hb _ i rfl hip
            rw [getD_both hun] at this
            cases this) ri.jn hfacts
      rw [← ha] at hs
      refine wpOp_of_list ho (fun e a w he h => by cases e <;> first | exact absurd rfl he | exact h) (fun a' w' h => ?_) hs
      obtain ⟨v, rfl, hv, hj1, hx⟩ := h
      rw [g3]
      have hsz : d < a.tmps.size := by rw [ri.size]; exact g3'
      refine ih _ _ _ (inv.set hi hin) hcnt ⟨by rw [putA_size]; exact ri.size, by rw [putA_defers]; exact ri.defers, hj1, fun t ht => ?_, fun j t ht hl => ?_⟩
      · rw [putA_ne _ _ _ _ (fun e => by subst e; rw [ht] at g3''; cases g3'')]
        exact ri.old t ht
      · by_cases hdt : d = t
        · subst hdt
          obtain rfl : j = i := Option.some.inj (ht.symm.trans g3'')
          rw [putA_same _ _ _ hsz]
          exact hv
        · rw [putA_ne _ _ _ _ hdt]
          have hji : i ≠ j := fun e => by
            subst e
            have := (dstIdx_some ht).2
            rw [ho] at this
            exact hdt (Option.some.inj (g3.symm.trans this))
          rw [getD_set_ne false hji] at hl
          exact hR _ _ _ _ (ri.got j t ht hl) hx

/-- how an operation of the head stands to the store: bound to come ahead of it, free, or the store itself (a move: one with a slot: an append) -/
inductive HF where
  | early (r : Value → World → Prop)
  | late (r : Value → World → Prop)
  | store
  | move (r : Value → World → Prop)
def HF.fact : HF → Value → World → Prop
  | .early r => r
  | .late r => r
  | .store => fun _ _ => True
  | .move r => r
def HF.isEarly : HF → Bool
  | .early _ => true
  | _ => false
def HF.isStore : HF → Bool
  | .store => true
  | .move _ => true
  | _ => false
def preOf (Fs : List HF) : List Nat := (List.range Fs.length).filter fun i => (Fs[i]?.map HF.isEarly).getD false
def nthF (Fs : List HF) (i : Nat) : Value → World → Prop := ((Fs[i]?).map HF.fact).getD fun _ _ => True
def storeB (Fs : List HF) (q : Nat) : Bool := (List.range Fs.length).all fun i => (Fs[i]?.map HF.isStore).getD false == decide (i = q)

def stepsAll2 (P : Program) (ops : Array Oper) (n : Nat) (a0 : Act) (J0 J1 : World → Prop) (Mv : World → World → Prop) (R : Nat → Value → World → Prop) : List Oper → List HF → Prop
  | o :: l, .early r :: rs => (∀ (x : Nat → Value) (w : World), J0 w → slotFacts ops n a0 R x w (o.looksAt ops) → wpList P ops (stepQ2 (InvAct a0.tmps.size a0.defers x) o.dst r (fun w' => J0 w' ∧ Mv w w')) [o] (InvAct a0.tmps.size a0.defers x) w) ∧ stepsAll2 P ops n a0 J0 J1 Mv R l rs
  | o :: l, .late r :: rs => (∀ (x : Nat → Value) (w : World) (b : Bool), (if b = true then J1 w else J0 w) → slotFacts ops n a0 R x w (o.looksAt ops) → wpList P ops (stepQ2 (InvAct a0.tmps.size a0.defers x) o.dst r (fun w' => (if b = true then J1 w' else J0 w') ∧ Mv w w')) [o] (InvAct a0.tmps.size a0.defers x) w) ∧ stepsAll2 P ops n a0 J0 J1 Mv R l rs
  | o :: l, .store :: rs => (∀ (x : Nat → Value) (w : World), J0 w → slotFacts ops n a0 R x w (o.looksAt ops) → wpList P ops (stepQ2 (InvAct a0.tmps.size a0.defers x) o.dst (fun _ _ => True) (fun w' => J1 w' ∧ Mv w w')) [o] (InvAct a0.tmps.size a0.defers x) w) ∧ stepsAll2 P ops n a0 J0 J1 Mv R l rs
  | o :: l, .move r :: rs => (∀ (x : Nat → Value) (w : World), J0 w → slotFacts ops n a0 R x w (o.looksAt ops) → wpList P ops (stepQ2 (InvAct a0.tmps.size a0.defers x) o.dst r (fun w' => J1 w' ∧ Mv w w')) [o] (InvAct a0.tmps.size a0.defers x) w) ∧ stepsAll2 P ops n a0 J0 J1 Mv R l rs
  | [], [] => True
  | _, _ => False

def stepAt2 (P : Program) (ops : Array Oper) (n : Nat) (a0 : Act) (J0 J1 : World → Prop) (Mv : World → World → Prop) (R : Nat → Value → World → Prop) (o : Oper) : HF → Prop
  | .early r => ∀ (x : Nat → Value) (w : World), J0 w → slotFacts ops n a0 R x w (o.looksAt ops) → wpList P ops (stepQ2 (InvAct a0.tmps.size a0.defers x) o.dst r (fun w' => J0 w' ∧ Mv w w')) [o] (InvAct a0.tmps.size a0.defers x) w
  | .late r => ∀ (x : Nat → Value) (w : World) (b : Bool), (if b = true then J1 w else J0 w) → slotFacts ops n a0 R x w (o.looksAt ops) → wpList P ops (stepQ2 (InvAct a0.tmps.size a0.defers x) o.dst r (fun w' => (if b = true then J1 w' else J0 w') ∧ Mv w w')) [o] (InvAct a0.tmps.size a0.defers x) w
  | .store => ∀ (x : Nat → Value) (w : World), J0 w → slotFacts ops n a0 R x w (o.looksAt ops) → wpList P ops (stepQ2 (InvAct a0.tmps.size a0.defers x) o.dst (fun _ _ => True) (fun w' => J1 w' ∧ Mv w w')) [o] (InvAct a0.tmps.size a0.defers x) w
  | .move r => ∀ (x : Nat → Value) (w : World), J0 w → slotFacts ops n a0 R x w (o.looksAt ops) → wpList P ops (stepQ2 (InvAct a0.tmps.size a0.defers x) o.dst r (fun w' => J1 w' ∧ Mv w w')) [o] (InvAct a0.tmps.size a0.defers x) w
theorem stepsAll2_at : ∀ (l : List Oper) (rs : List HF), stepsAll2 P ops n a0 J0 J1 Mv R l rs → ∀ (i : Nat) (o : Oper), l[i]? = some o → ∃ f, rs[i]? = some f ∧ stepAt2 P ops n a0 J0 J1 Mv R o f
  | [], _, _, i, o, ho => by simp at ho
  | p :: l, [], h, _, _, _ => h.elim
  | p :: l, r :: rs, h, 0, o, ho => by
    obtain rfl : p = o := by simpa using ho
    refine ⟨r, rfl, ?_⟩
    cases r <;> exact h.1
  | p :: l, r :: rs, h, i + 1, o, ho => by
    have h2 : stepsAll2 P ops n a0 J0 J1 Mv R l rs := by cases r <;> exact h.2
    obtain ⟨f, hf, hs⟩ := stepsAll2_at l rs h2 i o (by simpa using ho)
    exact ⟨f, by simpa using hf, hs⟩

/-- the law as it is used -/
theorem wp_region_facts2 {id : Nat} {w0 : World} {l : List Oper} (Fs : List HF) (q : Nat) (J0 J1 : World → Prop) (Mv : World → World → Prop) (hm : P.follows .mixedOrders = true) (hB : headB2 l.toArray Fs.length a0.tmps.size q (preOf Fs) = true) (hst : storeB Fs q = true)
    (hR : ∀ f ∈ Fs, ∀ v w w', f.fact v w → Mv w w' → f.fact v w') (hJ : J0 w0.drew)
    (hstep : stepsAll2 P l.toArray Fs.length a0 J0 J1 Mv (nthF Fs) (l.take Fs.length) Fs)
    (hend : ∀ (x : Nat → Value) (w : World), J1 w → slotFacts l.toArray Fs.length a0 (nthF Fs) x w ((l.take Fs.length).filterMap (·.dst)) → wpList P l.toArray Q (l.drop Fs.length) (putAll a0 x ((l.take Fs.length).filterMap (·.dst))) w) :
    (Code.region id l.toArray true).wp P Q a0 w0 := by
  refine wp_region_any hm ?_
  obtain ⟨h1, -, -, -, -, hqn, -⟩ := headB2_spec hB
  have hrep : cntU Fs.length (Array.replicate l.toArray.size false) = Fs.length := by
    unfold cntU
    rw [List.countP_eq_length.2 (fun i _ => by rw [getD_replicate_false]; rfl)]
    exact List.length_range
  have hat : ∀ i o, i < Fs.length → l[i]? = some o → ∃ f, Fs[i]? = some f ∧ stepAt2 P l.toArray Fs.length a0 J0 J1 Mv (nthF Fs) o f := fun i o hi ho =>
    stepsAll2_at _ _ hstep i o (by rw [List.getElem?_take_of_lt hi]; exact ho)
  have hstore : ∀ i f, Fs[i]? = some f → (f.isStore = true ↔ i = q) := fun i f hf => by
    have hi := (List.getElem?_eq_some_iff.1 hf).1
    have := List.all_eq_true.1 hst i (List.mem_range.2 hi)
    rw [hf] at this
    simp only [Option.map_some, Option.getD_some, beq_iff_eq] at this
    rw [this]
    simp
  have := wpAny_inv2 (P := P) (Q := Q) (J0 := J0) (J1 := J1) (Mv := Mv) (R := nthF Fs) hB (fun i v w w' h he => by
      unfold nthF at h ⊢
      cases hf : Fs[i]? with
      | none => simp
      | some f =>
        rw [hf] at h
        exact hR f (List.mem_of_getElem? hf) v w w' h he)
    (fun i o hi hiq ho x w b hb hj hfacts => by
      obtain ⟨f, hf, hs⟩ := hat i o hi (by simpa using ho)
      have hr : nthF Fs i = f.fact := by unfold nthF; rw [hf]; rfl
      rw [hr]
      cases f with
      | early r =>
        have hb' : b = false := by
          cases b with
          | false => rfl
          | true =>
            refine absurd ?_ (hb rfl)
            unfold preOf
            rw [List.mem_filter]
            exact ⟨List.mem_range.2 hi, by rw [hf]; rfl⟩
        subst hb'
        exact hs x w hj (slotFacts_of _ hfacts)
      | late r => exact hs x w b hj (slotFacts_of _ hfacts)
      | store => exact absurd ((hstore i _ hf).1 rfl) hiq
      | move r => exact absurd ((hstore i _ hf).1 rfl) hiq)
    (fun o ho x w hj hfacts => by
      obtain ⟨f, hf, hs⟩ := hat q o hqn (by simpa using ho)
      have := (hstore q f hf).2 rfl
      have hr : nthF Fs q = f.fact := by unfold nthF; rw [hf]; rfl
      rw [hr]
      cases f with
      | early r => cases this
      | late r => cases this
      | store => exact hs x w hj (slotFacts_of _ hfacts)
      | move r => exact hs x w hj (slotFacts_of _ hfacts))
    (fun x w hj h => by
      rw [show l.toArray.toList = l by simp, invAct_putAll (fun t ht => by have := h t; unfold slotFact at this; rw [ht] at this; exact this)]
      exact hend x w hj (slotFacts_of _ fun t _ => h t))
    Fs.length (Array.replicate l.toArray.size false) a0 { w0 with drawn := w0.drawn + 1 }
    ⟨by simp, fun j oj _ hl => (by rw [getD_replicate_false] at hl; cases hl), fun t _ ht => getD_in (by simpa using ht) (getD_replicate_false _ _)⟩ hrep
    ⟨rfl, rfl, by rw [getD_replicate_false]; exact hJ, fun _ _ => rfl, fun j d _ hl => (by rw [getD_replicate_false] at hl; cases hl)⟩
  rw [show Fs.length + (l.toArray.size - Fs.length) = l.toArray.size by omega] at this
  exact this
end
end Go.Proofs.YtdikcgmdmcfpfaaGreat
namespace Go.Proofs.YtdikcgmdmcfpfaaGreat
open Go.RowKit

section
variable {P : Program} {ops : Array Oper} {Q : Exit → Act → World → Prop}
variable {n N q : Nat} {a0 : Act} {J0 J1 : World → Prop} {R : Nat → Value → World → Prop} {Mn Mq : World → World → Prop} {pre : List Nat}

theorem wpAny_inv3 (hB : headB2 ops n a0.tmps.size q pre = true) (hR : ∀ i v w w', R i v w → Mn w w' → R i v w') (hRq : ∀ i v w w', i ≠ q → R i v w → Mq w w' → R i v w')
    (hstep : ∀ i o, i < n → i ≠ q → ops[i]? = some o → ∀ (x : Nat → Value) (w : World) (b : Bool), (b = true → i ∉ pre) → (if b = true then J1 w else J0 w) → (∀ t ∈ o.looksAt ops, slotFact ops n a0 R x w t) →
      wpList P ops (stepQ2 (InvAct a0.tmps.size a0.defers x) o.dst (R i) (fun w' => (if b = true then J1 w' else J0 w') ∧ Mn w w')) [o] (InvAct a0.tmps.size a0.defers x) w)
    (hq : ∀ o, ops[q]? = some o → ∀ (x : Nat → Value) (w : World), J0 w → (∀ t ∈ o.looksAt ops, slotFact ops n a0 R x w t) →
      wpList P ops (stepQ2 (InvAct a0.tmps.size a0.defers x) o.dst (R q) (fun w' => J1 w' ∧ Mq w w')) [o] (InvAct a0.tmps.size a0.defers x) w)
    (hend : ∀ (x : Nat → Value) (w : World), J1 w → (∀ t, slotFact ops n a0 R x w t) → wpList P ops Q (ops.toList.drop n) (InvAct a0.tmps.size a0.defers x) w) :
    ∀ (k : Nat) (listed : Array Bool) (a : Act) (w : World), HeadInv .any ops n listed → cntU n listed = k → RInv2 ops n q a0 J0 J1 R listed a w → wpAny P .any ops Q (k + (ops.size - n)) listed a w := by
  obtain ⟨h1, h2, h3, h4, h5, hqn, hpre⟩ := headB2_spec hB
  intro k
  induction k with
  | zero =>
    intro listed a w inv hc ri
    have hall : ∀ i, i < n → listed.getD i false = true := fun i hi => by
      have := List.countP_eq_zero.1 hc i (List.mem_range.2 hi)
      simpa using this
    have hcan : listed = canonL n ops.size := by
      apply Array.ext_getElem?
      intro i
      by_cases hi : i < ops.size
      · have hil : i < listed.size := by rw [inv.size]; exact hi
        by_cases hin : i < n
        · have := hall i hin
          simp [hil] at this
          simp [canonL, hi, hin, hil, this]
        · have := inv.tail i (by omega) hi
          simp [hil] at this
          simp [canonL, hi, hin, hil, this]
      · have hil : ¬ i < listed.size := by rw [inv.size]; exact hi
        simp [canonL, hi, hil]
    have hlen : (ops.toList.drop n).length = ops.size - n := by simp
    have ha := invAct_eq a
    rw [ri.size, ri.defers] at ha
    have hj := ri.jn
    rw [if_pos (hall q hqn)] at hj
    have hw : wpList P ops Q (ops.toList.drop n) a w := by
      rw [ha]
      refine hend _ w hj fun t => ?_
      unfold slotFact
      split
      · rename_i hd; exact ri.old t hd
      · rename_i j hd; exact ri.got j t hd (hall j (dstIdx_some hd).1)
    have := wpAny_of_seq (md := .any) (Q' := Q) (ops.toList.drop n) n listed a w (fun j => by simp [List.getElem?_drop]) (by rw [hlen, hcan]; exact h5) hw
    rw [hlen] at this
    rw [Nat.zero_add]
    exact this
  | succ k ih =>
    intro listed a w inv hc ri
    have hex : ∃ i, i < n ∧ listed.getD i false = false := by
      have : 0 < cntU n listed := by omega
      obtain ⟨i, hi, hl⟩ := List.countP_pos_iff.1 this
      exact ⟨i, List.mem_range.1 hi, by simpa using hl⟩
    obtain ⟨i0, hi0, hl0⟩ := hex
    obtain ⟨jr, hjr, hjr2⟩ := least_ready2 hB inv i0 hi0 hl0
    rw [show k + 1 + (ops.size - n) = (k + (ops.size - n)) + 1 by omega]
    refine ⟨(fun h0 => (by rw [h0] at hjr2; cases hjr2)), fun i hi => ?_⟩
    have hin : i < n := by
      rcases Nat.lt_or_ge i n with h | h
      · exact h
      · exact absurd hi (tail_waits h2 h3 h1 inv _ i0 rfl hi0 (getD_in (by rw [inv.size]; omega) hl0) i h)
    obtain ⟨hun, o, ho, hdeps⟩ := mem_ready.1 hi
    obtain ⟨g1, g2, g3, g4⟩ := headOp2_spec (h4 i o hin ho)
    have ha := invAct_eq a
    rw [ri.size, ri.defers] at ha
    have hfacts : ∀ t ∈ o.looksAt ops, slotFact ops n a0 R (fun t => a.eval (.tmp t)) w t := fun t ht => by
      unfold slotFact
      split
      · rename_i hd; exact ri.old t hd
      · rename_i j hd
        refine ri.got j t hd ?_
        obtain ⟨o', ho', e, he, hb, hon⟩ := Region.waitsFor_spec (g4 t ht j hd)
        have : o' = o := Option.some.inj (ho'.symm.trans ho)
        subst this
        rw [← hon]
        exact hdeps e he hb
    have hcnt : cntU n (listed.setIfInBounds i true) = k := by
      have := countP_one (fun j => !listed.getD j false) (fun j => !(listed.setIfInBounds i true).getD j false) i (by simpa using getD_both hun) (by
        have hlt : i < listed.size := by rw [inv.size]; omega
        simp [hlt]) (fun j hj => by simp only [getD_set_ne false (Ne.symm hj)]) n hin
      unfold cntU at hc ⊢
      omega
    have hself : (listed.setIfInBounds i true).getD i false = true := by
      have hlt : i < listed.size := by rw [inv.size]; omega
      simp [hlt]
    rcases g3 with ⟨gd, rfl⟩ | ⟨d, g3, g3', g3''⟩
    · have hj := ri.jn
      rw [getD_both hun, if_neg (by simp)] at hj
      have hs := hq o ho (fun t => a.eval (.tmp t)) w hj hfacts
      rw [← ha] at hs
      refine wpOp_of_list ho (fun e a w he h => by cases e <;> first | exact absurd rfl he | exact h) (fun a' w' h => ?_) hs
      obtain ⟨v, rfl, -, hj1, hx⟩ := h
      rw [gd]
      refine ih _ _ _ (inv.set hi hin) hcnt ⟨ri.size, ri.defers, by rw [if_pos hself]; exact hj1, ri.old, fun j t ht hl => ?_⟩
      have hji : i ≠ j := fun e => by
        subst e
        have := (dstIdx_some ht).2
        rw [ho] at this
        simp [gd] at this
      rw [getD_set_ne false hji] at hl
      exact hRq _ _ _ _ (Ne.symm hji) (ri.got j t ht hl) hx
    · obtain ⟨M, hM, hs⟩ : ∃ M : World → Prop, (∀ w', M w' → (if (listed.setIfInBounds i true).getD q false = true then J1 w' else J0 w') ∧ (i ≠ q → Mn w w') ∧ (i = q → Mq w w')) ∧
          wpList P ops (stepQ2 (InvAct a0.tmps.size a0.defers (fun t => a.eval (.tmp t))) o.dst (R i) M) [o] (InvAct a0.tmps.size a0.defers (fun t => a.eval (.tmp t))) w := by
        by_cases giq : i = q
        · subst giq
          have hj := ri.jn
          rw [getD_both hun, if_neg (by simp)] at hj
          simp only [hself, if_true]
          exact ⟨_, fun w' h => ⟨h.1, fun h2 => absurd rfl h2, fun _ => h.2⟩, hq o ho (fun t => a.eval (.tmp t)) w hj hfacts⟩
        · simp only [getD_set_ne false giq]
          exact ⟨_, fun w' h => ⟨h.1, fun _ => h.2, fun h2 => absurd h2 giq⟩, hstep i o hin giq ho (fun t => a.eval (.tmp t)) w (listed.getD q false) (fun hb hip => by
            have := pre_listed hpre inv hb _ i rfl hip
            rw [getD_both hun] at this
            cases this) ri.jn hfacts⟩
      rw [← ha] at hs
      refine wpOp_of_list ho (fun e a w he h => by cases e <;> first | exact absurd rfl he | exact h) (fun a' w' h => ?_) hs
      obtain ⟨v, rfl, hv, hm⟩ := h
      obtain ⟨hj1, hxn, hxq⟩ := hM _ hm
      rw [g3]
      have hsz : d < a.tmps.size := by rw [ri.size]; exact g3'
      refine ih _ _ _ (inv.set hi hin) hcnt ⟨by rw [putA_size]; exact ri.size, by rw [putA_defers]; exact ri.defers, hj1, fun t ht => ?_, fun j t ht hl => ?_⟩
      · rw [putA_ne _ _ _ _ (fun e => by subst e; rw [ht] at g3''; cases g3'')]
        exact ri.old t ht
      · by_cases hdt : d = t
        · subst hdt
          obtain rfl : j = i := Option.some.inj (ht.symm.trans g3'')
          rw [putA_same _ _ _ hsz]
          exact hv
        · rw [putA_ne _ _ _ _ hdt]
          have hji : i ≠ j := fun e => by
            subst e
            have := (dstIdx_some ht).2
            rw [ho] at this
            exact hdt (Option.some.inj (g3.symm.trans this))
          rw [getD_set_ne false hji] at hl
          by_cases giq : i = q
          · exact hRq _ _ _ _ (fun e => hji (giq.trans e.symm)) (ri.got j t ht hl) (hxq giq)
          · exact hR _ _ _ _ (ri.got j t ht hl) (hxn giq)

def stepsAll3 (P : Program) (ops : Array Oper) (n : Nat) (a0 : Act) (J0 J1 : World → Prop) (Mn Mq : World → World → Prop) (R : Nat → Value → World → Prop) : List Oper → List HF → Prop
  | o :: l, .early r :: rs => (∀ (x : Nat → Value) (w : World), J0 w → slotFacts ops n a0 R x w (o.looksAt ops) → wpList P ops (stepQ2 (InvAct a0.tmps.size a0.defers x) o.dst r (fun w' => J0 w' ∧ Mn w w')) [o] (InvAct a0.tmps.size a0.defers x) w) ∧ stepsAll3 P ops n a0 J0 J1 Mn Mq R l rs
  | o :: l, .late r :: rs => (∀ (x : Nat → Value) (w : World) (b : Bool), (if b = true then J1 w else J0 w) → slotFacts ops n a0 R x w (o.looksAt ops) → wpList P ops (stepQ2 (InvAct a0.tmps.size a0.defers x) o.dst r (fun w' => (if b = true then J1 w' else J0 w') ∧ Mn w w')) [o] (InvAct a0.tmps.size a0.defers x) w) ∧ stepsAll3 P ops n a0 J0 J1 Mn Mq R l rs
  | o :: l, .store :: rs => (∀ (x : Nat → Value) (w : World), J0 w → slotFacts ops n a0 R x w (o.looksAt ops) → wpList P ops (stepQ2 (InvAct a0.tmps.size a0.defers x) o.dst (fun _ _ => True) (fun w' => J1 w' ∧ Mq w w')) [o] (InvAct a0.tmps.size a0.defers x) w) ∧ stepsAll3 P ops n a0 J0 J1 Mn Mq R l rs
  | o :: l, .move r :: rs => (∀ (x : Nat → Value) (w : World), J0 w → slotFacts ops n a0 R x w (o.looksAt ops) → wpList P ops (stepQ2 (InvAct a0.tmps.size a0.defers x) o.dst r (fun w' => J1 w' ∧ Mq w w')) [o] (InvAct a0.tmps.size a0.defers x) w) ∧ stepsAll3 P ops n a0 J0 J1 Mn Mq R l rs
  | [], [] => True
  | _, _ => False

def stepAt3 (P : Program) (ops : Array Oper) (n : Nat) (a0 : Act) (J0 J1 : World → Prop) (Mn Mq : World → World → Prop) (R : Nat → Value → World → Prop) (o : Oper) : HF → Prop
  | .early r => ∀ (x : Nat → Value) (w : World), J0 w → slotFacts ops n a0 R x w (o.looksAt ops) → wpList P ops (stepQ2 (InvAct a0.tmps.size a0.defers x) o.dst r (fun w' => J0 w' ∧ Mn w w')) [o] (InvAct a0.tmps.size a0.defers x) w
  | .late r => ∀ (x : Nat → Value) (w : World) (b : Bool), (if b = true then J1 w else J0 w) → slotFacts ops n a0 R x w (o.looksAt ops) → wpList P ops (stepQ2 (InvAct a0.tmps.size a0.defers x) o.dst r (fun w' => (if b = true then J1 w' else J0 w') ∧ Mn w w')) [o] (InvAct a0.tmps.size a0.defers x) w
  | .store => ∀ (x : Nat → Value) (w : World), J0 w → slotFacts ops n a0 R x w (o.looksAt ops) → wpList P ops (stepQ2 (InvAct a0.tmps.size a0.defers x) o.dst (fun _ _ => True) (fun w' => J1 w' ∧ Mq w w')) [o] (InvAct a0.tmps.size a0.defers x) w
  | .move r => ∀ (x : Nat → Value) (w : World), J0 w → slotFacts ops n a0 R x w (o.looksAt ops) → wpList P ops (stepQ2 (InvAct a0.tmps.size a0.defers x) o.dst r (fun w' => J1 w' ∧ Mq w w')) [o] (InvAct a0.tmps.size a0.defers x) w
theorem stepsAll3_at : ∀ (l : List Oper) (rs : List HF), stepsAll3 P ops n a0 J0 J1 Mn Mq R l rs → ∀ (i : Nat) (o : Oper), l[i]? = some o → ∃ f, rs[i]? = some f ∧ stepAt3 P ops n a0 J0 J1 Mn Mq R o f
  | [], _, _, i, o, ho => by simp at ho
  | p :: l, [], h, _, _, _ => h.elim
  | p :: l, r :: rs, h, 0, o, ho => by
    obtain rfl : p = o := by simpa using ho
    refine ⟨r, rfl, ?_⟩
    cases r <;> exact h.1
  | p :: l, r :: rs, h, i + 1, o, ho => by
    have h2 : stepsAll3 P ops n a0 J0 J1 Mn Mq R l rs := by cases r <;> exact h.2
    obtain ⟨f, hf, hs⟩ := stepsAll3_at l rs h2 i o (by simpa using ho)
    exact ⟨f, by simpa using hf, hs⟩

/-- the law as it is used -/
theorem wp_region_facts3 {id : Nat} {w0 : World} {l : List Oper} (Fs : List HF) (q : Nat) (J0 J1 : World → Prop) (Mn Mq : World → World → Prop) (hm : P.follows .mixedOrders = true) (hB : headB2 l.toArray Fs.length a0.tmps.size q (preOf Fs) = true) (hst : storeB Fs q = true)
    (hR : ∀ f ∈ Fs, ∀ v w w', f.fact v w → Mn w w' → f.fact v w') (hRq : ∀ f ∈ Fs, f.isStore = false → ∀ v w w', f.fact v w → Mq w w' → f.fact v w') (hJ : J0 w0.drew)
    (hstep : stepsAll3 P l.toArray Fs.length a0 J0 J1 Mn Mq (nthF Fs) (l.take Fs.length) Fs)
    (hend : ∀ (x : Nat → Value) (w : World), J1 w → slotFacts l.toArray Fs.length a0 (nthF Fs) x w ((l.take Fs.length).filterMap (·.dst)) → wpList P l.toArray Q (l.drop Fs.length) (putAll a0 x ((l.take Fs.length).filterMap (·.dst))) w) :
    (Code.region id l.toArray true).wp P Q a0 w0 := by
  refine wp_region_any hm ?_
  obtain ⟨h1, -, -, -, -, hqn, -⟩ := headB2_spec hB
  have hrep : cntU Fs.length (Array.replicate l.toArray.size false) = Fs.length := by
    unfold cntU
    rw [List.countP_eq_length.2 (fun i _ => by rw [getD_replicate_false]; rfl)]
    exact List.length_range
  have hat : ∀ i o, i < Fs.length → l[i]? = some o → ∃ f, Fs[i]? = some f ∧ stepAt3 P l.toArray Fs.length a0 J0 J1 Mn Mq (nthF Fs) o f := fun i o hi ho =>
    stepsAll3_at _ _ hstep i o (by rw [List.getElem?_take_of_lt hi]; exact ho)
  have hstore : ∀ i f, Fs[i]? = some f → (f.isStore = true ↔ i = q) := fun i f hf => by
    have hi := (List.getElem?_eq_some_iff.1 hf).1
    have := List.all_eq_true.1 hst i (List.mem_range.2 hi)
    rw [hf] at this
    simp only [Option.map_some, Option.getD_some, beq_iff_eq] at this
    rw [this]
    simp
  have := wpAny_inv3 (P := P) (Q := Q) (J0 := J0) (J1 := J1) (Mn := Mn) (Mq := Mq) (R := nthF Fs) hB (fun i v w w' h he => by
      unfold nthF at h ⊢
      cases hf : Fs[i]? with
      | none => simp
      | some f =>
        rw [hf] at h
        exact hR f (List.mem_of_getElem? hf) v w w' h he)
    (fun i v w w' hiq h he => by
      unfold nthF at h ⊢
      cases hf : Fs[i]? with
      | none => simp
      | some f =>
        rw [hf] at h
        refine hRq f (List.mem_of_getElem? hf) ?_ v w w' h he
        cases hs : f.isStore with
        | false => rfl
        | true => exact absurd ((hstore i f hf).1 hs) hiq)
    (fun i o hi hiq ho x w b hb hj hfacts => by
      obtain ⟨f, hf, hs⟩ := hat i o hi (by simpa using ho)
      have hr : nthF Fs i = f.fact := by unfold nthF; rw [hf]; rfl
      rw [hr]
      cases f with
      | early r =>
        have hb' : b = false := by
          cases b with
          | false => rfl
          | true =>
            refine absurd ?_ (hb rfl)
            unfold preOf
            rw [List.mem_filter]
            exact ⟨List.mem_range.2 hi, by rw [hf]; rfl⟩
        subst hb'
        exact hs x w hj (slotFacts_of _ hfacts)
      | late r => exact hs x w b hj (slotFacts_of _ hfacts)
      | store => exact absurd ((hstore i _ hf).1 rfl) hiq
      | move r => exact absurd ((hstore i _ hf).1 rfl) hiq)
    (fun o ho x w hj hfacts => by
      obtain ⟨f, hf, hs⟩ := hat q o hqn (by simpa using ho)
      have := (hstore q f hf).2 rfl
      have hr : nthF Fs q = f.fact := by unfold nthF; rw [hf]; rfl
      rw [hr]
      cases f with
      | early r => cases this
      | late r => cases this
      | store => exact hs x w hj (slotFacts_of _ hfacts)
      | move r => exact hs x w hj (slotFacts_of _ hfacts))
    (fun x w hj h => by
      rw [show l.toArray.toList = l by simp, invAct_putAll (fun t ht => by have := h t; unfold slotFact at this; rw [ht] at this; exact this)]
      exact hend x w hj (slotFacts_of _ fun t _ => h t))
    Fs.length (Array.replicate l.toArray.size false) a0 { w0 with drawn := w0.drawn + 1 }
    ⟨by simp, fun j oj _ hl => (by rw [getD_replicate_false] at hl; cases hl), fun t _ ht => getD_in (by simpa using ht) (getD_replicate_false _ _)⟩ hrep
    ⟨rfl, rfl, by rw [getD_replicate_false]; exact hJ, fun _ _ => rfl, fun j d _ hl => (by rw [getD_replicate_false] at hl; cases hl)⟩
  rw [show Fs.length + (l.toArray.size - Fs.length) = l.toArray.size by omega] at this
  exact this
end
end Go.Proofs.YtdikcgmdmcfpfaaGreat
namespace Go.Proofs.YtdikcgmdmcfpfaaGreat
open Go.RowKit Go.Shelf

/-- where the entries' own slices lie: not in the row itself, nor in block g -/
def SE (base g : Nat) (v : Value) (b : Nat) : Prop := base ≤ b ∧ b ≠ g ∧ ¬ ownBlk v b
/-- a row of entries of the call's own -/
def RowE (w : World) (base g : Nat) (v : Value) (l : List Entry) : Prop := OwnL entryT 37 w base (SE base g v) v l

theorem Own.apart {w : World} {base T T' k n g : Nat} {v : Value} {xs ys tl : List Value} (h : Own w base T k v n xs) (hr : RowIs w g T' ys tl) (hT : T ≠ T') : ¬ ownBlk v g := by
  rintro ⟨g', n', c, hv, hc, rfl⟩
  rcases h.2 with ⟨A, rfl, -⟩ | ⟨g', cap, cur, rfl, hb, hg, -⟩
  · cases hv; omega
  · cases hv
    unfold RowIs at hr
    rw [hg] at hr
    injection hr with e
    injection e with e1 e2 e3
    exact hT e2
theorem RowE.own {w : World} {base g : Nat} {v : Value} {l : List Entry} (h : RowE w base g v l) : ∃ xs, Own w base 37 7 v l.length xs := OwnL.own h
theorem RowE.form {w : World} {base g : Nat} {v : Value} {l : List Entry} (h : RowE w base g v l) : ∃ A c, v = .slice A l.length c ∧ l.length ≤ c ∧ c ≤ 9223372036854775807 := OwnL.form h
theorem RowE.nil (w : World) (base g : Nat) (A : Option Addr) : RowE w base g (.slice A 0 0) [] := OwnL.nil w A
theorem RowE.ext {w w' : World} {base g : Nat} {v : Value} {l : List Entry} (h : RowE w base g v l) (he : Ext w w') : RowE w' base g v l := OwnL.ext h he
theorem RowE.base_le {w : World} {base g : Nat} {v : Value} {l : List Entry} (h : RowE w base g v l) {b : Nat} (hb : ownBlk v b) : base ≤ b ∧ b < w.heap.size := OwnL.base_le h hb
/-- block g written: the entries stay -/
theorem RowE.set {w : World} {base g j T : Nat} {v u : Value} {l : List Entry} {ys tl : List Value} (h : RowE w base g v l) (hr : RowIs w g T ys tl) (hT : 37 ≠ T) : RowE (w.setCell ⟨g, j, none⟩ u) base g v l := by
  obtain ⟨xs, ho⟩ := h.own
  exact OwnL.keep h (fun b hb _ => Below.heap_setCell _ _ _ _ hb.2.1) fun b hb _ => Below.heap_setCell _ _ _ _ fun e => ho.apart hr hT (by have e2 : b = g := e; rw [← e2]; exact hb)
theorem RowE.keep {w w' : World} {base g : Nat} {v : Value} {l : List Entry} (h : RowE w base g v l) (hs : ∀ b, base ≤ b → b < w.heap.size → b ≠ g ∨ ownBlk v b → w'.heap[b]? = w.heap[b]?) : RowE w' base g v l :=
  OwnL.keep h (fun b hb hlt => hs b hb.1 hlt (.inl hb.2.1)) fun b hb hlt => hs b (OwnL.base_le h hb).1 hlt (.inr hb)
theorem EntNew.keep {w w' : World} {lo : Nat} {e : Entry} {v1 v2 v3 : Value} (h : EntNew w lo e v1 v2 v3) (hs : ∀ b, lo ≤ b → b < w.heap.size → w'.heap[b]? = w.heap[b]?) : EntNew w' lo e v1 v2 v3 :=
  ⟨h.seen.keep fun b hb hlt => hs b (h.seen.base_le hb).1 hlt, h.counts.keep fun b hb hlt => hs b (h.counts.base_le hb).1 hlt, h.items.keep (fun b hb hlt => hs b hb hlt) fun b hb hlt => hs b (h.items.base_le hb).1 hlt⟩
theorem EntNew.rd {w : World} {lo : Nat} {e : Entry} {v1 v2 v3 : Value} {S : Nat → Prop} (h : EntNew w lo e v1 v2 v3) (hS : ∀ b, b < w.heap.size → lo ≤ b → S b) : entryT.rd w S e (entL e v1 v2 v3) := by
  have h2 := h.at.mono (S' := S) (fun b hb h => hS b hb h)
  exact ⟨v1, v2, v3, rfl, h2.seen, h2.counts, h2.items⟩
theorem EntAt.rd {w : World} {e : Entry} {v1 v2 v3 : Value} {S S' : Nat → Prop} (h : EntAt w S e v1 v2 v3) (hS : ∀ b, b < w.heap.size → S b → S' b) : entryT.rd w S' e (entL e v1 v2 v3) := by
  have h2 := h.mono hS
  exact ⟨v1, v2, v3, rfl, h2.seen, h2.counts, h2.items⟩
theorem entL_one {w : World} {S : Nat → Prop} {e : Entry} {vs : List Value} (h : entryT.rd w S e vs) : ∀ u ∈ vs, u.oneCell' = true := entryT.one h

/-- an append of one entry -/
theorem RowE.snoc {W W' : World} {base g lo : Nat} {v v' : Value} {l : List Entry} {m : Entry} {u1 u2 u3 : Value} {vss : List (List Value)} (h1 : vss.length = l.length) (h2 : ∀ (i : Nat) x vs, l[i]? = some x → vss[i]? = some vs → entryT.rd W (SE base g v) x vs)
    (hn : EntNew W lo m u1 u2 u3) (hlo : ∀ b, ownBlk v b → b < lo) (hg : g < lo) (hbl : base ≤ lo) (h3 : Own W' base 37 7 v' (l.length + 1) (vss.flatten ++ entL m u1 u2 u3)) (hgr : Grew W W' v v') : RowE W' base g v' (l ++ [m]) := by
  refine OwnL.snoc (T := entryT) h1 (fun i x vs hi hv => ?_) ?_ h3
  · have a := entryT.mono (S' := fun b => SE base g v b ∧ b < W.heap.size) (h2 i x vs hi hv) (fun b hb h => ⟨h, hb⟩)
    have b := entryT.keep (w' := W') a (fun b hb hlt => hgr.same b hlt hb.1.2.2)
    exact entryT.mono b fun b _ hb => ⟨hb.1.1, hb.1.2.1, fun ho => by
      rcases hgr.blk b ho with h | h
      · exact hb.1.2.2 h
      · have := hb.2; omega⟩
  · have a : entryT.rd W (fun b => lo ≤ b ∧ b < W.heap.size) m (entL m u1 u2 u3) := hn.rd fun b hb h => ⟨h, hb⟩
    have b := entryT.keep (w' := W') a (fun b hb hlt => hgr.same b hlt fun ho => by have := hlo b ho; omega)
    exact entryT.mono b fun b _ hb => ⟨by omega, by omega, fun ho => by
      rcases hgr.blk b ho with h | h
      · have := hlo b h; omega
      · have := hb.2; omega⟩

/-- the moves of an append: all but the row stays -/
def MvR (v : Value) (w w' : World) : Prop := w.heap.size ≤ w'.heap.size ∧ ∀ b, b < w.heap.size → ¬ ownBlk v b → w'.heap[b]? = w.heap[b]?
/-- .. and no more -/
structure Moved (v : Value) (w w' : World) : Prop where
  os : w'.os = w.os
  tape : w'.tape = w.tape
  output : w'.output = w.output
  mv : MvR v w w'
theorem Grew.moved {w w1 w' : World} {v v' : Value} (he : Ext w w1) (h : Grew w1 w' v v') : Moved v w w' :=
  ⟨h.os.trans he.os, h.tape.trans he.tape, h.output.trans he.output, Nat.le_trans he.size h.size, fun b hb hn => (h.same b (Nat.lt_of_lt_of_le hb he.size) hn).trans (he.block b hb)⟩
theorem Moved.ext {w w1 w' : World} {v : Value} (h : Moved v w w1) (he : Ext w1 w') : Moved v w w' :=
  ⟨he.os.trans h.os, he.tape.trans h.tape, he.output.trans h.output, Nat.le_trans h.mv.1 he.size, fun b hb hn => (he.block b (Nat.lt_of_lt_of_le hb h.mv.1)).trans (h.mv.2 b hb hn)⟩
theorem Ext.moved {w0 w w' : World} {v : Value} (he : Ext w0 w) (h : Moved v w w') (hv : ∀ b, ownBlk v b → w0.heap.size ≤ b) : Ext w0 w' :=
  ⟨h.os.trans he.os, h.tape.trans he.tape, h.output.trans he.output, Nat.le_trans he.size h.mv.1, fun b hb => (h.mv.2 b (Nat.lt_of_lt_of_le hb he.size) (fun ho => by have := hv b ho; omega)).trans (he.block b hb)⟩
theorem EntNew.mvR {w w' : World} {lo : Nat} {e : Entry} {v1 v2 v3 v : Value} (h : EntNew w lo e v1 v2 v3) (m : MvR v w w') (hv : ∀ b, ownBlk v b → b < lo) : EntNew w' lo e v1 v2 v3 :=
  h.keep fun b hb hlt => m.2 b hlt fun ho => by have := hv b ho; omega
theorem RowIs.mvR {w w' : World} {g T : Nat} {xs tl : List Value} {v : Value} (h : RowIs w g T xs tl) (m : MvR v w w') (hv : ¬ ownBlk v g) : RowIs w' g T xs tl := h.keep (m.2 g h.lt hv)
theorem Own.mvR {w w' : World} {base T k n : Nat} {u v : Value} {xs : List Value} (h : Own w base T k u n xs) (m : MvR v w w') (hv : ∀ b, ownBlk u b → ¬ ownBlk v b) : Own w' base T k u n xs :=
  h.keep fun b hb hlt => m.2 b hlt (hv b hb)
/-- rows of two types are two rows -/
theorem Own.apart2 {w : World} {base base' T T' k k' n n' : Nat} {u v : Value} {xs ys : List Value} (h : Own w base T k u n xs) (h' : Own w base' T' k' v n' ys) (hT : T ≠ T') : ∀ b, ownBlk u b → ¬ ownBlk v b := by
  rintro b ⟨g, m, c, rfl, hc, rfl⟩ ⟨g', m', c', rfl, hc', rfl⟩
  rcases h.2 with ⟨A, e, -⟩ | ⟨g1, cap, cur, e, hb, hg, -⟩
  · cases e; omega
  · cases e
    rcases h'.2 with ⟨A, e, -⟩ | ⟨g1, cap', cur', e, hb', hg', -⟩
    · cases e; omega
    · cases e
      rw [hg] at hg'
      injection hg' with e
      injection e with e1 e2 e3
      exact hT e2

/-- a state's slices in memory of the call's own -/
structure StNew (w : World) (base : Nat) (s : State) (v1 v2 v3 : Value) : Prop where
  all : Own w base 25 2 v1 s.all.length (s.all.flatMap markC)
  entries : OwnL entryT 37 w base (fun b => base ≤ b ∧ ¬ ownBlk v2 b) v2 s.entries
  pruned : Own w base 9 1 v3 s.pruned.length (s.pruned.flatMap strC)
theorem StNew.ext {w w' : World} {base : Nat} {s : State} {v1 v2 v3 : Value} (h : StNew w base s v1 v2 v3) (he : Ext w w') : StNew w' base s v1 v2 v3 := ⟨h.all.ext he, h.entries.ext he, h.pruned.ext he⟩
theorem StNew.at {w : World} {base : Nat} {s : State} {v1 v2 v3 : Value} (h : StNew w base s v1 v2 v3) : StAt w (fun b => base ≤ b) s v1 v2 v3 :=
  ⟨own_slMark h.all, h.entries.sl (by decide) (fun _ _ h => h.1) (fun _ h _ => h), (OwnL.flat_iff (S := fun b => base ≤ b).2 h.pruned).sl (by decide) (fun _ _ h => h) (fun _ h _ => h)⟩
theorem StNew.lower {w : World} {base base' : Nat} {s : State} {v1 v2 v3 : Value} (h : StNew w base s v1 v2 v3) (hb : base' ≤ base) : StNew w base' s v1 v2 v3 :=
  ⟨h.all.lower hb, (h.entries.lower hb).mono fun b _ h => ⟨Nat.le_trans hb h.1, h.2⟩, h.pruned.lower hb⟩

/-- few enough of everything -/
structure SmallS (s : State) : Prop where
  all : s.all.length ≤ 549755813888
  entries : s.entries.length ≤ 549755813888
  pruned : s.pruned.length ≤ 549755813888
  each : ∀ e ∈ s.entries, SmallE e
end Go.Proofs.YtdikcgmdmcfpfaaGreat
namespace Go.Proofs.YtdikcgmdmcfpfaaGreat
open Go.RowKit Go.Shelf

def seenCntE (e : Entry) : Bool := e.counts.all fun c => !(c.1 != [] && ofM e.seen c.1 == 0)
def seenItE (e : Entry) : Bool := e.items.all fun it => it.2.all fun d => hasM e.seen d

theorem count_at' {S : Nat → Prop} {A : Option Addr} {n c : Nat} {l pre post : List Count} {m : Count} {w wr : World} (hv : Sl countT w S (.slice A n c) l) (h : Ext w wr) (hl : l = pre ++ m :: post) :
    ∃ b o, A = some ⟨b, o, none⟩ ∧ wr.cell? ⟨b, o + pre.length * 3, none⟩ = some (St m.1) ∧ wr.cell? ⟨b, o + pre.length * 3 + 1, none⟩ = some (U m.2.1) ∧ wr.cell? ⟨b, o + pre.length * 3 + 2, none⟩ = some (U m.2.2) := by
  obtain ⟨b, o, vs, c', e, -, rfl, hc⟩ := (hv.ext (by decide) h).at_ hl
  injection e with e1 e2 e3
  exact ⟨b, o, e1, hc 0 _ rfl, hc 1 _ rfl, hc 2 _ rfl⟩

set_option maxRecDepth 100000 in
set_option maxHeartbeats 1000000 in
theorem seenCntE_any {S : Nat → Prop} {e : Entry} {v1 v2 v3 : Value} {w : World} (h : EntAt w S e v1 v2 v3) :
    Calls Tryz.prog 120 #[entV e v1 v2 v3] w fun r w' => r = .returned (.bool (seenCntE e)) ∧ Ext w w' := by
  obtain ⟨ek, es, ec, ei, x1, x2, x3⟩ := e
  have hc := h.counts
  have H := Lib.hid h
  obtain ⟨A1, n1, rfl, -, -⟩ := h.seen.form
  obtain ⟨A2, n2, rfl, hn1, hn2⟩ := h.counts.form
  obtain ⟨A3, n3, rfl, -, -⟩ := h.items.form
  simp only at hn1
  have HAT := Lib.hid (fun (pre post : List Count) (m : Count) (wr : World) (h : Ext w wr) (hl : ec = pre ++ m :: post) => count_at' hc h hl)
  have HE := Lib.hid (show seenCntE ⟨ek, es, ec, ei, (x1, x2, x3)⟩ = ec.all fun c => !(c.1 != [] && ofM es c.1 == 0) from rfl)
  generalize seenCntE ⟨ek, es, ec, ei, (x1, x2, x3)⟩ = R at *
  have hx0 := (Ext.refl w).alloc (.cells #[St ek, .slice A1 es.length n1, .slice A2 ec.length n2, .slice A3 ei.length n3, U x1, St x2, .bool x3] 37)
  have hb0 := rowNew w 37 [St ek, .slice A1 es.length n1, .slice A2 ec.length n2, .slice A3 ei.length n3, U x1, St x2, .bool x3]
  have k2 := hb0.cell (j := 2) rfl
  clear h hc
  go_enter Tryz.func120, Tryz.ntmps120
  go_wp2_with fail
  generalize hW0 : w.alloc (.cells #[St ek, .slice A1 es.length n1, .slice A2 ec.length n2, .slice A3 ei.length n3, U x1, St x2, .bool x3] 37) = W0 at *
  clear hW0
  go_loopw [8] (fun i wr => ∃ pre post, ec = pre ++ post ∧ i = I pre.length ∧ Hid (R = post.all fun c => !(c.1 != [] && ofM es c.1 == 0)) ∧ Ext W0 wr) (fun i _ => ec.length - (intOf i).toNat)
  case atStart => exact ⟨[], ec, rfl, rfl, HE, Ext.refl _⟩
  case round =>
    obtain ⟨pre, post, hl, rfl, hR, hx⟩ := hrel
    cases post with
    | cons c post =>
      obtain ⟨b, o, rfl, hd0, hd1, hd2⟩ := HAT.out pre post c wr (hx0.trans hx) hl
      have hlt : pre.length < ec.length := by rw [hl]; simp
      have HL := Lib.hid hl
      have hx1 := hx.alloc (.cells #[St c.1, U c.2.1, U c.2.2] 93)
      have t0 : (wr.alloc (.cells #[St c.1, U c.2.1, U c.2.2] 93)).cell? ⟨wr.heap.size, 0, none⟩ = some (St c.1) := by simp [go_sem]
      have ks := (hb0.ext hx1).cell (j := 1) rfl
      have HS := Lib.hid (of_any c.1 (H.out.seen.ext (by decide) (hx0.trans hx1)))
      clear hl
      obtain ⟨cs, cp, cm⟩ := c
      simp only at hd0 hd1 hd2 hx1 t0 ks HS
      cases cs with
      | nil =>
        have hR2 := Lib.hid (show R = post.all fun c => !(c.1 != [] && ofM es c.1 == 0) by rw [hR.out]; simp)
        have HX1 := Lib.hid hx1
        clear hR hx1 HS
        go_wp2_with fail
        go_roundw
        case rel => exact ⟨pre ++ [([], cp, cm)], post, by rw [HL.out]; simp, by simp, hR2, HX1.out⟩
        case measure => simp [intOf]; omega
      | cons ch cs =>
        go_wp2_with fail
        refine HS.out.mono ?_
        rintro r W1 ⟨rfl, hx2⟩
        have HX1 := Lib.hid (hx1.trans hx2)
        cases hof : ofM es (ch :: cs) with
        | zero =>
          have hR2 := Lib.hid (show R = false by rw [hR.out]; simp [hof])
          clear hR hx1 hx2
          go_wp2_with fail
          (try simp only [Exit.inBlock, Exit.then])
          exact bodyPost_ret (results_tmp rfl _ _ _) rfl ⟨by rw [hR2.out]; rfl, hx0.trans HX1.out⟩
        | succ m =>
          have hR2 := Lib.hid (show R = post.all fun c => !(c.1 != [] && ofM es c.1 == 0) by rw [hR.out]; simp [hof])
          clear hR hx1 hx2
          go_wp2_with fail
          go_roundw
          case rel => exact ⟨pre ++ [(ch :: cs, cp, cm)], post, by rw [HL.out]; simp, by simp, hR2, HX1.out⟩
          case measure => simp [intOf]; omega
    | nil =>
      rw [List.append_nil] at hl
      have hR2 := Lib.hid (show R = true by rw [hR.out]; rfl)
      have hlen : ec.length = pre.length := by rw [hl]
      clear hR hl
      go_wp2_with fail
      (try simp only [Exit.inBlock, Exit.then])
      exact bodyPost_ret (results_tmp rfl _ _ _) rfl ⟨by rw [hR2.out]; rfl, hx0.trans hx⟩

set_option maxRecDepth 100000 in
set_option maxHeartbeats 1000000 in
theorem seenItE_any {S : Nat → Prop} {e : Entry} {v1 v2 v3 : Value} {w : World} (h : EntAt w S e v1 v2 v3) :
    Calls Tryz.prog 123 #[entV e v1 v2 v3] w fun r w' => r = .returned (.bool (seenItE e)) ∧ Ext w w' := by
  obtain ⟨ek, es, ec, ei, x1, x2, x3⟩ := e
  have hc := h.items
  have H := Lib.hid h
  obtain ⟨A1, n1, rfl, -, -⟩ := h.seen.form
  obtain ⟨A2, n2, rfl, -, -⟩ := h.counts.form
  obtain ⟨A3, n3, rfl, hn1, hn2⟩ := h.items.form
  simp only at hn1
  have HAT := Lib.hid (fun (pre post : List Item) (m : Item) (wr : World) (h : Ext w wr) (hl : ei = pre ++ m :: post) => item_at hc h hl)
  have HE := Lib.hid (show seenItE ⟨ek, es, ec, ei, (x1, x2, x3)⟩ = ei.all fun it => it.2.all fun d => hasM es d from rfl)
  generalize seenItE ⟨ek, es, ec, ei, (x1, x2, x3)⟩ = R at *
  have hx0 := (Ext.refl w).alloc (.cells #[St ek, .slice A1 es.length n1, .slice A2 ec.length n2, .slice A3 ei.length n3, U x1, St x2, .bool x3] 37)
  have hb0 := rowNew w 37 [St ek, .slice A1 es.length n1, .slice A2 ec.length n2, .slice A3 ei.length n3, U x1, St x2, .bool x3]
  have k3 := hb0.cell (j := 3) rfl
  clear h hc
  go_enter Tryz.func123, Tryz.ntmps123
  go_wp2_with fail
  generalize hW0 : w.alloc (.cells #[St ek, .slice A1 es.length n1, .slice A2 ec.length n2, .slice A3 ei.length n3, U x1, St x2, .bool x3] 37) = W0 at *
  clear hW0
  go_loopw [10] (fun i wr => ∃ pre post, ei = pre ++ post ∧ i = I pre.length ∧ Hid (R = post.all fun it => it.2.all fun d => hasM es d) ∧ Ext W0 wr) (fun i _ => ei.length - (intOf i).toNat)
  case atStart => exact ⟨[], ei, rfl, rfl, HE, Ext.refl _⟩
  case round =>
    obtain ⟨pre, post, hl, rfl, hR, hx⟩ := hrel
    cases post with
    | cons it post =>
      obtain ⟨b, o, vd, rfl, hd0, hd1, hsl⟩ := HAT.out pre post it wr (hx0.trans hx) hl
      have hlt : pre.length < ei.length := by rw [hl]; simp
      have HL := Lib.hid hl
      have hsl' := hsl
      obtain ⟨A4, n4, rfl, hn3, hn4⟩ := hsl.form
      have hx1 := hx.alloc (.cells #[St it.1, .slice A4 it.2.length n4] 96)
      have t1 : (wr.alloc (.cells #[St it.1, .slice A4 it.2.length n4] 96)).cell? ⟨wr.heap.size, 1, none⟩ = some (.slice A4 it.2.length n4) := by simp [go_sem]
      have hxa := (Ext.refl wr).alloc (.cells #[St it.1, .slice A4 it.2.length n4] 96)
      have HIN := Lib.hid (fun (p2 q2 : List Dot) (x : Dot) (wr' : World) (h : Ext w wr') (hl : it.2 = p2 ++ x :: q2) => dot_at hsl' h hl)
      clear hl hsl hsl'
      go_wp2_with fail
      generalize hW1 : wr.alloc (.cells #[St it.1, .slice A4 it.2.length n4] 96) = W1 at *
      clear hW1
      obtain ⟨wo, hwo⟩ : ∃ wo : World, wo = wr := ⟨_, rfl⟩
      subst hwo
      go_loopw [17] (fun j wr2 => ∃ p2 q2, it.2 = p2 ++ q2 ∧ j = I p2.length ∧ Hid (R = ((q2.all fun d => hasM es d) && post.all fun it => it.2.all fun d => hasM es d)) ∧ Ext W1 wr2) (fun j _ => it.2.length - (intOf j).toNat)
      case atStart => exact ⟨[], it.2, rfl, rfl, by rw [hR.out]; exact Lib.hid (by simp), Ext.refl _⟩
      case round =>
        obtain ⟨p2, q2, hl2, rfl, hR2, hx2⟩ := hrel
        cases q2 with
        | cons x q2 =>
          have hx02 := hx0.trans (hx1.trans hx2)
          obtain ⟨b2, o2, rfl, e0, e1⟩ := HIN.out p2 q2 x wr hx02 hl2
          have hlt2 : p2.length < it.2.length := by rw [hl2]; simp
          have hx3 := hx2.alloc (.cells #[St x.1, U x.2] 97)
          have s0 : (wr.alloc (.cells #[St x.1, U x.2] 97)).cell? ⟨wr.heap.size, 0, none⟩ = some (St x.1) := by simp [go_sem]
          have s1 : (wr.alloc (.cells #[St x.1, U x.2] 97)).cell? ⟨wr.heap.size, 1, none⟩ = some (U x.2) := by simp [go_sem]
          have ks := (hb0.ext (hx1.trans hx3)).cell (j := 1) rfl
          have HS := Lib.hid (has_any x (H.out.seen.ext (by decide) (hx0.trans (hx1.trans hx3))))
          have HL2 := Lib.hid hl2
          clear hl2
          go_wp2_with fail
          refine HS.out.mono ?_
          rintro r W2 ⟨rfl, hx4⟩
          have HX3 := Lib.hid (hx3.trans hx4)
          cases hof : hasM es x with
          | false =>
            have hR3 := Lib.hid (show R = false by rw [hR2.out]; simp [hof])
            have HXX := Lib.hid (hx0.trans (hx1.trans HX3.out))
            clear hR hR2 hx4 hx3 hx2 hx02
            go_wp2_with fail
            (try simp only [Exit.inBlock, Exit.then])
            exact bodyPost_ret (results_tmp rfl _ _ _) rfl ⟨by rw [hR3.out]; rfl, HXX.out⟩
          | true =>
            have hR3 := Lib.hid (show R = ((q2.all fun d => hasM es d) && post.all fun it => it.2.all fun d => hasM es d) by rw [hR2.out]; simp [hof])
            clear hR hR2 hx4 hx3 hx2 hx02
            go_wp2_with fail
            go_roundw
            case rel => exact ⟨p2 ++ [x], q2, by rw [HL2.out]; simp, by simp, hR3, HX3.out⟩
            case measure => simp [intOf]; omega
        | nil =>
          rw [List.append_nil] at hl2
          have hR3 := Lib.hid (show R = post.all fun it => it.2.all fun d => hasM es d by rw [hR2.out]; rfl)
          have hlen : it.2.length = p2.length := by rw [hl2]
          have HX2 := Lib.hid (hx1.trans hx2)
          clear hR hR2 hl2 hx2
          go_wp2_with fail
          go_roundw
          case rel => exact ⟨pre ++ [it], post, by rw [HL.out]; simp, by simp, hR3, HX2.out⟩
          case measure => simp [intOf]; omega
    | nil =>
      rw [List.append_nil] at hl
      have hR2 := Lib.hid (show R = true by rw [hR.out]; rfl)
      have hlen : ei.length = pre.length := by rw [hl]
      clear hR hl
      go_wp2_with fail
      (try simp only [Exit.inBlock, Exit.then])
      exact bodyPost_ret (results_tmp rfl _ _ _) rfl ⟨by rw [hR2.out]; rfl, hx0.trans hx⟩
end Go.Proofs.YtdikcgmdmcfpfaaGreat
namespace Go.Proofs.YtdikcgmdmcfpfaaGreat
open Go.RowKit

abbrev K8 (n : Nat) : Value := .int .u8 n

theorem findNow_u8 (k0 : IntKind) (x : Nat) : ∀ (es : List MapEntry) (ks : List Nat) (i : Nat), es.map (·.key) = ks.map K8 →
    Instr.findNow (.int k0) (K8 x) es i = some ((ks.findIdx? (fun y => decide (y = x))).bind fun j => (es[j]?).map fun e => (i + j, e.val))
  | [], [], _, _ => rfl
  | [], _ :: _, _, h => by simp at h
  | _ :: _, [], _, h => by simp at h
  | e :: es, k :: ks, i, h => by
    simp only [List.map_cons, List.cons.injEq] at h
    obtain ⟨h1, h2⟩ := h
    unfold Instr.findNow
    rw [h1]
    have hb : ((x : Int) == (k : Int)) = decide (k = x) := by
      by_cases h : k = x
      · subst h; simp
      · have : ¬ (x : Int) = k := fun e => h (by omega)
        simp [h, this]
    simp only [Instr.sameNow, if_true, hb]
    by_cases hk : k = x
    · subst hk
      simp [List.findIdx?_cons]
    · simp only [findNow_u8 k0 x es ks (i + 1) h2, List.findIdx?_cons, hk, decide_false, Bool.false_eq_true, if_false]
      cases hf : ks.findIdx? (fun y => decide (y = x)) with
      | none => rfl
      | some j =>
        simp only [Option.bind_some, Option.map_some, List.getElem?_cons_succ, Option.some.injEq]
        congr 1
        funext e
        simp
        omega

theorem keyOk_u8 {P : Program} {kt : TypeId} {k0 : IntKind} (hk : P.underlying kt = some (.int k0)) : KeyOk P kt K8 where
  check e x w := by
    unfold Instr.checkKey
    simp [run_underlying hk]
  find x es ks w h := by
    refine Go.MapKept.run_findKey hk ?_
    rw [findNow_u8 k0 x es ks 0 h]
    simp
  same x := by
    unfold Instr.sameBits
    simp
end Go.Proofs.YtdikcgmdmcfpfaaGreat
namespace Go.Proofs.YtdikcgmdmcfpfaaGreat
open Go.RowKit

def signR (r : Int) : Nat := if r = 35 then 1 else if r = 64 then 2 else if r = 61 then 3 else 0
def controlR (r : Int) : Bool := decide (r < 32) || (decide (r ≥ 127) && decide (r ≤ 159))
def hasPre (s p : ByteArray) : Bool := decide (p.size ≤ s.size) && ((s.extract 0 p.size).toList == p.toList)
def brokenB (s : ByteArray) (i : Nat) (r : Int) : Bool := (r == 65533) && !hasPre (s.extract i s.size) ⟨#[239, 191, 189]⟩
abbrev U8 (n : Nat) : Value := .int .u8 (n : Int)

set_option maxRecDepth 100000 in
set_option maxHeartbeats 400000 in
theorem sign_any (r : Int) (w : World) : Calls Tryz.prog 168 #[.int .i32 r] w fun e w' => e = .returned (U8 (signR r)) ∧ w = w' := by
  by_cases h1 : r = 35
  · subst h1
    go_enter Tryz.func168, Tryz.ntmps168
    go_wp2
    go_ret
    exact ⟨rfl, rfl⟩
  · by_cases h2 : r = 64
    · subst h2
      go_enter Tryz.func168, Tryz.ntmps168
      go_wp2
      go_ret
      exact ⟨rfl, rfl⟩
    · by_cases h3 : r = 61
      · subst h3
        go_enter Tryz.func168, Tryz.ntmps168
        go_wp2
        go_ret
        exact ⟨rfl, rfl⟩
      · have e1 : (r == 35) = false := by simpa using h1
        have e2 : (r == 64) = false := by simpa using h2
        have e3 : (r == 61) = false := by simpa using h3
        have HS := Lib.hid (show signR r = 0 by simp [signR, h1, h2, h3])
        clear h1 h2 h3
        go_enter Tryz.func168, Tryz.ntmps168
        go_wp2
        go_ret
        exact ⟨by rw [HS.out]; rfl, rfl⟩

set_option maxRecDepth 100000 in
set_option maxHeartbeats 400000 in
theorem control_any (r : Int) (w : World) : Calls Tryz.prog 169 #[.int .i32 r] w fun e w' => e = .returned (.bool (controlR r)) ∧ w = w' := by
  by_cases h1 : r < 32
  · have HS := Lib.hid (show controlR r = true by simp [controlR, h1])
    go_enter Tryz.func169, Tryz.ntmps169
    go_wp2
    go_ret
    exact ⟨by rw [HS.out]; rfl, rfl⟩
  · by_cases h2 : r ≥ 127
    · by_cases h3 : r ≤ 159
      · have HS := Lib.hid (show controlR r = true by simp [controlR, h1, h2, h3])
        go_enter Tryz.func169, Tryz.ntmps169
        go_wp2
        go_ret
        exact ⟨by rw [HS.out]; rfl, rfl⟩
      · have HS := Lib.hid (show controlR r = false by simp [controlR, h1, h2, h3])
        go_enter Tryz.func169, Tryz.ntmps169
        go_wp2
        go_ret
        exact ⟨by rw [HS.out]; rfl, rfl⟩
    · have HS := Lib.hid (show controlR r = false by simp [controlR, h1, h2])
      go_enter Tryz.func169, Tryz.ntmps169
      go_wp2
      go_ret
      exact ⟨by rw [HS.out]; rfl, rfl⟩

set_option maxRecDepth 100000 in
set_option maxHeartbeats 400000 in
theorem hasPre0_any (s p : ByteArray) (w : World) : Calls Tryz.prog 249 #[.string s, .string p] w fun e w' => e = .returned (.bool (hasPre s p)) ∧ w = w' := by
  by_cases h : p.size ≤ s.size
  · have h1 : (s.size : Int) ≥ p.size := by omega
    go_enter Tryz.func249, Tryz.ntmps249
    go_wp2
    go_ret
    exact ⟨by simp [hasPre, h], rfl⟩
  · have h1 : ¬ (s.size : Int) ≥ p.size := by omega
    go_enter Tryz.func249, Tryz.ntmps249
    go_wp2
    go_ret
    exact ⟨by simp [hasPre, h], rfl⟩
set_option maxRecDepth 100000 in
set_option maxHeartbeats 400000 in
theorem hasPre_any (s p : ByteArray) (w : World) : Calls Tryz.prog 223 #[.string s, .string p] w fun e w' => e = .returned (.bool (hasPre s p)) ∧ w = w' := by
  have H := Lib.hid hasPre0_any
  go_enter Tryz.func223, Tryz.ntmps223
  go_wp2_with fail
  refine (H.out _ _ _).mono ?_
  rintro e w' ⟨rfl, rfl⟩
  go_wp2
  go_ret
  exact ⟨rfl, rfl⟩

set_option maxRecDepth 100000 in
set_option maxHeartbeats 400000 in
theorem broken_any (s : ByteArray) (i : Nat) (r : Int) (hi : i ≤ s.size) (w : World) : Calls Tryz.prog 170 #[.string s, I i, .int .i32 r] w fun e w' => e = .returned (.bool (brokenB s i r)) ∧ w = w' := by
  by_cases h : r = 65533
  · subst h
    have H := Lib.hid hasPre_any
    have hi' : (i : Int) ≤ s.size := by omega
    go_enter Tryz.func170, Tryz.ntmps170
    go_wp2_with fail
    refine (H.out _ _ _).mono ?_
    rintro e w' ⟨rfl, rfl⟩
    go_wp2
    go_ret
    exact ⟨by simp [brokenB], rfl⟩
  · have h1 : (r == 65533) = false := by simpa using h
    go_enter Tryz.func170, Tryz.ntmps170
    go_wp2
    go_ret
    exact ⟨by simp [brokenB, h1], rfl⟩

/-- what a key is of, from pos on: so many runes have come, of that kind -/
def kindFrom (s : ByteArray) : Nat → Nat → Nat → Nat → Nat
  | 0, _, _, kind => kind
  | b + 1, pos, n, kind =>
    if pos < s.size then
      if (if n = 0 then signR (Utf8.decode s pos).1 else kind) = 0 ∨ n = 64 ∨ controlR (Utf8.decode s pos).1 = true ∨ brokenB s pos (Utf8.decode s pos).1 = true then 0
      else kindFrom s b (pos + (Utf8.decode s pos).2) (n + 1) (if n = 0 then signR (Utf8.decode s pos).1 else kind)
    else kind
def kindS (s : Str) : Nat := kindFrom ⟨s.toArray⟩ s.length 0 0 0
def keyS (s : Str) : Bool := kindS s != 0
theorem kindFrom_end (s : ByteArray) (b pos n kind : Nat) (h : ¬ pos < s.size) : kindFrom s b pos n kind = kind := by
  cases b <;> simp [kindFrom, h]

theorem iter_ext (w : World) (s : ByteArray) (pos : Nat) : Ext w (w.iter s pos) := (Ext.refl w).alloc _

set_option maxRecDepth 100000 in
set_option maxHeartbeats 2000000 in
theorem kindB_any (S : ByteArray) (w : World) : Calls Tryz.prog 95 #[.string S] w fun e w' => e = .returned (U8 (kindFrom S S.size 0 0 0)) ∧ Ext w w' := by
  obtain ⟨K, hK⟩ : ∃ K, kindFrom S S.size 0 0 0 = K := ⟨_, rfl⟩
  rw [hK]
  have HS := Lib.hid hK
  clear hK
  have H1 := Lib.hid sign_any
  have H2 := Lib.hid control_any
  have H3 := Lib.hid broken_any
  go_enter Tryz.func95, Tryz.ntmps95
  go_wp2
  go_loopw [3, 4] (fun kd n w' => ∃ (pos b acc kind : Nat), w' = w.iter S pos ∧ n = I acc ∧ kd = U8 kind ∧ kindFrom S b pos acc kind = K ∧ S.size ≤ pos + b ∧ acc ≤ 64 ∧ (acc ≠ 0 → kind ≠ 0)) (fun _ _ w' => S.size - w'.iterPos w.heap.size)
  case atStart => exact ⟨0, S.size, 0, 0, rfl, rfl, rfl, HS.out, by omega, by omega, by simp⟩
  case round =>
    obtain ⟨pos, b, acc, kind, rfl, rfl, rfl, hc, hb, ha, hk⟩ := hrel
    by_cases hp : pos < S.size
    · have hnx : ∀ ty, (Instr.next (.pointer (some ⟨w.heap.size, 0, none⟩)) true ty).run Tryz.prog (w.iter S pos) = _ := fun ty => run_next_any w S pos ty hp
      have hwd := Lib.decode_width_pos S pos hp
      obtain ⟨b, rfl⟩ : ∃ b', b = b' + 1 := ⟨b - 1, by omega⟩
      have HB := Lib.hid (H3.out S pos (Utf8.decode S pos).1 (by omega) (w.iter S (pos + (Utf8.decode S pos).2)))
      have HC := Lib.hid (H2.out (Utf8.decode S pos).1 (w.iter S (pos + (Utf8.decode S pos).2)))
      have HG := Lib.hid (H1.out (Utf8.decode S pos).1 (w.iter S (pos + (Utf8.decode S pos).2)))
      rw [kindFrom, if_pos hp] at hc
      generalize hR : (((Utf8.decode S pos).1 : Nat) : Int) = R at *
      generalize hW : (Utf8.decode S pos).2 = wd at *
      cases acc with
      | zero =>
        by_cases hz : signR R = 0
        · rw [if_pos (.inl (by simpa using hz))] at hc
          rw [hz] at HG
          have HH := Lib.hid hc
          clear hc hk hz
          go_wp2_with fail
          refine HG.out.mono ?_
          rintro e w1 ⟨rfl, hw1⟩
          subst hw1
          go_wp2
          go_ret
          exact ⟨by rw [← HH.out]; rfl, iter_ext _ _ _⟩
        · have hz' : (((signR R : Nat) : Int) == 0) = false := by rw [beq_eq_false_iff_ne]; omega
          have hc : (if controlR R = true ∨ brokenB S pos R = true then 0 else kindFrom S b (pos + wd) (0 + 1) (signR R)) = K := by simpa [hz] using hc
          cases hcr : controlR R
          · rw [hcr] at HC hc
            cases hbr : brokenB S pos R
            · rw [hbr] at HB hc
              have HH := Lib.hid (show kindFrom S b (pos + wd) (0 + 1) (signR R) = K by simpa using hc)
              clear hc hk hcr hbr
              go_wp2_with fail
              refine HG.out.mono ?_
              rintro e w1 ⟨rfl, hw1⟩
              subst hw1
              go_wp2_with fail
              refine HC.out.mono ?_
              rintro e w1 ⟨rfl, hw1⟩
              subst hw1
              go_wp2_with fail
              refine HB.out.mono ?_
              rintro e w1 ⟨rfl, hw1⟩
              subst hw1
              go_wp2
              go_roundw
              case rel => exact ⟨pos + wd, b, 0 + 1, (signR R), rfl, by simp, rfl, HH.out, by omega, by omega, fun _ => by omega⟩
              case measure => simp; omega
            · rw [hbr] at HB hc
              have HH := Lib.hid (show 0 = K by simpa using hc)
              clear hc hk hcr hbr
              go_wp2_with fail
              refine HG.out.mono ?_
              rintro e w1 ⟨rfl, hw1⟩
              subst hw1
              go_wp2_with fail
              refine HC.out.mono ?_
              rintro e w1 ⟨rfl, hw1⟩
              subst hw1
              go_wp2_with fail
              refine HB.out.mono ?_
              rintro e w1 ⟨rfl, hw1⟩
              subst hw1
              go_wp2
              go_ret
              exact ⟨by rw [← HH.out]; rfl, iter_ext _ _ _⟩
          · rw [hcr] at HC hc
            have HH := Lib.hid (show 0 = K by simpa using hc)
            clear hc hk hcr
            go_wp2_with fail
            refine HG.out.mono ?_
            rintro e w1 ⟨rfl, hw1⟩
            subst hw1
            go_wp2_with fail
            refine HC.out.mono ?_
            rintro e w1 ⟨rfl, hw1⟩
            subst hw1
            go_wp2
            go_ret
            exact ⟨by rw [← HH.out]; rfl, iter_ext _ _ _⟩
      | succ acc =>
        have hkn : kind ≠ 0 := hk (by omega)
        have hz' : ((kind : Int) == 0) = false := by rw [beq_eq_false_iff_ne]; omega
        have hz0 : (((acc + 1 : Nat) : Int) == 0) = false := by rw [beq_eq_false_iff_ne]; omega
        have hz1 : ((acc : Int) + 1 == 0) = false := by rw [beq_eq_false_iff_ne]; omega
        by_cases h64 : acc + 1 = 64
        · have hacc : acc = 63 := by omega
          subst hacc
          have HH := Lib.hid (show 0 = K by simpa using hc)
          clear hc hk
          go_wp2_with fail
          go_ret
          exact ⟨by rw [← HH.out]; rfl, iter_ext _ _ _⟩
        · have hc : (if controlR R = true ∨ brokenB S pos R = true then 0 else kindFrom S b (pos + wd) (acc + 1 + 1) kind) = K := by simpa [hkn, h64] using hc
          have hz2 : (((acc + 1 : Nat) : Int) == 64) = false := by rw [beq_eq_false_iff_ne]; omega
          have hz3 : ((acc : Int) + 1 == 64) = false := by rw [beq_eq_false_iff_ne]; omega
          cases hcr : controlR R
          · rw [hcr] at HC hc
            cases hbr : brokenB S pos R
            · rw [hbr] at HB hc
              have HH := Lib.hid (show kindFrom S b (pos + wd) ((acc + 1) + 1) kind = K by simpa using hc)
              clear hc hk hcr hbr
              go_wp2_with fail
              refine HC.out.mono ?_
              rintro e w1 ⟨rfl, hw1⟩
              subst hw1
              go_wp2_with fail
              refine HB.out.mono ?_
              rintro e w1 ⟨rfl, hw1⟩
              subst hw1
              go_wp2
              go_roundw
              case rel => exact ⟨pos + wd, b, (acc + 1) + 1, kind, rfl, by simp, rfl, HH.out, by omega, by omega, fun _ => by omega⟩
              case measure => simp; omega
            · rw [hbr] at HB hc
              have HH := Lib.hid (show 0 = K by simpa using hc)
              clear hc hk hcr hbr
              go_wp2_with fail
              refine HC.out.mono ?_
              rintro e w1 ⟨rfl, hw1⟩
              subst hw1
              go_wp2_with fail
              refine HB.out.mono ?_
              rintro e w1 ⟨rfl, hw1⟩
              subst hw1
              go_wp2
              go_ret
              exact ⟨by rw [← HH.out]; rfl, iter_ext _ _ _⟩
          · rw [hcr] at HC hc
            have HH := Lib.hid (show 0 = K by simpa using hc)
            clear hc hk hcr
            go_wp2_with fail
            refine HC.out.mono ?_
            rintro e w1 ⟨rfl, hw1⟩
            subst hw1
            go_wp2
            go_ret
            exact ⟨by rw [← HH.out]; rfl, iter_ext _ _ _⟩
    · have hnx : ∀ ty, (Instr.next (.pointer (some ⟨w.heap.size, 0, none⟩)) true ty).run Tryz.prog (w.iter S pos) = _ := fun ty => run_next_end w S pos ty hp
      rw [kindFrom_end S b pos acc kind hp] at hc
      have HCC := Lib.hid hc
      clear hc
      go_wp2
      go_ret
      exact ⟨by rw [← HCC.out]; rfl, iter_ext _ _ _⟩

theorem kind_any (s : Str) (w : World) : Calls Tryz.prog 95 #[St s] w fun e w' => e = .returned (U8 (kindS s)) ∧ Ext w w' := by
  have h := kindB_any ⟨s.toArray⟩ w
  have hs : (ByteArray.mk s.toArray).size = s.length := by simp [ByteArray.size]
  rw [hs] at h
  exact h

set_option maxRecDepth 100000 in
set_option maxHeartbeats 400000 in
theorem key_any (s : Str) (w : World) : Calls Tryz.prog 91 #[St s] w fun e w' => e = .returned (.bool (keyS s)) ∧ Ext w w' := by
  have H := Lib.hid (kind_any s w)
  have HK := Lib.hid (show keyS s = (kindS s != 0) from rfl)
  by_cases hz : kindS s = 0
  · rw [hz] at H HK
    go_enter Tryz.func91, Tryz.ntmps91
    go_wp2_with fail
    refine H.out.mono ?_
    rintro e w1 ⟨rfl, hb1⟩
    go_wp2
    go_ret
    exact ⟨by rw [HK.out]; rfl, hb1⟩
  · have hz' : ((kindS s : Int) == 0) = false := by rw [beq_eq_false_iff_ne]; omega
    rw [show (kindS s != 0) = true by simpa using hz] at HK
    go_enter Tryz.func91, Tryz.ntmps91
    go_wp2_with fail
    refine H.out.mono ?_
    rintro e w1 ⟨rfl, hb1⟩
    go_wp2
    go_ret
    exact ⟨by rw [HK.out]; simp [hz], hb1⟩
end Go.Proofs.YtdikcgmdmcfpfaaGreat
namespace Go.Proofs.YtdikcgmdmcfpfaaGreat
open Go.RowKit Go.Shelf

def zeroC : Cell := (0, [], false)
def may1 (e : Entry) : Bool := mayL e.counts && (seenCntE e && (decide (e.items.length = 0) && decide (e.cell = zeroC)))
def may2 (e : Entry) : Bool := mayB e.items && (seenItE e && (decide (e.counts.length = 0) && decide (e.cell = zeroC)))
def may3 (e : Entry) : Bool := mayC e.cell && (decide (e.counts.length = 0) && decide (e.items.length = 0))
def mayE (e : Entry) : Bool := mayM e.seen && (!decide (e.seen.length = 0) && (if kindS e.key = 1 then may1 e else if kindS e.key = 2 then may2 e else if kindS e.key = 3 then may3 e else false))

set_option maxRecDepth 100000 in
set_option maxHeartbeats 1000000 in
theorem may1_any {S : Nat → Prop} {e : Entry} {v1 v2 v3 : Value} {W : World} {B : Nat} (hb : RowIs W B 37 (entL e v1 v2 v3) []) (h : EntAt W S e v1 v2 v3) :
    Calls Tryz.prog 118 #[.pointer (some ⟨B, 0, none⟩)] W fun r w' => r = .returned (.bool (may1 e)) ∧ Ext W w' := by
  obtain ⟨ek, es, ec, ei, x1, x2, x3⟩ := e
  have HM := Lib.hid (show may1 ⟨ek, es, ec, ei, (x1, x2, x3)⟩ = (mayL ec && (seenCntE ⟨ek, es, ec, ei, (x1, x2, x3)⟩ && (decide (ei.length = 0) && decide ((x1, x2, x3) = zeroC)))) from rfl)
  have HC := Lib.hid (mayL_any h.counts)
  have H := Lib.hid h
  obtain ⟨A1, n1, rfl, -, -⟩ := h.seen.form
  obtain ⟨A2, n2, rfl, -, -⟩ := h.counts.form
  obtain ⟨A3, n3, rfl, -, -⟩ := h.items.form
  have k2 := hb.cell (j := 2) rfl
  have hq := fun w => eql_cell (x1, x2, x3) (0, [], false) w
  simp only at hq
  clear h
  go_enter Tryz.func118, Tryz.ntmps118
  go_wp2_with fail
  refine HC.out.mono ?_
  rintro r W1 ⟨rfl, hx1⟩
  have hb1 := hb.ext hx1
  cases hm : mayL ec with
  | false =>
    have HR := Lib.hid (show may1 ⟨ek, es, ec, ei, (x1, x2, x3)⟩ = false by rw [HM.out, hm]; rfl)
    go_wp2_with fail
    go_ret
    exact ⟨by rw [HR.out]; rfl, hx1⟩
  | true =>
    have c0 := hb1.cell (j := 0) rfl
    have c1 := hb1.cell (j := 1) rfl
    have c2 := hb1.cell (j := 2) rfl
    have c3 := hb1.cell (j := 3) rfl
    have c4 := hb1.cell (j := 4) rfl
    have c5 := hb1.cell (j := 5) rfl
    have c6 := hb1.cell (j := 6) rfl
    have HS := Lib.hid (seenCntE_any (H.out.ext hx1))
    go_wp2_with fail
    refine HS.out.mono ?_
    rintro r W2 ⟨rfl, hx2⟩
    have hb2 := hb1.ext hx2
    have d2 := hb2.cell (j := 2) rfl
    have d3 := hb2.cell (j := 3) rfl
    have d4 := hb2.cell (j := 4) rfl
    have d5 := hb2.cell (j := 5) rfl
    have d6 := hb2.cell (j := 6) rfl
    have HX := Lib.hid (hx1.trans hx2)
    cases hs : seenCntE ⟨ek, es, ec, ei, (x1, x2, x3)⟩ with
    | false =>
      have HR := Lib.hid (show may1 ⟨ek, es, ec, ei, (x1, x2, x3)⟩ = false by rw [HM.out, hm, hs]; rfl)
      go_wp2_with fail
      go_ret
      exact ⟨by rw [HR.out]; rfl, HX.out⟩
    | true =>
      cases ei with
      | nil =>
        have HR := Lib.hid (show may1 ⟨ek, es, ec, [], (x1, x2, x3)⟩ = decide ((x1, x2, x3) = ((0, [], false) : Cell)) by rw [HM.out, hm, hs]; rfl)
        go_wp2_with fail
        all_goals
          go_ret
          refine ⟨?_, HX.out⟩
          rw [HR.out]
          simp [*]
      | cons it ei =>
        have HR := Lib.hid (show may1 ⟨ek, es, ec, it :: ei, (x1, x2, x3)⟩ = false by rw [HM.out, hm, hs]; rfl)
        go_wp2_with fail
        go_ret
        exact ⟨by rw [HR.out]; rfl, HX.out⟩

set_option maxRecDepth 100000 in
set_option maxHeartbeats 1000000 in
theorem may2_any {S : Nat → Prop} {e : Entry} {v1 v2 v3 : Value} {W : World} {B : Nat} (hl40 : e.items.length ≤ 1099511627776) (hb : RowIs W B 37 (entL e v1 v2 v3) []) (h : EntAt W S e v1 v2 v3) :
    Calls Tryz.prog 121 #[.pointer (some ⟨B, 0, none⟩)] W fun r w' => r = .returned (.bool (may2 e)) ∧ Ext W w' := by
  obtain ⟨ek, es, ec, ei, x1, x2, x3⟩ := e
  have HM := Lib.hid (show may2 ⟨ek, es, ec, ei, (x1, x2, x3)⟩ = (mayB ei && (seenItE ⟨ek, es, ec, ei, (x1, x2, x3)⟩ && (decide (ec.length = 0) && decide ((x1, x2, x3) = zeroC)))) from rfl)
  have HC := Lib.hid (mayB_any h.items hl40)
  have H := Lib.hid h
  obtain ⟨A1, n1, rfl, -, -⟩ := h.seen.form
  obtain ⟨A2, n2, rfl, -, -⟩ := h.counts.form
  obtain ⟨A3, n3, rfl, -, -⟩ := h.items.form
  have k3 := hb.cell (j := 3) rfl
  have hq := fun w => eql_cell (x1, x2, x3) (0, [], false) w
  simp only at hq
  clear h
  go_enter Tryz.func121, Tryz.ntmps121
  go_wp2_with fail
  refine HC.out.mono ?_
  rintro r W1 ⟨rfl, hx1⟩
  have hb1 := hb.ext hx1
  cases hm : mayB ei with
  | false =>
    have HR := Lib.hid (show may2 ⟨ek, es, ec, ei, (x1, x2, x3)⟩ = false by rw [HM.out, hm]; rfl)
    go_wp2_with fail
    go_ret
    exact ⟨by rw [HR.out]; rfl, hx1⟩
  | true =>
    have c0 := hb1.cell (j := 0) rfl
    have c1 := hb1.cell (j := 1) rfl
    have c2 := hb1.cell (j := 2) rfl
    have c3 := hb1.cell (j := 3) rfl
    have c4 := hb1.cell (j := 4) rfl
    have c5 := hb1.cell (j := 5) rfl
    have c6 := hb1.cell (j := 6) rfl
    have HS := Lib.hid (seenItE_any (H.out.ext hx1))
    go_wp2_with fail
    refine HS.out.mono ?_
    rintro r W2 ⟨rfl, hx2⟩
    have hb2 := hb1.ext hx2
    have d2 := hb2.cell (j := 2) rfl
    have d3 := hb2.cell (j := 3) rfl
    have d4 := hb2.cell (j := 4) rfl
    have d5 := hb2.cell (j := 5) rfl
    have d6 := hb2.cell (j := 6) rfl
    have HX := Lib.hid (hx1.trans hx2)
    cases hs : seenItE ⟨ek, es, ec, ei, (x1, x2, x3)⟩ with
    | false =>
      have HR := Lib.hid (show may2 ⟨ek, es, ec, ei, (x1, x2, x3)⟩ = false by rw [HM.out, hm, hs]; rfl)
      go_wp2_with fail
      go_ret
      exact ⟨by rw [HR.out]; rfl, HX.out⟩
    | true =>
      cases ec with
      | nil =>
        have HR := Lib.hid (show may2 ⟨ek, es, [], ei, (x1, x2, x3)⟩ = decide ((x1, x2, x3) = ((0, [], false) : Cell)) by rw [HM.out, hm, hs]; rfl)
        go_wp2_with fail
        all_goals
          go_ret
          refine ⟨?_, HX.out⟩
          rw [HR.out]
          simp [*]
      | cons it ec =>
        have HR := Lib.hid (show may2 ⟨ek, es, it :: ec, ei, (x1, x2, x3)⟩ = false by rw [HM.out, hm, hs]; rfl)
        go_wp2_with fail
        go_ret
        exact ⟨by rw [HR.out]; rfl, HX.out⟩

set_option maxRecDepth 100000 in
set_option maxHeartbeats 1000000 in
theorem may3_any {S : Nat → Prop} {e : Entry} {v1 v2 v3 : Value} {W : World} {B : Nat} (hb : RowIs W B 37 (entL e v1 v2 v3) []) (h : EntAt W S e v1 v2 v3) :
    Calls Tryz.prog 124 #[.pointer (some ⟨B, 0, none⟩)] W fun r w' => r = .returned (.bool (may3 e)) ∧ Ext W w' := by
  obtain ⟨ek, es, ec, ei, x1, x2, x3⟩ := e
  have HM := Lib.hid (show may3 ⟨ek, es, ec, ei, (x1, x2, x3)⟩ = (mayC (x1, x2, x3) && (decide (ec.length = 0) && decide (ei.length = 0))) from rfl)
  have HC := Lib.hid (mayC_any (x1, x2, x3) W)
  obtain ⟨A1, n1, rfl, -, -⟩ := h.seen.form
  obtain ⟨A2, n2, rfl, -, -⟩ := h.counts.form
  obtain ⟨A3, n3, rfl, -, -⟩ := h.items.form
  have k4 := hb.cell (j := 4) rfl
  have k5 := hb.cell (j := 5) rfl
  have k6 := hb.cell (j := 6) rfl
  clear h
  go_enter Tryz.func124, Tryz.ntmps124
  go_wp2_with fail
  refine HC.out.mono ?_
  rintro r W1 ⟨rfl, hx1⟩
  have hb1 := hb.ext hx1
  have c2 := hb1.cell (j := 2) rfl
  have c3 := hb1.cell (j := 3) rfl
  cases hm : mayC (x1, x2, x3) with
  | false =>
    have HR := Lib.hid (show may3 ⟨ek, es, ec, ei, (x1, x2, x3)⟩ = false by rw [HM.out, hm]; rfl)
    go_wp2_with fail
    go_ret
    exact ⟨by rw [HR.out]; rfl, hx1⟩
  | true =>
    cases ec with
    | nil =>
      cases ei with
      | nil =>
        have HR := Lib.hid (show may3 ⟨ek, es, [], [], (x1, x2, x3)⟩ = true by rw [HM.out, hm]; rfl)
        go_wp2_with fail
        go_ret
        exact ⟨by rw [HR.out]; rfl, hx1⟩
      | cons it ei =>
        have HR := Lib.hid (show may3 ⟨ek, es, [], it :: ei, (x1, x2, x3)⟩ = false by rw [HM.out, hm]; rfl)
        go_wp2_with fail
        go_ret
        exact ⟨by rw [HR.out]; rfl, hx1⟩
    | cons c ec =>
      have HR := Lib.hid (show may3 ⟨ek, es, c :: ec, ei, (x1, x2, x3)⟩ = false by rw [HM.out, hm]; rfl)
      go_wp2_with fail
      go_ret
      exact ⟨by rw [HR.out]; rfl, hx1⟩
end Go.Proofs.YtdikcgmdmcfpfaaGreat
namespace Go.Proofs.YtdikcgmdmcfpfaaGreat
open Go.RowKit Go.Shelf

/-- what lies in May's map: functions over the box B -/
def mayV (B : Nat) : Option Nat → Value
  | none => .nilFunc
  | some f => .func (.func f) #[] #[.pointer (some ⟨B, 0, none⟩)]

theorem zeroF (B : Nat) (w : World) : (zeroValue 43).run Tryz.prog w = .ok (mayV B none) w := Tryz.zeroValue43 w
theorem keyOk8 : KeyOk Tryz.prog 5 K8 := keyOk_u8 Tryz.underlying5

set_option maxRecDepth 100000 in
set_option maxHeartbeats 1000000 in
theorem mayE_any {S : Nat → Prop} {e : Entry} {v1 v2 v3 : Value} {w : World} (h : EntAt w S e v1 v2 v3) (hl40 : e.items.length ≤ 1099511627776) :
    Calls Tryz.prog 65 #[entV e v1 v2 v3] w fun r w' => r = .returned (.bool (mayE e)) ∧ Ext w w' := by
  obtain ⟨ek, es, ec, ei, x1, x2, x3⟩ := e
  have HM := Lib.hid (show mayE ⟨ek, es, ec, ei, (x1, x2, x3)⟩ = (mayM es && (!decide (es.length = 0) && (if kindS ek = 1 then may1 ⟨ek, es, ec, ei, (x1, x2, x3)⟩ else if kindS ek = 2 then may2 ⟨ek, es, ec, ei, (x1, x2, x3)⟩ else if kindS ek = 3 then may3 ⟨ek, es, ec, ei, (x1, x2, x3)⟩ else false))) from rfl)
  generalize mayE ⟨ek, es, ec, ei, (x1, x2, x3)⟩ = R at *
  have H := Lib.hid h
  obtain ⟨A1, n1, rfl, -, -⟩ := h.seen.form
  obtain ⟨A2, n2, rfl, -, -⟩ := h.counts.form
  obtain ⟨A3, n3, rfl, -, -⟩ := h.items.form
  have hx0 := (Ext.refl w).alloc (.cells #[St ek, .slice A1 es.length n1, .slice A2 ec.length n2, .slice A3 ei.length n3, U x1, St x2, .bool x3] 37)
  have hb0 := rowNew w 37 [St ek, .slice A1 es.length n1, .slice A2 ec.length n2, .slice A3 ei.length n3, U x1, St x2, .bool x3]
  have k1 := hb0.cell (j := 1) rfl
  have HMM := Lib.hid (may_any (h.seen.ext (by decide) hx0))
  clear h
  have eg1 : ∀ args w, (callFunc 118 args).run Tryz.prog w = .ok (.enter 118 args) w := enters_of Tryz.func118 (by kernel_rfl) rfl
  have eg2 : ∀ args w, (callFunc 121 args).run Tryz.prog w = .ok (.enter 121 args) w := enters_of Tryz.func121 (by kernel_rfl) rfl
  have eg3 : ∀ args w, (callFunc 124 args).run Tryz.prog w = .ok (.enter 124 args) w := enters_of Tryz.func124 (by kernel_rfl) rfl
  have hmm := @run_makeMap Tryz.prog
  go_enter Tryz.func65, Tryz.ntmps65
  go_wp2_with fail
  generalize hW0 : w.alloc (.cells #[St ek, .slice A1 es.length n1, .slice A2 ec.length n2, .slice A3 ei.length n3, U x1, St x2, .bool x3] 37) = W0 at *
  clear hW0
  refine HMM.out.mono ?_
  rintro r W1 ⟨rfl, hx1⟩
  have hb1 := hb0.ext hx1
  have c0 := hb1.cell (j := 0) rfl
  have c1 := hb1.cell (j := 1) rfl
  have hX1 := hx0.trans hx1
  cases hm : mayM es with
  | false =>
    have HR := Lib.hid (show R = false by rw [HM.out, hm]; rfl)
    go_wp2_with fail
    go_ret
    exact ⟨by rw [HR.out]; rfl, hX1⟩
  | true =>
    cases es with
    | nil =>
      have HR := Lib.hid (show R = false by rw [HM.out, hm]; rfl)
      go_wp2_with fail
      go_ret
      exact ⟨by rw [HR.out]; rfl, hX1⟩
    | cons m es =>
      have HR := Lib.hid (show R = (if kindS ek = 1 then may1 ⟨ek, m :: es, ec, ei, (x1, x2, x3)⟩ else if kindS ek = 2 then may2 ⟨ek, m :: es, ec, ei, (x1, x2, x3)⟩ else if kindS ek = 3 then may3 ⟨ek, m :: es, ec, ei, (x1, x2, x3)⟩ else false) by rw [HM.out, hm]; rfl)
      have hz1 := hb1.lt
      obtain ⟨Wa, ua, ma, ta⟩ := run_update_MapIs (P := Tryz.prog) (t := 186) Tryz.underlying186 keyOk8 (MapIs.new (K := K8) (V := mayV w.heap.size) W1) 1 (some 118)
      obtain ⟨Wb, ub, mb, tb⟩ := run_update_MapIs (P := Tryz.prog) (t := 186) Tryz.underlying186 keyOk8 ma 2 (some 121)
      obtain ⟨Wc, uc, mc, tc⟩ := run_update_MapIs (P := Tryz.prog) (t := 186) Tryz.underlying186 keyOk8 mb 3 (some 124)
      have hxa := ((Ext.refl W1).alloc (.map #[] 0)).turned ta (Nat.le_refl _)
      have hxb := hxa.turned tb (Nat.le_refl _)
      have hxc := hxb.turned tc (Nat.le_refl _)
      have d0 := (hb1.ext hxc).cell (j := 0) rfl
      have HK := Lib.hid (kind_any ek Wc)
      have HC := Lib.hid mc
      have HXC := Lib.hid hxc
      clear ta tb tc hxa hxb hxc ma mb mc
      have ua' : (Instr.mapUpdate 186 (.map (some W1.heap.size)) (.int .u8 1) (.func (.func 118) #[] #[.pointer (some ⟨w.heap.size, 0, none⟩)])).run Tryz.prog (W1.alloc (.map #[] 0)) = .ok () Wa := ua
      have ub' : (Instr.mapUpdate 186 (.map (some W1.heap.size)) (.int .u8 2) (.func (.func 121) #[] #[.pointer (some ⟨w.heap.size, 0, none⟩)])).run Tryz.prog Wa = .ok () Wb := ub
      have uc' : (Instr.mapUpdate 186 (.map (some W1.heap.size)) (.int .u8 3) (.func (.func 124) #[] #[.pointer (some ⟨w.heap.size, 0, none⟩)])).run Tryz.prog Wb = .ok () Wc := uc
      clear ua ub uc
      go_wp2_with fail
      refine HK.out.mono ?_
      rintro r W2 ⟨rfl, hx2⟩
      have hL := (run_lookup_MapIs (P := Tryz.prog) (t := 186) (z := none) Tryz.underlying186 keyOk8 (zeroF w.heap.size) (HC.out.ext hx2) (kindS ek)).2
      have HB2 := Lib.hid (hb1.ext (HXC.out.trans hx2))
      have HX2 := Lib.hid (hX1.trans (HXC.out.trans hx2))
      generalize hkk : kindS ek = kk at *
      have hL' : (Instr.lookup 186 (.map (some W1.heap.size)) (U8 kk) true).run Tryz.prog W2 = .ok (.tuple #[mayV w.heap.size (getL none (putL (putL (putL [] 1 (some 118)) 2 (some 121)) 3 (some 124)) kk), .bool (decide (kk ∈ [1, 2, 3]))]) W2 := hL
      clear hL
      rcases (show kk = 1 ∨ kk = 2 ∨ kk = 3 ∨ (kk ≠ 1 ∧ kk ≠ 2 ∧ kk ≠ 3) by omega) with h1 | h1 | h1 | ⟨h1, h2, h3⟩
      · subst h1
        have hl : (Instr.lookup 186 (.map (some W1.heap.size)) (U8 1) true).run Tryz.prog W2 = .ok (.tuple #[.func (.func 118) #[] #[.pointer (some ⟨w.heap.size, 0, none⟩)], .bool true]) W2 := hL'
        have HR2 := Lib.hid (show R = may1 ⟨ek, m :: es, ec, ei, (x1, x2, x3)⟩ by rw [HR.out]; rfl)
        clear hL' hkk HR
        have HT := Lib.hid (may1_any HB2.out (H.out.ext HX2.out))
        go_wp2_with fail
        refine HT.out.mono ?_
        rintro r W3 ⟨rfl, hx3⟩
        have HX3 := Lib.hid (HX2.out.trans hx3)
        clear hx3
        go_wp2_with fail
        go_ret
        exact ⟨by rw [HR2.out]; rfl, HX3.out⟩
      · subst h1
        have hl : (Instr.lookup 186 (.map (some W1.heap.size)) (U8 2) true).run Tryz.prog W2 = .ok (.tuple #[.func (.func 121) #[] #[.pointer (some ⟨w.heap.size, 0, none⟩)], .bool true]) W2 := hL'
        have HR2 := Lib.hid (show R = may2 ⟨ek, m :: es, ec, ei, (x1, x2, x3)⟩ by rw [HR.out]; rfl)
        clear hL' hkk HR
        have HT := Lib.hid (may2_any hl40 HB2.out (H.out.ext HX2.out))
        go_wp2_with fail
        refine HT.out.mono ?_
        rintro r W3 ⟨rfl, hx3⟩
        have HX3 := Lib.hid (HX2.out.trans hx3)
        clear hx3
        go_wp2_with fail
        go_ret
        exact ⟨by rw [HR2.out]; rfl, HX3.out⟩
      · subst h1
        have hl : (Instr.lookup 186 (.map (some W1.heap.size)) (U8 3) true).run Tryz.prog W2 = .ok (.tuple #[.func (.func 124) #[] #[.pointer (some ⟨w.heap.size, 0, none⟩)], .bool true]) W2 := hL'
        have HR2 := Lib.hid (show R = may3 ⟨ek, m :: es, ec, ei, (x1, x2, x3)⟩ by rw [HR.out]; rfl)
        clear hL' hkk HR
        have HT := Lib.hid (may3_any HB2.out (H.out.ext HX2.out))
        go_wp2_with fail
        refine HT.out.mono ?_
        rintro r W3 ⟨rfl, hx3⟩
        have HX3 := Lib.hid (HX2.out.trans hx3)
        clear hx3
        go_wp2_with fail
        go_ret
        exact ⟨by rw [HR2.out]; rfl, HX3.out⟩
      · have hl : (Instr.lookup 186 (.map (some W1.heap.size)) (U8 kk) true).run Tryz.prog W2 = .ok (.tuple #[.nilFunc, .bool false]) W2 := by
          rw [hL']
          have e1 : (1 == kk) = false := by simp; omega
          have e2 : (kk == 1) = false := by simp; omega
          have e3 : (kk == 2) = false := by simp; omega
          have e4 : (kk == 3) = false := by simp; omega
          simp [getL, putL, List.lookup, e2, e3, e4, h1, h2, h3, mayV]
        have HR2 := Lib.hid (show R = false by rw [HR.out, if_neg h1, if_neg h2, if_neg h3])
        clear hL' hkk HR
        go_wp2_with fail
        go_ret
        exact ⟨by rw [HR2.out]; rfl, HX2.out⟩
end Go.Proofs.YtdikcgmdmcfpfaaGreat
