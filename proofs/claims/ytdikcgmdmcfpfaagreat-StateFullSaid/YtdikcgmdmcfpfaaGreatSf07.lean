/- Contracts of the functions that the statement goes through, with their plain words: Regions that draw and in which several calls of their own make memory, in any order: an invariant of slots (each listed operation's slot has its fact, and facts last when memory grows); the ops from n on go in order. Package entry: Copy: the walk. Package entry: Join: the walk. Its drawn region's lines are printed by gen_entryjoin.py. Package state: find. slices.EqualFunc at entries; package state: Same. -/
import Derived.Test.YtdikcgmdmcfpfaaGreatSf06
import Derived.StillTail
import Derived.StillTailTactics
namespace Go.Proofs.YtdikcgmdmcfpfaaGreat
open Go.RowKit

section
variable {P : Program} {ops : Array Oper} {Q : Exit → Act → World → Prop}

def dstIdx (ops : Array Oper) (n t : Nat) : Option Nat := (List.range n).find? fun j => ((ops[j]?).bind (·.dst)) == some t
def canonL (n m : Nat) : Array Bool := ((List.range m).map fun i => decide (i < n)).toArray
def headOp (ops : Array Oper) (n N i : Nat) (o : Oper) : Bool :=
  (o.after.toList.all fun e => !Region.binds .any e || decide (e.on < i)) && (match o.dst with | none => false | some d => decide (d < N) && (dstIdx ops n d == some i)) &&
    ((o.looksAt ops).all fun t => match dstIdx ops n t with | none => true | some j => Region.waitsFor .any ops i j)
def headB (ops : Array Oper) (n N : Nat) : Bool :=
  decide (n < ops.size) && Region.sinkB .any ops n && Region.chainB .any ops n && ((List.range n).all fun i => match ops[i]? with | none => false | some o => headOp ops n N i o) &&
    Region.seqB .any ops (ops.size - n) n (canonL n ops.size)

def InvAct (N : Nat) (ds : List Deferred) (x : Nat → Value) : Act := ⟨((List.range N).map x).toArray, ds⟩
theorem invAct_eq (a : Act) : a = InvAct a.tmps.size a.defers (fun t => a.eval (.tmp t)) := by
  obtain ⟨t, d⟩ := a
  simp only [InvAct, Act.mk.injEq, and_true]
  apply Array.ext_getElem?
  intro i
  by_cases h : i < t.size <;> simp [h, Act.eval, Array.getElem?_eq_none]
  

theorem putA_size (a : Act) (d : Option Tmp) (v : Value) : (a.put d v).tmps.size = a.tmps.size := by cases d <;> simp [Act.put]
theorem putA_defers (a : Act) (d : Option Tmp) (v : Value) : (a.put d v).defers = a.defers := by cases d <;> simp [Act.put]
theorem putA_same (a : Act) (d : Nat) (v : Value) (h : d < a.tmps.size) : (a.put (some d) v).eval (.tmp d) = v := by simp [Act.put, Act.eval, Array.getD, h]
theorem putA_ne (a : Act) (d j : Nat) (v : Value) (h : d ≠ j) : (a.put (some d) v).eval (.tmp j) = a.eval (.tmp j) := by
  simp only [Act.put, Act.eval, Array.getD_eq_getD_getElem?]
  rw [Array.getElem?_setIfInBounds_ne h]

def stepQ (A : Act) (dst : Option Tmp) (R : Value → World → Prop) (w : World) : Exit → Act → World → Prop
  | .normal, a', w' => ∃ v, a' = A.put dst v ∧ R v w' ∧ Ext w w'
  | _, _, _ => False

def slotFact (ops : Array Oper) (n : Nat) (a0 : Act) (R : Nat → Value → World → Prop) (x : Nat → Value) (w : World) (t : Nat) : Prop :=
  match dstIdx ops n t with
  | none => x t = a0.eval (.tmp t)
  | some j => R j (x t) w

structure RInv (ops : Array Oper) (n : Nat) (a0 : Act) (w0 : World) (R : Nat → Value → World → Prop) (listed : Array Bool) (a : Act) (w : World) : Prop where
  size : a.tmps.size = a0.tmps.size
  defers : a.defers = a0.defers
  ext : Ext w0 w
  old : ∀ t, dstIdx ops n t = none → a.eval (.tmp t) = a0.eval (.tmp t)
  got : ∀ i d, dstIdx ops n d = some i → listed.getD i false = true → R i (a.eval (.tmp d)) w

def cntU (n : Nat) (listed : Array Bool) : Nat := (List.range n).countP fun i => !listed.getD i false
theorem countP_one (f g : Nat → Bool) (i : Nat) (hf : f i = true) (hg : g i = false) (h : ∀ j, j ≠ i → f j = g j) : ∀ n, i < n → (List.range n).countP g + 1 = (List.range n).countP f
  | 0, h0 => by omega
  | n + 1, h0 => by
    rw [List.range_succ, List.countP_append, List.countP_append]
    by_cases hi : i = n
    · subst hi
      have : (List.range i).countP g = (List.range i).countP f := List.countP_congr fun j hj => by rw [h j (by have := List.mem_range.1 hj; omega)]
      simp [this, hf, hg]
    · have := countP_one f g i hf hg h n (by omega)
      simp [h n (Ne.symm hi)]
      omega

theorem dstIdx_some {n t j : Nat} (h : dstIdx ops n t = some j) : j < n ∧ (ops[j]?).bind (·.dst) = some t := by
  unfold dstIdx at h
  exact ⟨List.mem_range.1 (List.mem_of_find?_eq_some h), by simpa using List.find?_some h⟩

theorem wp_mono2 {o : Oper} {a : Act} {w : World} {K K' : Act → World → Prop} {Q' : Exit → Act → World → Prop} (h : ∀ a w, K a w → K' a w) (hq : ∀ e a w, e ≠ .normal → Q' e a w → False)
    (hh : o.wp P a w K Q') : o.wp P a w K' Q := by
  unfold Oper.wp at *
  generalize (execOp a.eval o).run P w = r at *
  cases r with
  | ok n w' =>
    cases n <;> simp only [Oper.upon] at hh ⊢ <;>
      first
        | exact h _ _ hh
        | exact Calls.mono hh (fun e w'' he => by
            cases e with
            | returned v => exact h _ _ he
            | panicked c => exact (hq _ _ _ (by simp) he).elim
            | outgrown => obtain ⟨a, w, he⟩ := he; exact (hq _ _ _ (by simp) he).elim)
        | exact Rows.mono hh (fun _ _ he => h _ _ he)
  | halt x w' => cases x <;> simp only [Oper.upon] at hh ⊢ <;> first | exact hh.elim | exact (hq _ _ _ (by simp) hh).elim

theorem wpOp_of_list {i : Nat} {o : Oper} {a : Act} {w : World} {K : Act → World → Prop} {Q' : Exit → Act → World → Prop} (hi : ops[i]? = some o) (hq : ∀ e a w, e ≠ .normal → Q' e a w → False)
    (h : ∀ a w, Q' .normal a w → K a w) (hh : wpList P ops Q' [o] a w) : wpOp P ops Q i K a w := by
  unfold wpOp
  rw [hi]
  by_cases hw : Region.wanted o (yielded ops a.tmps) = true
  · simp only [wpList, hw, if_true] at hh ⊢
    rcases hh with hh | ⟨_, a1, w1, hh⟩
    · exact .inl (wp_mono2 h hq hh)
    · exact (hq _ _ _ (by simp) hh).elim
  · simp only [wpList, if_neg hw] at hh ⊢
    exact h _ _ hh

variable {n N : Nat} {a0 : Act} {w0 : World} {R : Nat → Value → World → Prop}

theorem headB_spec (h : headB ops n N = true) : n < ops.size ∧ Region.sinkB .any ops n = true ∧ Region.chainB .any ops n = true ∧ (∀ i o, i < n → ops[i]? = some o → headOp ops n N i o = true) ∧ Region.seqB .any ops (ops.size - n) n (canonL n ops.size) = true := by
  simp only [headB, Bool.and_eq_true, decide_eq_true_eq, List.all_eq_true, List.mem_range] at h
  obtain ⟨⟨⟨⟨h1, h2⟩, h3⟩, h4⟩, h5⟩ := h
  exact ⟨h1, h2, h3, fun i o hi ho => by have := h4 i hi; rw [ho] at this; exact this, h5⟩

theorem headOp_spec {i : Nat} {o : Oper} (h : headOp ops n N i o = true) : (∀ e ∈ o.after, Region.binds .any e = true → e.on < i) ∧ (∃ d, o.dst = some d ∧ d < N ∧ dstIdx ops n d = some i) ∧
    (∀ t ∈ o.looksAt ops, ∀ j, dstIdx ops n t = some j → Region.waitsFor .any ops i j = true) := by
  simp only [headOp, Bool.and_eq_true, List.all_eq_true, Option.isNone_iff_eq_none] at h
  obtain ⟨⟨h2, h3⟩, h4⟩ := h
  refine ⟨fun e he hb => ?_, ?_, fun t ht j hj => ?_⟩
  · have := h2 e (by simpa using he)
    simpa [hb] using this
  · cases hd : o.dst with
    | none => rw [hd] at h3; cases h3
    | some d => rw [hd] at h3; simp at h3; exact ⟨d, rfl, h3⟩
  · have := h4 t ht
    rw [hj] at this
    exact this

theorem least_ready (hB : headB ops n N = true) {listed : Array Bool} (inv : HeadInv .any ops n listed) : ∀ i, i < n → listed.getD i false = false → ∃ j, j < n ∧ j ∈ Region.ready .any ops listed := by
  obtain ⟨h1, h2, h3, h4, h5⟩ := headB_spec hB
  intro i
  induction i using Nat.strongRecOn with
  | _ i ih =>
    intro hi hl
    have hio : i < ops.size := by omega
    have hoi : ops[i]? = some ops[i] := by simp [hio]
    obtain ⟨g2, g3, g4⟩ := headOp_spec (h4 i _ hi hoi)
    by_cases hall : ∀ e ∈ (ops[i]).after, Region.binds .any e = true → listed.getD e.on false = true
    · refine ⟨i, hi, mem_ready.2 ⟨?_, _, hoi, hall⟩⟩
      exact getD_in (by rw [inv.size]; omega) hl
    · simp only [Classical.not_forall] at hall
      obtain ⟨e, he, hb, hne⟩ := hall
      have := g2 e he hb
      exact ih e.on this (by omega) (by simpa using hne)

theorem wpAny_inv (hB : headB ops n a0.tmps.size = true) (hR : ∀ i v w w', R i v w → Ext w w' → R i v w')
    (hstep : ∀ i o, i < n → ops[i]? = some o → ∀ (x : Nat → Value) (w : World), Ext w0 w → (∀ t ∈ o.looksAt ops, slotFact ops n a0 R x w t) → wpList P ops (stepQ (InvAct a0.tmps.size a0.defers x) o.dst (R i) w) [o] (InvAct a0.tmps.size a0.defers x) w)
    (hend : ∀ (x : Nat → Value) (w : World), Ext w0 w → (∀ t, slotFact ops n a0 R x w t) → wpList P ops Q (ops.toList.drop n) (InvAct a0.tmps.size a0.defers x) w) :
    ∀ (k : Nat) (listed : Array Bool) (a : Act) (w : World), HeadInv .any ops n listed → cntU n listed = k → RInv ops n a0 w0 R listed a w → wpAny P .any ops Q (k + (ops.size - n)) listed a w := by
  obtain ⟨h1, h2, h3, h4, h5⟩ := headB_spec hB
  intro k
  induction k with
  | zero =>
    intro listed a w inv hc ri
    have hall : ∀ i, i < n → listed.getD i false = true := fun i hi => by
      have := List.countP_eq_zero.1 hc i (List.mem_range.2 hi)
      simpa using this
    have hcan : listed = canonL n ops.size := by
      apply Array.ext_getElem?
      intro i
      by_cases hi : i < ops.size
      · have hil : i < listed.size := by rw [inv.size]; exact hi
        by_cases hin : i < n
        · have := hall i hin
          simp [hil] at this
          simp [canonL, hi, hin, hil, this]
        · have := inv.tail i (by omega) hi
          simp [hil] at this
          simp [canonL, hi, hin, hil, this]
      · have hil : ¬ i < listed.size := by rw [inv.size]; exact hi
        simp [canonL, hi, hil]
    have hlen : (ops.toList.drop n).length = ops.size - n := by simp
    have ha := invAct_eq a
    rw [ri.size, ri.defers] at ha
    have hw : wpList P ops Q (ops.toList.drop n) a w := by
      rw [ha]
      refine hend _ w ri.ext fun t => ?_
      unfold slotFact
      split
      · rename_i hd; exact ri.old t hd
      · rename_i j hd; exact ri.got j t hd (hall j (dstIdx_some hd).1)
    have := wpAny_of_seq (md := .any) (Q' := Q) (ops.toList.drop n) n listed a w (fun j => by simp [List.getElem?_drop]) (by rw [hlen, hcan]; exact h5) hw
    rw [hlen] at this
    rw [Nat.zero_add]
    exact this
  | succ k ih =>
    intro listed a w inv hc ri
    have hex : ∃ i, i < n ∧ listed.getD i false = false := by
      have : 0 < cntU n listed := by omega
      obtain ⟨i, hi, hl⟩ := List.countP_pos_iff.1 this
      exact ⟨i, List.mem_range.1 hi, by simpa using hl⟩
    obtain ⟨i0, hi0, hl0⟩ := hex
    obtain ⟨jr, hjr, hjr2⟩ := least_ready hB inv i0 hi0 hl0
    rw [show k + 1 + (ops.size - n) = (k + (ops.size - n)) + 1 by omega]
    refine ⟨(fun h0 => (by rw [h0] at hjr2; cases hjr2)), fun i hi => ?_⟩
    have hin : i < n := by
      rcases Nat.lt_or_ge i n with h | h
      · exact h
      · exact absurd hi (tail_waits h2 h3 h1 inv _ i0 rfl hi0 (getD_in (by rw [inv.size]; omega) hl0) i h)
    obtain ⟨hun, o, ho, hdeps⟩ := mem_ready.1 hi
    obtain ⟨g2, ⟨d, g3, g3', g3''⟩, g4⟩ := headOp_spec (h4 i o hin ho)
    have ha := invAct_eq a
    rw [ri.size, ri.defers] at ha
    have hs := hstep i o hin ho (fun t => a.eval (.tmp t)) w ri.ext fun t ht => by
      unfold slotFact
      split
      · rename_i hd; exact ri.old t hd
      · rename_i j hd
        refine ri.got j t hd ?_
        obtain ⟨o', ho', e, he, hb, hon⟩ := Region.waitsFor_spec (g4 t ht j hd)
        have : o' = o := Option.some.inj (ho'.symm.trans ho)
        subst this
        rw [← hon]
        exact hdeps e he hb
    rw [← ha] at hs
    refine wpOp_of_list ho (fun e a w he h => by cases e <;> first | exact absurd rfl he | exact h) (fun a' w' h => ?_) hs
    obtain ⟨v, rfl, hv, hx⟩ := h
    rw [g3]
    have hsz : d < a.tmps.size := by rw [ri.size]; exact g3'
    refine ih _ _ _ (inv.set hi hin) ?_ ⟨by rw [putA_size]; exact ri.size, by rw [putA_defers]; exact ri.defers, ri.ext.trans hx, fun t ht => ?_, fun j t ht hl => ?_⟩
    · have := countP_one (fun j => !listed.getD j false) (fun j => !(listed.setIfInBounds i true).getD j false) i (by simpa using getD_both hun) (by
        have hlt : i < listed.size := by rw [inv.size]; omega
        simp [hlt]) (fun j hj => by simp only [getD_set_ne false (Ne.symm hj)]) n hin
      unfold cntU at hc ⊢
      omega
    · rw [putA_ne _ _ _ _ (fun e => by subst e; rw [ht] at g3''; cases g3'')]
      exact ri.old t ht
    · by_cases hdt : d = t
      · subst hdt
        obtain rfl : j = i := Option.some.inj (ht.symm.trans g3'')
        rw [putA_same _ _ _ hsz]
        exact hv
      · rw [putA_ne _ _ _ _ hdt]
        have hji : i ≠ j := fun e => by
          subst e
          have := (dstIdx_some ht).2
          rw [ho] at this
          exact hdt (Option.some.inj (g3.symm.trans this))
        rw [getD_set_ne false hji] at hl
        exact hR _ _ _ _ (ri.got j t ht hl) hx

theorem wp_region_inv {id : Nat} {l : List Oper} (n : Nat) (R : Nat → Value → World → Prop) (hm : P.follows .mixedOrders = true) (hB : headB l.toArray n a0.tmps.size = true) (hR : ∀ i v w w', R i v w → Ext w w' → R i v w')
    (hstep : ∀ i o, i < n → l[i]? = some o → ∀ (x : Nat → Value) (w : World), Ext w0 w → (∀ t ∈ o.looksAt l.toArray, slotFact l.toArray n a0 R x w t) → wpList P l.toArray (stepQ (InvAct a0.tmps.size a0.defers x) o.dst (R i) w) [o] (InvAct a0.tmps.size a0.defers x) w)
    (hend : ∀ (x : Nat → Value) (w : World), Ext w0 w → (∀ t, slotFact l.toArray n a0 R x w t) → wpList P l.toArray Q (l.drop n) (InvAct a0.tmps.size a0.defers x) w) :
    (Code.region id l.toArray true).wp P Q a0 w0 := by
  refine wp_region_any hm ?_
  have h1 := (headB_spec hB).1
  have hrep : cntU n (Array.replicate l.toArray.size false) = n := by
    unfold cntU
    rw [List.countP_eq_length.2 (fun i _ => by rw [getD_replicate_false]; rfl)]
    exact List.length_range
  have := wpAny_inv (P := P) (Q := Q) (w0 := w0) hB hR (fun i o hi ho => hstep i o hi (by simpa using ho)) hend n (Array.replicate l.toArray.size false) a0 { w0 with drawn := w0.drawn + 1 }
    ⟨by simp, fun j oj _ hl => (by rw [getD_replicate_false] at hl; cases hl), fun t _ ht => getD_in (by simpa using ht) (getD_replicate_false _ _)⟩ hrep
    ⟨rfl, rfl, (Ext.refl w0).drew, fun _ _ => rfl, fun j d _ hl => (by rw [getD_replicate_false] at hl; cases hl)⟩
  rw [show n + (l.toArray.size - n) = l.toArray.size by omega] at this
  exact this

def slotFacts (ops : Array Oper) (n : Nat) (a0 : Act) (R : Nat → Value → World → Prop) (x : Nat → Value) (w : World) : List Tmp → Prop
  | [] => True
  | t :: l => slotFact ops n a0 R x w t ∧ slotFacts ops n a0 R x w l
theorem slotFacts_of {x : Nat → Value} {w : World} : ∀ l : List Tmp, (∀ t ∈ l, slotFact ops n a0 R x w t) → slotFacts ops n a0 R x w l
  | [], _ => trivial
  | t :: l, h => ⟨h t (by simp), slotFacts_of l fun s hs => h s (by simp [hs])⟩
def nthR (Rs : List (Value → World → Prop)) (i : Nat) : Value → World → Prop := Rs.getD i fun _ _ => True
def stepsAll (P : Program) (ops : Array Oper) (n : Nat) (a0 : Act) (w0 : World) (R : Nat → Value → World → Prop) : List Oper → List (Value → World → Prop) → Prop
  | o :: l, r :: rs => (∀ (x : Nat → Value) (w : World), Ext w0 w → slotFacts ops n a0 R x w (o.looksAt ops) → wpList P ops (stepQ (InvAct a0.tmps.size a0.defers x) o.dst r w) [o] (InvAct a0.tmps.size a0.defers x) w) ∧ stepsAll P ops n a0 w0 R l rs
  | [], [] => True
  | _, _ => False
theorem stepsAll_at : ∀ (l : List Oper) (rs : List (Value → World → Prop)), stepsAll P ops n a0 w0 R l rs → ∀ i o, l[i]? = some o → ∀ (x : Nat → Value) (w : World), Ext w0 w → (∀ t ∈ o.looksAt ops, slotFact ops n a0 R x w t) →
    wpList P ops (stepQ (InvAct a0.tmps.size a0.defers x) o.dst (nthR rs i) w) [o] (InvAct a0.tmps.size a0.defers x) w
  | [], _, _, i, o, ho, _, _, _, _ => by simp at ho
  | p :: l, [], h, _, _, _, _, _, _, _ => h.elim
  | p :: l, r :: rs, h, 0, o, ho, x, w, he, hf => by
    obtain rfl : p = o := by simpa using ho
    exact h.1 x w he (slotFacts_of _ hf)
  | p :: l, r :: rs, h, i + 1, o, ho, x, w, he, hf => by
    have := stepsAll_at l rs h.2 i o (by simpa using ho) x w he hf
    simpa [nthR] using this

theorem stepQ_ok {A : Act} {dst : Option Tmp} {r : Value → World → Prop} {w w' : World} {v : Value} (hv : r v w') (hx : Ext w w') : stepQ A dst r w .normal (A.put dst v) w' := ⟨v, rfl, hv, hx⟩
@[go_sem] theorem invAct_getD (N : Nat) (ds : List Deferred) (x : Nat → Value) (t : Nat) (u : Value) (h : t < N) : (InvAct N ds x).tmps.getD t u = x t := by simp [InvAct, h]
@[go_sem] theorem invAct_get? (N : Nat) (ds : List Deferred) (x : Nat → Value) (t : Nat) (h : t < N) : (InvAct N ds x).tmps[t]? = some (x t) := by simp [InvAct, h]
@[go_sem] theorem invAct_eval (N : Nat) (ds : List Deferred) (x : Nat → Value) (t : Nat) (h : t < N) : (InvAct N ds x).eval (.tmp t) = x t := by simp [InvAct, h, Act.eval]

def putAll (a : Act) (x : Nat → Value) : List Nat → Act
  | [] => a
  | d :: ds => putAll (a.put (some d) (x d)) x ds
theorem putAll_size (x : Nat → Value) : ∀ (ds : List Nat) (a : Act), (putAll a x ds).tmps.size = a.tmps.size ∧ (putAll a x ds).defers = a.defers
  | [], a => ⟨rfl, rfl⟩
  | d :: ds, a => by
    obtain ⟨h1, h2⟩ := putAll_size x ds (a.put (some d) (x d))
    exact ⟨h1.trans (putA_size _ _ _), h2.trans (putA_defers _ _ _)⟩
theorem putAll_eval (x : Nat → Value) : ∀ (ds : List Nat) (a : Act) (t : Nat), t < a.tmps.size → (putAll a x ds).eval (.tmp t) = if t ∈ ds then x t else a.eval (.tmp t)
  | [], a, t, _ => by simp [putAll]
  | d :: ds, a, t, ht => by
    have := putAll_eval x ds (a.put (some d) (x d)) t (by rw [putA_size]; exact ht)
    unfold putAll
    rw [this]
    by_cases h1 : t ∈ ds
    · simp [h1]
    · by_cases h2 : d = t
      · subst h2; simp [h1, putA_same _ _ _ ht]
      · rw [putA_ne _ _ _ _ h2]; simp [h1, Ne.symm h2]
theorem invAct_putAll {l : List Oper} {x : Nat → Value} (hx : ∀ t, dstIdx l.toArray n t = none → x t = a0.eval (.tmp t)) : InvAct a0.tmps.size a0.defers x = putAll a0 x ((l.take n).filterMap (·.dst)) := by
  obtain ⟨h1, h2⟩ := putAll_size x ((l.take n).filterMap (·.dst)) a0
  rw [invAct_eq (putAll a0 x ((l.take n).filterMap (·.dst))), h1, h2]
  unfold InvAct
  congr 2
  apply List.map_congr_left
  intro t ht
  rw [putAll_eval _ _ _ _ (List.mem_range.1 ht)]
  split
  · rfl
  · rename_i hm
    refine hx t ?_
    unfold dstIdx
    rw [List.find?_eq_none]
    intro j hj hd
    refine hm ?_
    have hj' := List.mem_range.1 hj
    simp only [beq_iff_eq, Option.bind_eq_some_iff] at hd
    obtain ⟨o, ho, hd⟩ := hd
    rw [List.mem_filterMap]
    refine ⟨o, ?_, hd⟩
    have : (l.take n)[j]? = some o := by rw [List.getElem?_take_of_lt hj']; simpa using ho
    exact List.mem_of_getElem? this

/-- the law as it is used: a fact for each of the first ops' slots, each of which lasts while memory grows -/
theorem wp_region_facts {id : Nat} {l : List Oper} (Rs : List (Value → World → Prop)) (hm : P.follows .mixedOrders = true) (hB : headB l.toArray Rs.length a0.tmps.size = true)
    (hR : ∀ r ∈ Rs, ∀ v w w', r v w → Ext w w' → r v w')
    (hstep : stepsAll P l.toArray Rs.length a0 w0 (nthR Rs) (l.take Rs.length) Rs)
    (hend : ∀ (x : Nat → Value) (w : World), Ext w0 w → slotFacts l.toArray Rs.length a0 (nthR Rs) x w ((l.take Rs.length).filterMap (·.dst)) → wpList P l.toArray Q (l.drop Rs.length) (putAll a0 x ((l.take Rs.length).filterMap (·.dst))) w) :
    (Code.region id l.toArray true).wp P Q a0 w0 :=
  wp_region_inv Rs.length (nthR Rs) hm hB (fun i v w w' h he => by
    unfold nthR at h ⊢
    by_cases hi : i < Rs.length
    · rw [List.getD_eq_getElem?_getD, List.getElem?_eq_getElem hi] at h ⊢
      exact hR _ (List.getElem_mem hi) v w w' h he
    · rw [List.getD_eq_getElem?_getD, List.getElem?_eq_none (by omega)] at h ⊢
      trivial) (fun i o hi ho => stepsAll_at _ _ hstep i o (by rw [List.getElem?_take_of_lt hi]; exact ho)) (fun x w he h => by
    rw [invAct_putAll (fun t ht => by have := h t; unfold slotFact at this; rw [ht] at this; exact this)]
    exact hend x w he (slotFacts_of _ fun t _ => h t))
end
end Go.Proofs.YtdikcgmdmcfpfaaGreat
namespace Go.Proofs.YtdikcgmdmcfpfaaGreat
open Go.RowKit Go.Shelf

abbrev entL (e : Entry) (v1 v2 v3 : Value) : List Value := [St e.key, v1, v2, v3, U e.cell.1, St e.cell.2.1, .bool e.cell.2.2]
theorem rowNew (w : World) (T : Nat) (xs : List Value) : RowIs (w.alloc (.cells xs.toArray T)) w.heap.size T xs [] := by
  unfold RowIs
  rw [List.append_nil]
  exact Go.heap_alloc_new w _

set_option maxRecDepth 100000 in
set_option maxHeartbeats 1000000 in
theorem copyE_any {S : Nat → Prop} {e : Entry} {v1 v2 v3 : Value} {w : World} (h : EntAt w S e v1 v2 v3) (hl1 : e.seen.length ≤ 1099511627776) (hl2 : e.counts.length ≤ 1099511627776) (hl3 : e.items.length ≤ 1099511627776) (hl4 : ∀ it ∈ e.items, it.2.length ≤ 1099511627776) :
    Calls Tryz.prog 62 #[entV e v1 v2 v3] w fun r w' => ∃ u1 u2 u3, r = .returned (entV e u1 u2 u3) ∧ EntNew w' w.heap.size e u1 u2 u3 ∧ Ext w w' := by
  have h' := h.mono (S' := fun b => S b ∧ b < w.heap.size) (fun b hb hS => ⟨hS, hb⟩)
  obtain ⟨ek, es, ec, ei, x1, x2, x3⟩ := e
  obtain ⟨A1, n1, rfl, -, -⟩ := h.seen.form
  obtain ⟨A2, n2, rfl, -, -⟩ := h.counts.form
  obtain ⟨A3, n3, rfl, -, -⟩ := h.items.form
  have H := Lib.hid h'
  have hx0 := ((Ext.refl w).alloc (.cells #[St ek, .slice A1 es.length n1, .slice A2 ec.length n2, .slice A3 ei.length n3, U x1, St x2, .bool x3] 37)).alloc (.cells #[St [], .slice none 0 0, .slice none 0 0, .slice none 0 0, .int .u64 0, St [], .bool false] 37)
  have hb0 := (rowNew w 37 [St ek, .slice A1 es.length n1, .slice A2 ec.length n2, .slice A3 ei.length n3, U x1, St x2, .bool x3]).alloc (.cells #[St [], .slice none 0 0, .slice none 0 0, .slice none 0 0, .int .u64 0, St [], .bool false] 37)
  have hr0 := rowNew (w.alloc (.cells #[St ek, .slice A1 es.length n1, .slice A2 ec.length n2, .slice A3 ei.length n3, U x1, St x2, .bool x3] 37)) 37 [St [], .slice none 0 0, .slice none 0 0, .slice none 0 0, .int .u64 0, St [], .bool false]
  rw [World.size_alloc] at hr0
  have hz1 : w.heap.size + 2 ≤ ((w.alloc (.cells #[St ek, .slice A1 es.length n1, .slice A2 ec.length n2, .slice A3 ei.length n3, U x1, St x2, .bool x3] 37)).alloc (.cells #[St [], .slice none 0 0, .slice none 0 0, .slice none 0 0, .int .u64 0, St [], .bool false] 37)).heap.size := by simp
  clear h h'
  go_enter Tryz.func62, Tryz.ntmps62
  go_wp2_with fail
  generalize hW0 : (w.alloc (.cells #[St ek, .slice A1 es.length n1, .slice A2 ec.length n2, .slice A3 ei.length n3, U x1, St x2, .bool x3] 37)).alloc (.cells #[St [], .slice none 0 0, .slice none 0 0, .slice none 0 0, .int .u64 0, St [], .bool false] 37) = W0 at *
  clear hW0
  have H1 := Lib.hid (clone_mark (H.out.seen.ext (by decide) hx0) hl1)
  refine H1.out.mono ?_
  rintro r W1 ⟨u1, rfl, hu1, hx1⟩
  have hx01 := hx0.trans hx1
  have hb1 := hb0.ext hx1
  have hr1 := hr0.ext hx1
  have hf1 := hb1.frozen 1
  have hc1 := hb1.cell (j := 1) rfl
  have hu1' := (own_markT.1 hu1).lower hz1
  obtain ⟨B1, m1, rfl, -, -⟩ := hu1.form
  have HU1 := Lib.hid hu1'
  have hsb := (hb1.set (j := 1) (by simp) (.slice B1 es.length m1))
  have hc2 := hsb.cell (j := 2) rfl
  have hr1' := hr1.other (p := ⟨w.heap.size, 1, none⟩) (by simp) (.slice B1 es.length m1)
  have hx1' := hx01.set (p := ⟨w.heap.size, 1, none⟩) (Nat.le_refl _) (.slice B1 es.length m1)
  have HU1' := Lib.hid (hu1'.keep (w' := W1.setCell ⟨w.heap.size, 1, none⟩ (.slice B1 es.length m1)) fun b hb _ => Below.heap_setCell _ _ _ _ (fun e => by have := (hu1'.base_le hb).1; have e2 : b = w.heap.size := e; omega))
  have hz2 : W0.heap.size ≤ (W1.setCell ⟨w.heap.size, 1, none⟩ (.slice B1 es.length m1)).heap.size := by rw [World.size_setCell]; exact hx1.size
  replace hz2 := Nat.le_trans hz1 hz2
  clear hu1 hu1' HU1
  go_wp2_with fail
  generalize W1.setCell ⟨w.heap.size, 1, none⟩ (.slice B1 es.length m1) = W1s at *
  clear hx1 hr1 hb1 hx01 hx0 hr0 hb0 hc1 hf1 hc2 hz1 H1
  clear W1 W0
  simp only [List.set_cons_succ, List.set_cons_zero] at hsb
  have H2 := Lib.hid (clone_count (H.out.counts.ext (by decide) hx1') hl2)
  refine H2.out.mono ?_
  rintro r W2 ⟨u2, rfl, hu2, hx2⟩
  have hx12 := hx1'.trans hx2
  have hb2 := hsb.ext hx2
  have hr2 := hr1'.ext hx2
  have hf2 := hb2.frozen 2
  have hc2 := hb2.cell (j := 2) rfl
  have hu2' := ((OwnL.flat_iff (S := fun b => S b ∧ b < w.heap.size)).1 hu2).lower hz2
  obtain ⟨B2, m2, rfl, -, -⟩ := hu2.form
  have HU1 := Lib.hid (HU1'.out.ext hx2)
  have hsb2 := (hb2.set (j := 2) (by simp) (.slice B2 ec.length m2))
  have hc3 := hsb2.cell (j := 3) rfl
  have hr2' := hr2.other (p := ⟨w.heap.size, 2, none⟩) (by simp) (.slice B2 ec.length m2)
  have hx2' := hx12.set (p := ⟨w.heap.size, 2, none⟩) (Nat.le_refl _) (.slice B2 ec.length m2)
  have HV1 := Lib.hid (HU1.out.keep (w' := W2.setCell ⟨w.heap.size, 2, none⟩ (.slice B2 ec.length m2)) fun b hb _ => Below.heap_setCell _ _ _ _ (fun e => by have := (HU1.out.base_le hb).1; have e2 : b = w.heap.size := e; omega))
  have HU2 := Lib.hid (hu2'.keep (w' := W2.setCell ⟨w.heap.size, 2, none⟩ (.slice B2 ec.length m2)) fun b hb _ => Below.heap_setCell _ _ _ _ (fun e => by have := (hu2'.base_le hb).1; have e2 : b = w.heap.size := e; omega))
  have hz3 : w.heap.size + 2 ≤ (W2.setCell ⟨w.heap.size, 2, none⟩ (.slice B2 ec.length m2)).heap.size := by rw [World.size_setCell]; exact Nat.le_trans hz2 hx2.size
  clear hu2 hu2' HU1 HU1'
  go_wp2_with fail
  generalize W2.setCell ⟨w.heap.size, 2, none⟩ (.slice B2 ec.length m2) = W2s at *
  clear hx2 hr2 hb2 hx12 hc2 hf2 hc3 H2 hsb hr1' hx1' hz2
  clear W2 W1s
  simp only [List.set_cons_succ, List.set_cons_zero] at hsb2
  have H3 := Lib.hid (clone_item (H.out.items.ext (by decide) hx2') hl3)
  refine H3.out.mono ?_
  rintro r W3 ⟨u3, rfl, hu3, hx3⟩
  have hx23 := hx2'.trans hx3
  have hb3 := hsb2.ext hx3
  have hr3 := hr2'.ext hx3
  have hf3 := hb3.frozen 3
  have hc3 := hb3.cell (j := 3) rfl
  have hB1 : ∀ b, ownBlk (.slice B1 es.length m1) b → b < W2s.heap.size := fun b hb => (HV1.out.base_le hb).2
  have hB2 : ∀ b, ownBlk (.slice B2 ec.length m2) b → b < W2s.heap.size := fun b hb => (HU2.out.base_le hb).2
  have hz5 := hx3.size
  generalize W2s.heap.size = Z at hu3 hB1 hB2 hz3 hz5
  have hu3' := hu3
  obtain ⟨B3, m3, rfl, -, -⟩ := hu3.form
  have HU1 := Lib.hid (HV1.out.ext hx3)
  have HU2' := Lib.hid (HU2.out.ext hx3)
  have hsb3 := (hb3.set (j := 3) (by simp) (.slice B3 ei.length m3))
  have hc4 := hsb3.cell (j := 3) rfl
  have hr3' := hr3.other (p := ⟨w.heap.size, 3, none⟩) (by simp) (.slice B3 ei.length m3)
  have hx3' := hx23.set (p := ⟨w.heap.size, 3, none⟩) (Nat.le_refl _) (.slice B3 ei.length m3)
  have HU1'' := Lib.hid (HU1.out.keep (w' := W3.setCell ⟨w.heap.size, 3, none⟩ (.slice B3 ei.length m3)) fun b hb _ => Below.heap_setCell _ _ _ _ (fun e => by have := (HU1.out.base_le hb).1; have e2 : b = w.heap.size := e; omega))
  have HU2'' := Lib.hid (HU2'.out.keep (w' := W3.setCell ⟨w.heap.size, 3, none⟩ (.slice B3 ei.length m3)) fun b hb _ => Below.heap_setCell _ _ _ _ (fun e => by have := (HU2'.out.base_le hb).1; have e2 : b = w.heap.size := e; omega))
  have HU3 := Lib.hid (hu3'.keep (w' := W3.setCell ⟨w.heap.size, 3, none⟩ (.slice B3 ei.length m3)) (fun b hb _ => Below.heap_setCell _ _ _ _ (fun e => by have := hb.2; have e2 : b = w.heap.size := e; omega)) (fun b hb _ => Below.heap_setCell _ _ _ _ (fun e => by have := (hu3'.base_le hb).1; have e2 : b = w.heap.size := e; omega)))
  have hz4 : Z ≤ (W3.setCell ⟨w.heap.size, 3, none⟩ (.slice B3 ei.length m3)).heap.size := by rw [World.size_setCell]; exact hz5
  clear hu3 hu3' HU1 HU2 HU2' HV1
  go_wp2_with fail
  generalize W3.setCell ⟨w.heap.size, 3, none⟩ (.slice B3 ei.length m3) = W3s at *
  clear hx3 hr3 hb3 hx23 hc3 hf3 hc4 H3 hsb2 hr2' hx2' hz5
  clear W3 W2s
  simp only [List.set_cons_succ, List.set_cons_zero] at hsb3
  go_loopw [19] (fun i wr => ∃ A B, ei = A ++ B ∧ i = I A.length ∧ Hid (RowIs wr w.heap.size 37 [St ek, .slice B1 es.length m1, .slice B2 ec.length m2, .slice B3 ei.length m3, U x1, St x2, .bool x3] [] ∧ RowIs wr (w.heap.size + 1) 37 [St [], .slice none 0 0, .slice none 0 0, .slice none 0 0, .int .u64 0, St [], .bool false] [] ∧ Own wr (w.heap.size + 2) 25 2 (.slice B1 es.length m1) es.length (es.flatMap markC) ∧
      Own wr (w.heap.size + 2) 93 3 (.slice B2 ec.length m2) ec.length (ec.flatMap countC) ∧ HalfRow wr Z (fun b => S b ∧ b < w.heap.size) (.slice B3 ei.length m3) A B) ∧ Ext w wr ∧ Z ≤ wr.heap.size) (fun i _ => ei.length - (intOf i).toNat)
  case atStart => exact ⟨[], ei, rfl, rfl, Lib.hid ⟨hsb3, hr3', HU1''.out, HU2''.out, HalfRow.start HU3.out⟩, hx3', hz4⟩
  case round =>
    obtain ⟨A, B, hl, rfl, hrow, hx, hzz⟩ := hrel
    cases B with
    | cons it B =>
      have hlt : A.length < ei.length := by rw [hl]; simp
      have HL := Lib.hid hl
      have hit := hl4 it (by rw [hl]; simp)
      clear hl
      go_wp2_with fail
      obtain ⟨hb, hr, ho1, ho2, hh⟩ := hrow.out
      obtain ⟨g, cap, dv, e, hcap1, hcap2, hgb, hdc, hdf, hds⟩ := hh.next
      obtain ⟨e1, e2, e3⟩ : B3 = some ⟨g, 0, none⟩ ∧ ei.length = A.length + (B.length + 1) ∧ m3 = cap := by injection e with e1 e2 e3; exact ⟨e1, e2, e3⟩
      subst e1; subst e3
      have HE2 := Lib.hid e2
      clear e e2 hrow
      refine wp_region_facts [fun v _ => v = .pointer (some ⟨w.heap.size, 3, none⟩), fun v _ => v = .slice (some ⟨g, 0, none⟩) ei.length m3, fun v _ => v = I A.length, fun v _ => v = .pointer (some ⟨w.heap.size, 3, none⟩), fun v _ => v = .slice (some ⟨g, 0, none⟩) ei.length m3, fun v _ => v = I A.length,
        fun v _ => v = .pointer (some ⟨g, A.length * 2, none⟩), fun v _ => v = .pointer (some ⟨g, A.length * 2 + 1, none⟩), fun v _ => v = dv, fun v W => Own W wr.heap.size 97 2 v it.2.length (it.2.flatMap markC)] rfl (by kernel_rfl) ?hR ?hstep ?hend
      case hR =>
        simp only [List.mem_cons, List.not_mem_nil, or_false, forall_eq_or_imp, forall_eq]
        exact ⟨fun v _ _ h _ => h, fun v _ _ h _ => h, fun v _ _ h _ => h, fun v _ _ h _ => h, fun v _ _ h _ => h, fun v _ _ h _ => h, fun v _ _ h _ => h, fun v _ _ h _ => h, fun v _ _ h _ => h, fun v _ _ h he => h.ext he⟩
      case hstep =>
        simp only [List.length_cons, List.length_nil, Nat.reduceAdd, List.take_succ_cons, List.take_zero, stepsAll, and_true]
        refine ⟨?_, ?_, ?_, ?_, ?_, ?_, ?_, ?_, ?_, ?_⟩
        · intro x W he f
          have h1 : x 1 = .pointer (some ⟨w.heap.size, 0, none⟩) := f.1
          go_wp
          exact stepQ_ok rfl (Ext.refl _)
        · intro x W he f
          have h22 : x 22 = .pointer (some ⟨w.heap.size, 3, none⟩) := f.1
          have hc := (hb.ext he).cell (j := 3) rfl
          go_wp
          exact stepQ_ok rfl (Ext.refl _)
        · intro x W he f
          have h3 : x 3 = I A.length := f.1
          go_wp
          exact stepQ_ok rfl (Ext.refl _)
        · intro x W he f
          have h1 : x 1 = .pointer (some ⟨w.heap.size, 0, none⟩) := f.1
          go_wp
          exact stepQ_ok rfl (Ext.refl _)
        · intro x W he f
          have h25 : x 25 = .pointer (some ⟨w.heap.size, 3, none⟩) := f.1
          have hc := (hb.ext he).cell (j := 3) rfl
          go_wp
          exact stepQ_ok rfl (Ext.refl _)
        · intro x W he f
          have h3 : x 3 = I A.length := f.1
          go_wp
          exact stepQ_ok rfl (Ext.refl _)
        · intro x W he f
          have h26 : x 26 = .slice (some ⟨g, 0, none⟩) ei.length m3 := f.1
          have h27 : x 27 = I A.length := f.2.1
          go_wp
          exact stepQ_ok rfl (Ext.refl _)
        · intro x W he f
          have h28 : x 28 = .pointer (some ⟨g, A.length * 2, none⟩) := f.1
          go_wp
          exact stepQ_ok rfl (Ext.refl _)
        · intro x W he f
          have h29 : x 29 = .pointer (some ⟨g, A.length * 2 + 1, none⟩) := f.1
          have hc := he.cell hdc
          obtain ⟨Ad, cd, rfl, hcd1, hcd2⟩ := hds.form
          go_wp
          exact stepQ_ok rfl (Ext.refl _)
        · intro x W he f
          have h30 : x 30 = dv := f.1
          have hs := he.size
          have HC := Lib.hid (clone_dot (hds.ext (by decide) he) hit)
          go_wp
          refine HC.out.mono ?_
          rintro r W2 ⟨dv', rfl, hd, hx2⟩
          dsimp only
          go_wp
          refine stepQ_ok (v := dv') ?_ hx2
          exact (own_markT.1 hd).lower hs
      case hend =>
        intro x W he f
        obtain ⟨h22, h23, h24, -, -, -, -, -, -, h31, -⟩ : x 22 = .pointer (some ⟨w.heap.size, 3, none⟩) ∧ x 23 = .slice (some ⟨g, 0, none⟩) ei.length m3 ∧ x 24 = I A.length ∧ x 25 = .pointer (some ⟨w.heap.size, 3, none⟩) ∧ x 26 = .slice (some ⟨g, 0, none⟩) ei.length m3 ∧ x 27 = I A.length ∧
          x 28 = .pointer (some ⟨g, A.length * 2, none⟩) ∧ x 29 = .pointer (some ⟨g, A.length * 2 + 1, none⟩) ∧ x 30 = dv ∧ Own W wr.heap.size 97 2 (x 31) it.2.length (it.2.flatMap markC) ∧ True := f
        simp only [List.length_cons, List.length_nil, Nat.reduceAdd, List.take_succ_cons, List.take_zero, List.filterMap_cons, List.filterMap_nil, List.drop_succ_cons, List.drop_zero, putAll, Act.put, List.setIfInBounds_toArray, List.set_cons_succ, List.set_cons_zero, h22, h23, h24]
        have hdc' := he.cell hdc
        have hdf' := (he.frozen (o := A.length * 2 + 1) (blk_of_cell hdc)).trans hdf
        have hsw := he.size
        have hg0 := blk_of_cell hdc
        have hput := hh.ext he
        obtain ⟨Ad, cd, hx31, hcd1, hcd2⟩ := h31.form
        rw [hx31] at h31
        simp only [hx31]
        have HP := Lib.hid (HE2.out ▸ (HE2.out ▸ hput).put (fun b hb => by omega) h31 (by omega) hg0)
        go_wp
        refine ⟨⟨A ++ [it], B, by rw [HL.out]; simp, by simp, Lib.hid ⟨(hb.ext he).other (by simp; omega) _, (hr.ext he).other (by simp; omega) _, (ho1.ext he).keep fun b hb' _ => Below.heap_setCell _ _ _ _ (fun e => by have := hB1 b hb'; have e2 : b = g := e; omega),
          (ho2.ext he).keep fun b hb' _ => Below.heap_setCell _ _ _ _ (fun e => by have := hB2 b hb'; have e2 : b = g := e; omega), HE2.out ▸ HP.out⟩, (hx.trans he).set (by simp; omega) _, by rw [World.size_setCell]; omega⟩, ?_⟩
        have := HE2.out
        simp only [intOf]
        omega
    | nil =>
      obtain ⟨hb, hr, ho1, ho2, hh⟩ := hrow.out
      rw [List.append_nil] at hl
      subst hl
      have HD := Lib.hid hh.done
      have k0 := hb.cell (j := 0) rfl
      have r0 := hr.cell (j := 0) rfl
      have f0 := hr.frozen 0
      have k1 := hb.cell (j := 1) rfl
      have r1 := hr.cell (j := 1) rfl
      have f1 := hr.frozen 1
      have k2 := hb.cell (j := 2) rfl
      have r2 := hr.cell (j := 2) rfl
      have f2 := hr.frozen 2
      have k3 := hb.cell (j := 3) rfl
      have r3 := hr.cell (j := 3) rfl
      have f3 := hr.frozen 3
      have k4 := hb.cell (j := 4) rfl
      have r4 := hr.cell (j := 4) rfl
      have f4 := hr.frozen 4
      have k5 := hb.cell (j := 5) rfl
      have r5 := hr.cell (j := 5) rfl
      have f5 := hr.frozen 5
      have k6 := hb.cell (j := 6) rfl
      have r6 := hr.cell (j := 6) rfl
      have f6 := hr.frozen 6
      clear hh
      go_wp2_with fail
      (try simp only [Exit.inBlock, Exit.then])
      refine bodyPost_ret (v := entV ⟨ek, es, ec, ei, (x1, x2, x3)⟩ (.slice B1 es.length m1) (.slice B2 ec.length m2) (.slice B3 ei.length m3)) (by simp [results, Tryz.f62, go_sem, entV, r0, r1, r2, r3, r4, r5, r6]) rfl ?_
      have hle : w.heap.size ≤ (⟨w.heap.size + 1, 0, none⟩ : Addr).block := by simp
      have hX := Lib.hid (((((((hx.set (p := ⟨w.heap.size + 1, 0, none⟩) hle (.string { data := List.toArray ek })).set (p := ⟨w.heap.size + 1, 1, none⟩) hle (.slice B1 es.length m1)).set (p := ⟨w.heap.size + 1, 2, none⟩) hle (.slice B2 ec.length m2)).set (p := ⟨w.heap.size + 1, 3, none⟩) hle (.slice B3 ei.length m3)).set
        (p := ⟨w.heap.size + 1, 4, none⟩) hle (.int .u64 x1)).set (p := ⟨w.heap.size + 1, 5, none⟩) hle (.string { data := List.toArray x2 })).set (p := ⟨w.heap.size + 1, 6, none⟩) hle (.bool x3))
      refine ⟨_, _, _, rfl, ?_, hX.out⟩
      have hs : ∀ b, b ≠ w.heap.size + 1 → (((((((wr.setCell ⟨w.heap.size + 1, 0, none⟩ (.string { data := List.toArray ek })).setCell ⟨w.heap.size + 1, 1, none⟩ (.slice B1 es.length m1)).setCell ⟨w.heap.size + 1, 2, none⟩ (.slice B2 ec.length m2)).setCell ⟨w.heap.size + 1, 3, none⟩ (.slice B3 ei.length m3)).setCell
        ⟨w.heap.size + 1, 4, none⟩ (.int .u64 x1)).setCell ⟨w.heap.size + 1, 5, none⟩ (.string { data := List.toArray x2 })).setCell ⟨w.heap.size + 1, 6, none⟩ (.bool x3)).heap[b]? = wr.heap[b]? := fun b hb =>
        ((((((Below.heap_setCell _ _ _ b hb).trans (Below.heap_setCell _ _ _ b hb)).trans (Below.heap_setCell _ _ _ b hb)).trans (Below.heap_setCell _ _ _ b hb)).trans (Below.heap_setCell _ _ _ b hb)).trans (Below.heap_setCell _ _ _ b hb)).trans (Below.heap_setCell _ _ _ b hb)
      exact ⟨(ho1.keep fun b hb _ => hs b (by have := (ho1.base_le hb).1; omega)).lower (by omega), (ho2.keep fun b hb _ => hs b (by have := (ho2.base_le hb).1; omega)).lower (by omega),
        (((HD.out.keep (fun b hb _ => hs b (by omega)) (fun b hb _ => hs b (by have := (HD.out.base_le hb).1; omega))).lower (by omega)).mono fun b _ hb => by omega)⟩
end Go.Proofs.YtdikcgmdmcfpfaaGreat
namespace Go.Proofs.YtdikcgmdmcfpfaaGreat
open Go.RowKit Go.Shelf

/-- seven cells written into a row -/
abbrev put7 (w : World) (q : Nat) (e : Entry) (v1 v2 v3 : Value) : World :=
  ((((((w.setCell ⟨q, 0, none⟩ (St e.key)).setCell ⟨q, 1, none⟩ v1).setCell ⟨q, 2, none⟩ v2).setCell ⟨q, 3, none⟩ v3).setCell ⟨q, 4, none⟩ (U e.cell.1)).setCell ⟨q, 5, none⟩ (St e.cell.2.1)).setCell ⟨q, 6, none⟩ (.bool e.cell.2.2)
theorem put7_out {w wr : World} {q base : Nat} {e : Entry} {v1 v2 v3 : Value} (hx : Ext w wr) (hq : w.heap.size ≤ q) (hn : EntNew wr base e v1 v2 v3) (hb : q < base) : EntNew (put7 wr q e v1 v2 v3) w.heap.size e v1 v2 v3 ∧ Ext w (put7 wr q e v1 v2 v3) := by
  have hle : w.heap.size ≤ (⟨q, 0, none⟩ : Addr).block := hq
  have hs : ∀ b, b ≠ q → (put7 wr q e v1 v2 v3).heap[b]? = wr.heap[b]? := fun b hb =>
    ((((((Below.heap_setCell _ _ _ b hb).trans (Below.heap_setCell _ _ _ b hb)).trans (Below.heap_setCell _ _ _ b hb)).trans (Below.heap_setCell _ _ _ b hb)).trans (Below.heap_setCell _ _ _ b hb)).trans (Below.heap_setCell _ _ _ b hb)).trans (Below.heap_setCell _ _ _ b hb)
  obtain ⟨h1, h2, h3⟩ := hn
  refine ⟨⟨(h1.keep fun b hb _ => hs b (by have := (h1.base_le hb).1; omega)).lower (by omega), (h2.keep fun b hb _ => hs b (by have := (h2.base_le hb).1; omega)).lower (by omega),
    (((h3.keep (fun b hb _ => hs b (by omega)) (fun b hb _ => hs b (by have := (h3.base_le hb).1; omega))).lower (by omega)).mono fun b _ hb => by omega)⟩, ?_⟩
  exact ((((((hx.set (p := ⟨q, 0, none⟩) hq _).set (p := ⟨q, 1, none⟩) hq _).set (p := ⟨q, 2, none⟩) hq _).set (p := ⟨q, 3, none⟩) hq _).set (p := ⟨q, 4, none⟩) hq _).set (p := ⟨q, 5, none⟩) hq _).set (p := ⟨q, 6, none⟩) hq _

/-- few enough of everything -/
structure SmallE (e : Entry) : Prop where
  seen : e.seen.length ≤ 549755813888
  counts : e.counts.length ≤ 549755813888
  items : e.items.length ≤ 549755813888
  dots : ∀ it ∈ e.items, it.2.length ≤ 549755813888
  places : (placesL e.items).length ≤ 549755813888

def joinEnt (a b : Entry) : Entry := if sameE a noneE then b else if a.key = b.key then ⟨a.key, joinM a.seen b.seen, joinL a.counts b.counts, joinB a.items a.seen b.items b.seen, joinC a.cell b.cell⟩ else a

set_option maxRecDepth 100000 in
set_option maxHeartbeats 2000000 in
theorem joinE_any {S1 S2 : Nat → Prop} {a b : Entry} {a1 a2 a3 b1 b2 b3 : Value} {w : World} (ha : EntAt w S1 a a1 a2 a3) (hb : EntAt w S2 b b1 b2 b3) (sa : SmallE a) (sb : SmallE b) :
    Calls Tryz.prog 54 #[entV a a1 a2 a3, entV b b1 b2 b3] w fun r w' => ∃ u1 u2 u3, r = .returned (entV (joinEnt a b) u1 u2 u3) ∧ EntNew w' w.heap.size (joinEnt a b) u1 u2 u3 ∧ Ext w w' := by
  have HJ := Lib.hid (show joinEnt a b = if sameE a noneE then b else if a.key = b.key then ⟨a.key, joinM a.seen b.seen, joinL a.counts b.counts, joinB a.items a.seen b.items b.seen, joinC a.cell b.cell⟩ else a from rfl)
  generalize joinEnt a b = J at *
  obtain ⟨sa1, sa2, sa3, sa4, sa5⟩ := sa
  obtain ⟨sb1, sb2, sb3, sb4, sb5⟩ := sb
  obtain ⟨k, aS, ac, ai, p1, p2, p3⟩ := a
  obtain ⟨kb, bs, bc, bi, q1, q2, q3⟩ := b
  obtain ⟨A1, n1, rfl, -, -⟩ := ha.seen.form
  obtain ⟨A2, n2, rfl, -, -⟩ := ha.counts.form
  obtain ⟨A3, n3, rfl, -, -⟩ := ha.items.form
  obtain ⟨B1, m1, rfl, -, -⟩ := hb.seen.form
  obtain ⟨B2, m2, rfl, -, -⟩ := hb.counts.form
  obtain ⟨B3, m3, rfl, -, -⟩ := hb.items.form
  simp only at sa1 sa2 sa3 sa4 sa5 sb1 sb2 sb3 sb4 sb5
  have hx0 := (((Ext.refl w).alloc (.cells #[St k, .slice A1 aS.length n1, .slice A2 ac.length n2, .slice A3 ai.length n3, U p1, St p2, .bool p3] 37)).alloc (.cells #[St kb, .slice B1 bs.length m1, .slice B2 bc.length m2, .slice B3 bi.length m3, U q1, St q2, .bool q3] 37)).alloc (.cells #[St [], .slice none 0 0, .slice none 0 0, .slice none 0 0, .int .u64 0, St [], .bool false] 37)
  have rA := ((rowNew w 37 [St k, .slice A1 aS.length n1, .slice A2 ac.length n2, .slice A3 ai.length n3, U p1, St p2, .bool p3]).alloc (.cells #[St kb, .slice B1 bs.length m1, .slice B2 bc.length m2, .slice B3 bi.length m3, U q1, St q2, .bool q3] 37)).alloc (.cells #[St [], .slice none 0 0, .slice none 0 0, .slice none 0 0, .int .u64 0, St [], .bool false] 37)
  have rB := (rowNew (w.alloc (.cells #[St k, .slice A1 aS.length n1, .slice A2 ac.length n2, .slice A3 ai.length n3, U p1, St p2, .bool p3] 37)) 37 [St kb, .slice B1 bs.length m1, .slice B2 bc.length m2, .slice B3 bi.length m3, U q1, St q2, .bool q3]).alloc (.cells #[St [], .slice none 0 0, .slice none 0 0, .slice none 0 0, .int .u64 0, St [], .bool false] 37)
  have rR := rowNew ((w.alloc (.cells #[St k, .slice A1 aS.length n1, .slice A2 ac.length n2, .slice A3 ai.length n3, U p1, St p2, .bool p3] 37)).alloc (.cells #[St kb, .slice B1 bs.length m1, .slice B2 bc.length m2, .slice B3 bi.length m3, U q1, St q2, .bool q3] 37)) 37 [St [], .slice none 0 0, .slice none 0 0, .slice none 0 0, .int .u64 0, St [], .bool false]
  rw [World.size_alloc] at rB
  rw [World.size_alloc, World.size_alloc] at rR
  have hz : w.heap.size + 3 ≤ (((w.alloc (.cells #[St k, .slice A1 aS.length n1, .slice A2 ac.length n2, .slice A3 ai.length n3, U p1, St p2, .bool p3] 37)).alloc (.cells #[St kb, .slice B1 bs.length m1, .slice B2 bc.length m2, .slice B3 bi.length m3, U q1, St q2, .bool q3] 37)).alloc (.cells #[St [], .slice none 0 0, .slice none 0 0, .slice none 0 0, .int .u64 0, St [], .bool false] 37)).heap.size := by simp
  have HA := Lib.hid ha
  have HB := Lib.hid hb
  clear ha hb
  have k0 := rA.cell (j := 0) rfl
  have k1 := rA.cell (j := 1) rfl
  have k2 := rA.cell (j := 2) rfl
  have k3 := rA.cell (j := 3) rfl
  have k4 := rA.cell (j := 4) rfl
  have k5 := rA.cell (j := 5) rfl
  have k6 := rA.cell (j := 6) rfl
  have j0 := rB.cell (j := 0) rfl
  have j1 := rB.cell (j := 1) rfl
  have j2 := rB.cell (j := 2) rfl
  have j3 := rB.cell (j := 3) rfl
  have j4 := rB.cell (j := 4) rfl
  have j5 := rB.cell (j := 5) rfl
  have j6 := rB.cell (j := 6) rfl
  go_enter Tryz.func54, Tryz.ntmps54
  go_wp2_with fail
  generalize hW0 : ((w.alloc (.cells #[St k, .slice A1 aS.length n1, .slice A2 ac.length n2, .slice A3 ai.length n3, U p1, St p2, .bool p3] 37)).alloc (.cells #[St kb, .slice B1 bs.length m1, .slice B2 bc.length m2, .slice B3 bi.length m3, U q1, St q2, .bool q3] 37)).alloc (.cells #[St [], .slice none 0 0, .slice none 0 0, .slice none 0 0, .int .u64 0, St [], .bool false] 37) = W0 at *
  clear hW0
  have HN := Lib.hid (noneE_any (HA.out.ext hx0))
  refine HN.out.mono ?_
  rintro r W1 ⟨rfl, hx1⟩
  have hx01 := hx0.trans hx1
  have rA1 := rA.ext hx1
  have rB1 := rB.ext hx1
  have rR1 := rR.ext hx1
  have hz1 := Nat.le_trans hz hx1.size
  clear rA rB rR hx0 hz k0 k1 k2 k3 k4 k5 k6 j0 j1 j2 j3 j4 j5 j6
  have k0 := rA1.cell (j := 0) rfl
  have k1 := rA1.cell (j := 1) rfl
  have k2 := rA1.cell (j := 2) rfl
  have k3 := rA1.cell (j := 3) rfl
  have k4 := rA1.cell (j := 4) rfl
  have k5 := rA1.cell (j := 5) rfl
  have k6 := rA1.cell (j := 6) rfl
  have j0 := rB1.cell (j := 0) rfl
  have j1 := rB1.cell (j := 1) rfl
  have j2 := rB1.cell (j := 2) rfl
  have j3 := rB1.cell (j := 3) rfl
  have j4 := rB1.cell (j := 4) rfl
  have j5 := rB1.cell (j := 5) rfl
  have j6 := rB1.cell (j := 6) rfl
  cases hn : sameE ⟨k, aS, ac, ai, (p1, p2, p3)⟩ noneE
  case true =>
    obtain rfl : J = ⟨kb, bs, bc, bi, (q1, q2, q3)⟩ := by rw [HJ.out, hn]; rfl
    clear HJ hn
    have HC := Lib.hid (copyE_any (HB.out.ext hx01) (by simp only; omega) (by simp only; omega) (by simp only; omega) (fun it hit => Nat.le_trans (sb4 it hit) (by omega)))
    go_wp2_with fail
    refine HC.out.mono ?_
    rintro r W2 ⟨u1, u2, u3, rfl, hu, hx2⟩
    obtain ⟨C1, c1, rfl, -, -⟩ := hu.seen.form
    obtain ⟨C2, c2, rfl, -, -⟩ := hu.counts.form
    obtain ⟨C3, c3, rfl, -, -⟩ := hu.items.form
    have hr2 := rR1.ext hx2
    have r0 := hr2.cell (j := 0) rfl
    have r1 := hr2.cell (j := 1) rfl
    have r2 := hr2.cell (j := 2) rfl
    have r3 := hr2.cell (j := 3) rfl
    have r4 := hr2.cell (j := 4) rfl
    have r5 := hr2.cell (j := 5) rfl
    have r6 := hr2.cell (j := 6) rfl
    have f0 := hr2.frozen 0
    have f1 := hr2.frozen 1
    have f2 := hr2.frozen 2
    have f3 := hr2.frozen 3
    have f4 := hr2.frozen 4
    have f5 := hr2.frozen 5
    have f6 := hr2.frozen 6
    have HU := Lib.hid hu
    have HX := Lib.hid (hx01.trans hx2)
    clear hu
    go_wp2_with fail
    (try simp only [Exit.inBlock, Exit.then])
    refine bodyPost_ret (v := entV ⟨kb, bs, bc, bi, (q1, q2, q3)⟩ (.slice C1 bs.length c1) (.slice C2 bc.length c2) (.slice C3 bi.length c3)) (by simp [results, Tryz.f54, go_sem, entV, r0, r1, r2, r3, r4, r5, r6]) rfl ?_
    have hp := put7_out (q := w.heap.size + 1 + 1) HX.out (by omega) HU.out (by omega)
    refine ⟨.slice C1 bs.length c1, .slice C2 bc.length c2, .slice C3 bi.length c3, rfl, ?_⟩
    exact hp
  case false =>
    by_cases hk : k = kb
    · subst hk
      obtain rfl : J = ⟨k, joinM aS bs, joinL ac bc, joinB ai aS bi bs, joinC (p1, p2, p3) (q1, q2, q3)⟩ := by rw [HJ.out, hn]; simp
      clear HJ hn HN
      have HsA : Hid (Sl markT W1 S1 (.slice A1 aS.length n1) aS) := Lib.hid (HA.out.seen.ext (by decide) hx01)
      have HcA : Hid (Sl countT W1 S1 (.slice A2 ac.length n2) ac) := Lib.hid (HA.out.counts.ext (by decide) hx01)
      have HiA : Hid (Sl itemT W1 S1 (.slice A3 ai.length n3) ai) := Lib.hid (HA.out.items.ext (by decide) hx01)
      have HsB : Hid (Sl markT W1 S2 (.slice B1 bs.length m1) bs) := Lib.hid (HB.out.seen.ext (by decide) hx01)
      have HcB : Hid (Sl countT W1 S2 (.slice B2 bc.length m2) bc) := Lib.hid (HB.out.counts.ext (by decide) hx01)
      have HiB : Hid (Sl itemT W1 S2 (.slice B3 bi.length m3) bi) := Lib.hid (HB.out.items.ext (by decide) hx01)
      go_wp2_with fail
      refine wp_region_facts [fun v _ => v = .pointer (some ⟨w.heap.size, 0, none⟩),
        fun v _ => v = St k,
        fun v _ => v = .pointer (some ⟨w.heap.size, 1, none⟩),
        fun v _ => v = .slice A1 aS.length n1,
        fun v _ => v = .pointer (some ⟨(w.heap.size + 1), 1, none⟩),
        fun v _ => v = .slice B1 bs.length m1,
        fun v W => Own W W1.heap.size 25 2 v (joinM aS bs).length ((joinM aS bs).flatMap markC),
        fun v _ => v = .pointer (some ⟨w.heap.size, 2, none⟩),
        fun v _ => v = .slice A2 ac.length n2,
        fun v _ => v = .pointer (some ⟨(w.heap.size + 1), 2, none⟩),
        fun v _ => v = .slice B2 bc.length m2,
        fun v W => Own W W1.heap.size 93 3 v (joinL ac bc).length ((joinL ac bc).flatMap countC),
        fun v _ => v = .pointer (some ⟨w.heap.size, 3, none⟩),
        fun v _ => v = .slice A3 ai.length n3,
        fun v _ => v = .pointer (some ⟨w.heap.size, 1, none⟩),
        fun v _ => v = .slice A1 aS.length n1,
        fun v _ => v = .pointer (some ⟨(w.heap.size + 1), 3, none⟩),
        fun v _ => v = .slice B3 bi.length m3,
        fun v _ => v = .pointer (some ⟨(w.heap.size + 1), 1, none⟩),
        fun v _ => v = .slice B1 bs.length m1,
        fun v W => OwnL itemT 96 W W1.heap.size (fun b => W1.heap.size ≤ b) v (joinB ai aS bi bs),
        fun v _ => v = .pointer (some ⟨w.heap.size, 4, none⟩),
        fun v _ => v = cellV (p1, p2, p3),
        fun v _ => v = .pointer (some ⟨(w.heap.size + 1), 4, none⟩),
        fun v _ => v = cellV (q1, q2, q3),
        fun v _ => v = cellV (joinC (p1, p2, p3) (q1, q2, q3))] rfl (by kernel_rfl) ?hR ?hstep ?hend
      case hR =>
        simp only [List.mem_cons, List.not_mem_nil, or_false, forall_eq_or_imp, forall_eq]
        exact ⟨fun v _ _ h _ => h, fun v _ _ h _ => h, fun v _ _ h _ => h, fun v _ _ h _ => h, fun v _ _ h _ => h, fun v _ _ h _ => h, fun v _ _ h he => h.ext he, fun v _ _ h _ => h, fun v _ _ h _ => h, fun v _ _ h _ => h, fun v _ _ h _ => h, fun v _ _ h he => h.ext he, fun v _ _ h _ => h, fun v _ _ h _ => h, fun v _ _ h _ => h, fun v _ _ h _ => h, fun v _ _ h _ => h, fun v _ _ h _ => h, fun v _ _ h _ => h, fun v _ _ h _ => h, fun v _ _ h he => h.ext he, fun v _ _ h _ => h, fun v _ _ h _ => h, fun v _ _ h _ => h, fun v _ _ h _ => h, fun v _ _ h _ => h⟩
      case hstep =>
        simp only [List.length_cons, List.length_nil, Nat.reduceAdd, List.take_succ_cons, List.take_zero, stepsAll, and_true]
        refine ⟨?_, ?_, ?_, ?_, ?_, ?_, ?_, ?_, ?_, ?_, ?_, ?_, ?_, ?_, ?_, ?_, ?_, ?_, ?_, ?_, ?_, ?_, ?_, ?_, ?_, ?_⟩
        · intro x W he f
          have h : x 2 = .pointer (some ⟨w.heap.size, 0, none⟩) := f.1
          go_wp
          exact stepQ_ok rfl (Ext.refl _)
        · intro x W he f
          have h : x 16 = .pointer (some ⟨w.heap.size, 0, none⟩) := f.1
          have hc0 := (rA1.ext he).cell (j := 0) rfl
          go_wp
          exact stepQ_ok rfl (Ext.refl _)
        · intro x W he f
          have h : x 2 = .pointer (some ⟨w.heap.size, 0, none⟩) := f.1
          go_wp
          exact stepQ_ok rfl (Ext.refl _)
        · intro x W he f
          have h : x 18 = .pointer (some ⟨w.heap.size, 1, none⟩) := f.1
          have hc1 := (rA1.ext he).cell (j := 1) rfl
          go_wp
          exact stepQ_ok rfl (Ext.refl _)
        · intro x W he f
          have h : x 3 = .pointer (some ⟨(w.heap.size + 1), 0, none⟩) := f.1
          go_wp
          exact stepQ_ok rfl (Ext.refl _)
        · intro x W he f
          have h : x 20 = .pointer (some ⟨(w.heap.size + 1), 1, none⟩) := f.1
          have hc1 := (rB1.ext he).cell (j := 1) rfl
          go_wp
          exact stepQ_ok rfl (Ext.refl _)
        · intro x W he f
          have h19 : x 19 = .slice A1 aS.length n1 := f.1
          have h21 : x 21 = .slice B1 bs.length m1 := f.2.1
          have hs := he.size
          have HC := Lib.hid (join_any (HsA.out.ext (by decide) he) (HsB.out.ext (by decide) he) (by omega) (by omega))
          go_wp
          refine HC.out.mono ?_
          rintro r W2 ⟨v, rfl, hv, hx2⟩
          dsimp only
          go_wp
          refine stepQ_ok (v := v) ?_ hx2
          exact hv.lower hs
        · intro x W he f
          have h : x 2 = .pointer (some ⟨w.heap.size, 0, none⟩) := f.1
          go_wp
          exact stepQ_ok rfl (Ext.refl _)
        · intro x W he f
          have h : x 23 = .pointer (some ⟨w.heap.size, 2, none⟩) := f.1
          have hc2 := (rA1.ext he).cell (j := 2) rfl
          go_wp
          exact stepQ_ok rfl (Ext.refl _)
        · intro x W he f
          have h : x 3 = .pointer (some ⟨(w.heap.size + 1), 0, none⟩) := f.1
          go_wp
          exact stepQ_ok rfl (Ext.refl _)
        · intro x W he f
          have h : x 25 = .pointer (some ⟨(w.heap.size + 1), 2, none⟩) := f.1
          have hc2 := (rB1.ext he).cell (j := 2) rfl
          go_wp
          exact stepQ_ok rfl (Ext.refl _)
        · intro x W he f
          have h24 : x 24 = .slice A2 ac.length n2 := f.1
          have h26 : x 26 = .slice B2 bc.length m2 := f.2.1
          have hs := he.size
          have HC := Lib.hid (joinL_any (HcA.out.ext (by decide) he) (HcB.out.ext (by decide) he) (by omega))
          go_wp
          refine HC.out.mono ?_
          rintro r W2 ⟨v, rfl, hv, hx2⟩
          dsimp only
          go_wp
          refine stepQ_ok (v := v) ?_ hx2
          exact hv.lower hs
        · intro x W he f
          have h : x 2 = .pointer (some ⟨w.heap.size, 0, none⟩) := f.1
          go_wp
          exact stepQ_ok rfl (Ext.refl _)
        · intro x W he f
          have h : x 28 = .pointer (some ⟨w.heap.size, 3, none⟩) := f.1
          have hc3 := (rA1.ext he).cell (j := 3) rfl
          go_wp
          exact stepQ_ok rfl (Ext.refl _)
        · intro x W he f
          have h : x 2 = .pointer (some ⟨w.heap.size, 0, none⟩) := f.1
          go_wp
          exact stepQ_ok rfl (Ext.refl _)
        · intro x W he f
          have h : x 30 = .pointer (some ⟨w.heap.size, 1, none⟩) := f.1
          have hc1 := (rA1.ext he).cell (j := 1) rfl
          go_wp
          exact stepQ_ok rfl (Ext.refl _)
        · intro x W he f
          have h : x 3 = .pointer (some ⟨(w.heap.size + 1), 0, none⟩) := f.1
          go_wp
          exact stepQ_ok rfl (Ext.refl _)
        · intro x W he f
          have h : x 32 = .pointer (some ⟨(w.heap.size + 1), 3, none⟩) := f.1
          have hc3 := (rB1.ext he).cell (j := 3) rfl
          go_wp
          exact stepQ_ok rfl (Ext.refl _)
        · intro x W he f
          have h : x 3 = .pointer (some ⟨(w.heap.size + 1), 0, none⟩) := f.1
          go_wp
          exact stepQ_ok rfl (Ext.refl _)
        · intro x W he f
          have h : x 34 = .pointer (some ⟨(w.heap.size + 1), 1, none⟩) := f.1
          have hc1 := (rB1.ext he).cell (j := 1) rfl
          go_wp
          exact stepQ_ok rfl (Ext.refl _)
        · intro x W he f
          have h29 : x 29 = .slice A3 ai.length n3 := f.1
          have h31 : x 31 = .slice A1 aS.length n1 := f.2.1
          have h33 : x 33 = .slice B3 bi.length m3 := f.2.2.1
          have h35 : x 35 = .slice B1 bs.length m1 := f.2.2.2.1
          have hs := he.size
          have HC := Lib.hid (joinB_any (HiA.out.ext (by decide) he) (HsA.out.ext (by decide) he) (HiB.out.ext (by decide) he) (HsB.out.ext (by decide) he) (by omega) (by omega) (by omega))
          go_wp
          refine HC.out.mono ?_
          rintro r W2 ⟨v, rfl, hv, hx2⟩
          dsimp only
          go_wp
          refine stepQ_ok (v := v) ?_ hx2
          exact (hv.lower hs).mono fun b _ h => Nat.le_trans hs h
        · intro x W he f
          have h : x 2 = .pointer (some ⟨w.heap.size, 0, none⟩) := f.1
          go_wp
          exact stepQ_ok rfl (Ext.refl _)
        · intro x W he f
          have h : x 37 = .pointer (some ⟨w.heap.size, 4, none⟩) := f.1
          have hc4 := (rA1.ext he).cell (j := 4) rfl
          have hc5 := (rA1.ext he).cell (j := 5) rfl
          have hc6 := (rA1.ext he).cell (j := 6) rfl
          go_wp
          exact stepQ_ok rfl (Ext.refl _)
        · intro x W he f
          have h : x 3 = .pointer (some ⟨(w.heap.size + 1), 0, none⟩) := f.1
          go_wp
          exact stepQ_ok rfl (Ext.refl _)
        · intro x W he f
          have h : x 39 = .pointer (some ⟨(w.heap.size + 1), 4, none⟩) := f.1
          have hc4 := (rB1.ext he).cell (j := 4) rfl
          have hc5 := (rB1.ext he).cell (j := 5) rfl
          have hc6 := (rB1.ext he).cell (j := 6) rfl
          go_wp
          exact stepQ_ok rfl (Ext.refl _)
        · intro x W he f
          have h38 : x 38 = cellV (p1, p2, p3) := f.1
          have h40 : x 40 = cellV (q1, q2, q3) := f.2.1
          have hs := he.size
          have HC := Lib.hid (joinC_any (p1, p2, p3) (q1, q2, q3) W)
          go_wp
          refine HC.out.mono ?_
          rintro r W2 ⟨rfl, hx2⟩
          dsimp only
          go_wp
          exact stepQ_ok rfl hx2
      case hend =>
        intro x W he f
        obtain ⟨-, h17, -, -, -, -, h22, -, -, -, -, h27, -, -, -, -, -, -, -, -, h36, -, -, -, -, h41, -⟩ : (x 16) = .pointer (some ⟨w.heap.size, 0, none⟩) ∧ (x 17) = St k ∧ (x 18) = .pointer (some ⟨w.heap.size, 1, none⟩) ∧ (x 19) = .slice A1 aS.length n1 ∧ (x 20) = .pointer (some ⟨(w.heap.size + 1), 1, none⟩) ∧ (x 21) = .slice B1 bs.length m1 ∧ Own W W1.heap.size 25 2 (x 22) (joinM aS bs).length ((joinM aS bs).flatMap markC) ∧ (x 23) = .pointer (some ⟨w.heap.size, 2, none⟩) ∧ (x 24) = .slice A2 ac.length n2 ∧ (x 25) = .pointer (some ⟨(w.heap.size + 1), 2, none⟩) ∧ (x 26) = .slice B2 bc.length m2 ∧ Own W W1.heap.size 93 3 (x 27) (joinL ac bc).length ((joinL ac bc).flatMap countC) ∧ (x 28) = .pointer (some ⟨w.heap.size, 3, none⟩) ∧ (x 29) = .slice A3 ai.length n3 ∧ (x 30) = .pointer (some ⟨w.heap.size, 1, none⟩) ∧ (x 31) = .slice A1 aS.length n1 ∧ (x 32) = .pointer (some ⟨(w.heap.size + 1), 3, none⟩) ∧ (x 33) = .slice B3 bi.length m3 ∧ (x 34) = .pointer (some ⟨(w.heap.size + 1), 1, none⟩) ∧ (x 35) = .slice B1 bs.length m1 ∧ OwnL itemT 96 W W1.heap.size (fun b => W1.heap.size ≤ b) (x 36) (joinB ai aS bi bs) ∧ (x 37) = .pointer (some ⟨w.heap.size, 4, none⟩) ∧ (x 38) = cellV (p1, p2, p3) ∧ (x 39) = .pointer (some ⟨(w.heap.size + 1), 4, none⟩) ∧ (x 40) = cellV (q1, q2, q3) ∧ (x 41) = cellV (joinC (p1, p2, p3) (q1, q2, q3)) ∧ True := f
        simp only [List.length_cons, List.length_nil, Nat.reduceAdd, List.take_succ_cons, List.take_zero, List.filterMap_cons, List.filterMap_nil, List.drop_succ_cons, List.drop_zero, putAll, Act.put, List.setIfInBounds_toArray, List.set_cons_succ, List.set_cons_zero, h17, h41]
        obtain ⟨C1, c1, e1, -, -⟩ := h22.form
        obtain ⟨C2, c2, e2, -, -⟩ := h27.form
        obtain ⟨C3, c3, e3, -, -⟩ := h36.form
        have hrW := rR1.ext he
        have r0 := hrW.cell (j := 0) rfl
        have f0 := hrW.frozen 0
        have r1 := hrW.cell (j := 1) rfl
        have f1 := hrW.frozen 1
        have r2 := hrW.cell (j := 2) rfl
        have f2 := hrW.frozen 2
        have r3 := hrW.cell (j := 3) rfl
        have f3 := hrW.frozen 3
        have r4 := hrW.cell (j := 4) rfl
        have f4 := hrW.frozen 4
        have r5 := hrW.cell (j := 5) rfl
        have f5 := hrW.frozen 5
        have r6 := hrW.cell (j := 6) rfl
        have f6 := hrW.frozen 6
        have HU := Lib.hid (EntNew.mk (e := ⟨k, joinM aS bs, joinL ac bc, joinB ai aS bi bs, joinC (p1, p2, p3) (q1, q2, q3)⟩) h22 h27 h36)
        simp only [e1, e2, e3] at HU ⊢
        clear h22 h27 h36
        have HX := Lib.hid (hx01.trans he)
        go_wp2_with fail
        (try simp only [Exit.inBlock, Exit.then])
        refine bodyPost_ret (v := entV ⟨k, joinM aS bs, joinL ac bc, joinB ai aS bi bs, joinC (p1, p2, p3) (q1, q2, q3)⟩ (.slice C1 (joinM aS bs).length c1) (.slice C2 (joinL ac bc).length c2) (.slice C3 (joinB ai aS bi bs).length c3)) (by simp [results, Tryz.f54, go_sem, entV, r0, r1, r2, r3, r4, r5, r6]) rfl ?_
        have hp := put7_out (q := w.heap.size + 1 + 1) HX.out (by omega) HU.out (by omega)
        refine ⟨.slice C1 (joinM aS bs).length c1, .slice C2 (joinL ac bc).length c2, .slice C3 (joinB ai aS bi bs).length c3, rfl, ?_⟩
        exact hp
    · have hkb : (k == kb) = false := by simp [hk]
      obtain rfl : J = ⟨k, aS, ac, ai, (p1, p2, p3)⟩ := by rw [HJ.out, hn]; simp [hk]
      clear HJ hn
      have HC := Lib.hid (copyE_any (HA.out.ext hx01) (by simp only; omega) (by simp only; omega) (by simp only; omega) (fun it hit => Nat.le_trans (sa4 it hit) (by omega)))
      go_wp2_with fail
      refine HC.out.mono ?_
      rintro r W2 ⟨u1, u2, u3, rfl, hu, hx2⟩
      obtain ⟨C1, c1, rfl, -, -⟩ := hu.seen.form
      obtain ⟨C2, c2, rfl, -, -⟩ := hu.counts.form
      obtain ⟨C3, c3, rfl, -, -⟩ := hu.items.form
      have hr2 := rR1.ext hx2
      have r0 := hr2.cell (j := 0) rfl
      have r1 := hr2.cell (j := 1) rfl
      have r2 := hr2.cell (j := 2) rfl
      have r3 := hr2.cell (j := 3) rfl
      have r4 := hr2.cell (j := 4) rfl
      have r5 := hr2.cell (j := 5) rfl
      have r6 := hr2.cell (j := 6) rfl
      have f0 := hr2.frozen 0
      have f1 := hr2.frozen 1
      have f2 := hr2.frozen 2
      have f3 := hr2.frozen 3
      have f4 := hr2.frozen 4
      have f5 := hr2.frozen 5
      have f6 := hr2.frozen 6
      have HU := Lib.hid hu
      have HX := Lib.hid (hx01.trans hx2)
      clear hu
      go_wp2_with fail
      (try simp only [Exit.inBlock, Exit.then])
      refine bodyPost_ret (v := entV ⟨k, aS, ac, ai, (p1, p2, p3)⟩ (.slice C1 aS.length c1) (.slice C2 ac.length c2) (.slice C3 ai.length c3)) (by simp [results, Tryz.f54, go_sem, entV, r0, r1, r2, r3, r4, r5, r6]) rfl ?_
      have hp := put7_out (q := w.heap.size + 1 + 1) HX.out (by omega) HU.out (by omega)
      refine ⟨.slice C1 aS.length c1, .slice C2 ac.length c2, .slice C3 ai.length c3, rfl, ?_⟩
      exact hp
end Go.Proofs.YtdikcgmdmcfpfaaGreat
namespace Go.Proofs.YtdikcgmdmcfpfaaGreat
open Go.RowKit Go.Shelf

/-- the first entry of a key -/
def findE (l : List Entry) (k : Str) : Option Entry := l.find? fun e => decide (e.key = k)
theorem findE_split : ∀ (l : List Entry) (k : Str), match l.findIdx? (fun e => decide (e.key = k)) with
    | none => findE l k = none
    | some j => ∃ pre m post, l = pre ++ m :: post ∧ pre.length = j ∧ m.key = k ∧ findE l k = some m
  | [], k => rfl
  | e :: r, k => by
    by_cases h : e.key = k
    · simp only [List.findIdx?_cons, decide_eq_true h, if_true]
      exact ⟨[], e, r, rfl, rfl, h, by simp [findE, h]⟩
    · have ih := findE_split r k
      simp only [List.findIdx?_cons, decide_eq_false h, Bool.false_eq_true, if_false]
      cases hf : r.findIdx? (fun e => decide (e.key = k)) with
      | none =>
        rw [hf] at ih
        simp only [Option.map_none]
        rw [findE, List.find?_cons_of_neg (by simp [h])]
        exact ih
      | some j =>
        rw [hf] at ih
        obtain ⟨pre, m, post, e1, e2, e3, e4⟩ := ih
        simp only [Option.map_some]
        refine ⟨e :: pre, m, post, by rw [e1]; rfl, by simp [e2], e3, ?_⟩
        rw [findE, List.find?_cons_of_neg (by simp [h])]
        exact e4

theorem put7_ext {w wr : World} {q : Nat} (hx : Ext w wr) (hq : w.heap.size ≤ q) (e : Entry) (v1 v2 v3 : Value) : Ext w (put7 wr q e v1 v2 v3) :=
  ((((((hx.set (p := ⟨q, 0, none⟩) hq _).set (p := ⟨q, 1, none⟩) hq _).set (p := ⟨q, 2, none⟩) hq _).set (p := ⟨q, 3, none⟩) hq _).set (p := ⟨q, 4, none⟩) hq _).set (p := ⟨q, 5, none⟩) hq _).set (p := ⟨q, 6, none⟩) hq _
theorem EntAt.none (w : World) (S : Nat → Prop) (A B C : Option Addr) : EntAt w S noneE (.slice A 0 0) (.slice B 0 0) (.slice C 0 0) := ⟨Sl.nil _ _ (by decide), Sl.nil _ _ (by decide), Sl.nil _ _ (by decide)⟩

set_option maxRecDepth 100000 in
set_option maxHeartbeats 1000000 in
theorem find_any {S : Nat → Prop} {v : Value} {l : List Entry} {w : World} (k : Str) (hv : Sl entryT w S v l) :
    Calls Tryz.prog 41 #[v, St k] w fun r w' => ∃ v1 v2 v3, r = .returned (.tuple #[entV ((findE l k).getD noneE) v1 v2 v3, .bool (findE l k).isSome]) ∧ EntAt w' S ((findE l k).getD noneE) v1 v2 v3 ∧ Ext w w' := by
  have hx0 := (Ext.refl w).alloc (.cells #[St [], .slice none 0 0, .slice none 0 0, .slice none 0 0, .int .u64 0, St [], .bool false] 37)
  have hr0 := rowNew w 37 [St [], .slice none 0 0, .slice none 0 0, .slice none 0 0, .int .u64 0, St [], .bool false]
  have HP := Lib.hid (places_any (hv.ext (by decide) hx0))
  have hv' := hv
  obtain ⟨A, c, rfl, hc1, hc2⟩ := hv.form
  have HAT := Lib.hid (fun (pre post : List Entry) (m : Entry) (wr : World) (h : Ext w wr) (hl : l = pre ++ m :: post) => entry_at hv' h hl)
  clear hv hv'
  go_enter Tryz.func41, Tryz.ntmps41
  go_wp2_with fail
  generalize hW0 : w.alloc (.cells #[St [], .slice none 0 0, .slice none 0 0, .slice none 0 0, .int .u64 0, St [], .bool false] 37) = W0 at *
  clear hW0
  refine HP.out.mono ?_
  rintro r W1 ⟨m, rfl, hm1, hM, hx1⟩
  have hlk := (run_lookup_MapIs (P := Tryz.prog) (z := 0) Tryz.underlying112 keyOkS zeroI hM k).2
  have hpl := plF_lookup l 0 [] k
  have hsp := findE_split l k
  have hx01 := hx0.trans hx1
  have hr1 := hr0.ext hx1
  rw [lookL_mem, show ∀ L : List (Str × Int), getL 0 L k = (lookL L k).getD 0 from fun _ => rfl, hpl] at hlk
  simp only [show lookL ([] : List (Str × Int)) k = none from rfl, Nat.zero_add] at hlk
  clear hM hpl HP hx0 hr0 hx1
  cases hf : l.findIdx? (fun e => decide (e.key = k)) with
  | none =>
    rw [hf] at hlk hsp
    simp only at hsp
    simp only [Option.map_none, Option.getD_none, Option.isSome_none] at hlk
    have f0 := hr1.frozen 0
    have f1 := hr1.frozen 1
    have f2 := hr1.frozen 2
    have f3 := hr1.frozen 3
    have f4 := hr1.frozen 4
    have f5 := hr1.frozen 5
    have f6 := hr1.frozen 6
    have r0 := hr1.cell (j := 0) rfl
    have r1 := hr1.cell (j := 1) rfl
    have r2 := hr1.cell (j := 2) rfl
    have r3 := hr1.cell (j := 3) rfl
    have r4 := hr1.cell (j := 4) rfl
    have r5 := hr1.cell (j := 5) rfl
    have r6 := hr1.cell (j := 6) rfl
    have HX := Lib.hid hx01
    have HF := Lib.hid hsp
    clear hsp hf hx01 hr1 HAT
    go_wp2_with fail
    (try simp only [Exit.inBlock, Exit.then])
    refine bodyPost_ret (v := .tuple #[entV noneE (.slice none 0 0) (.slice none 0 0) (.slice none 0 0), .bool false]) (by simp [results, Tryz.f41, go_sem, entV, entC, noneE, r0, r1, r2, r3, r4, r5, r6]) rfl ?_
    have hp := put7_ext (q := w.heap.size) HX.out (Nat.le_refl _) noneE (.slice none 0 0) (.slice none 0 0) (.slice none 0 0)
    have hq := EntAt.none (put7 W1 w.heap.size noneE (.slice none 0 0) (.slice none 0 0) (.slice none 0 0)) S none none none
    refine ⟨.slice none 0 0, .slice none 0 0, .slice none 0 0, by rw [HF.out]; rfl, ?_⟩
    rw [HF.out]
    exact ⟨hq, hp⟩
  | some j =>
    rw [hf] at hlk hsp
    obtain ⟨pre, m, post, hl, hj, hk, hfe⟩ := hsp
    simp only [Option.map_some, Option.getD_some, Option.isSome_some] at hlk
    obtain ⟨b, o, v1, v2, v3, rfl, e0, e1, e2, e3, e4, e5, e6, hEA⟩ := HAT.out pre post m W1 hx01 hl
    obtain ⟨A1, n1, rfl, -, -⟩ := hEA.seen.form
    obtain ⟨A2, n2, rfl, -, -⟩ := hEA.counts.form
    obtain ⟨A3, n3, rfl, -, -⟩ := hEA.items.form
    have hlt : pre.length < l.length := by rw [hl]; simp
    subst hj
    have HEA := Lib.hid hEA
    have f0 := hr1.frozen 0
    have f1 := hr1.frozen 1
    have f2 := hr1.frozen 2
    have f3 := hr1.frozen 3
    have f4 := hr1.frozen 4
    have f5 := hr1.frozen 5
    have f6 := hr1.frozen 6
    have r0 := hr1.cell (j := 0) rfl
    have r1 := hr1.cell (j := 1) rfl
    have r2 := hr1.cell (j := 2) rfl
    have r3 := hr1.cell (j := 3) rfl
    have r4 := hr1.cell (j := 4) rfl
    have r5 := hr1.cell (j := 5) rfl
    have r6 := hr1.cell (j := 6) rfl
    have HX := Lib.hid hx01
    have HF := Lib.hid hfe
    clear hf hx01 hr1 hl hEA HAT hfe hk
    go_wp2_with fail
    (try simp only [Exit.inBlock, Exit.then])
    refine bodyPost_ret (v := .tuple #[entV m (.slice A1 m.seen.length n1) (.slice A2 m.counts.length n2) (.slice A3 m.items.length n3), .bool true]) (by simp [results, Tryz.f41, go_sem, entV, entC, r0, r1, r2, r3, r4, r5, r6]) rfl ?_
    have hp := put7_ext (q := w.heap.size) HX.out (Nat.le_refl _) m (.slice A1 m.seen.length n1) (.slice A2 m.counts.length n2) (.slice A3 m.items.length n3)
    have hq := HEA.out.ext hp
    refine ⟨.slice A1 m.seen.length n1, .slice A2 m.counts.length n2, .slice A3 m.items.length n3, by rw [HF.out]; rfl, ?_⟩
    rw [HF.out]
    exact ⟨hq, hp⟩
end Go.Proofs.YtdikcgmdmcfpfaaGreat
namespace Go.Proofs.YtdikcgmdmcfpfaaGreat
open Go.RowKit Go.Shelf

def sameEs : List Entry → List Entry → Bool
  | [], [] => true
  | a :: r, b :: s => sameE a b && sameEs r s
  | _, _ => false
theorem sameEs_iff : ∀ {a b : List Entry}, sameEs a b = true ↔ a = b
  | [], [] => by simp [sameEs]
  | [], _ :: _ => by simp [sameEs]
  | _ :: _, [] => by simp [sameEs]
  | a :: r, b :: s => by simp [sameEs, sameE_iff, sameEs_iff]
theorem sameEs_len {a b : List Entry} (h : a.length ≠ b.length) : sameEs a b = false := by
  cases hs : sameEs a b with
  | false => rfl
  | true => exact absurd (congrArg List.length (sameEs_iff.1 hs)) h
theorem sameEs_same (pre : List Entry) (a b : List Entry) : sameEs (pre ++ a) (pre ++ b) = sameEs a b := by
  induction pre with
  | nil => rfl
  | cons x r ih => simp [sameEs, ih, sameE_iff.2 (rfl : x = x)]

set_option maxRecDepth 100000 in
set_option maxHeartbeats 1000000 in
theorem equalEnts_any {S S' : Nat → Prop} {va vb : Value} {A B : List Entry} {w : World} (ha : Sl entryT w S va A) (hb : Sl entryT w S' vb B) :
    Calls Tryz.prog 101 #[va, vb, .func (.func 102) #[] #[]] w fun e w' => e = .returned (.bool (sameEs A B)) ∧ Ext w w' := by
  have ha' := ha
  have hb' := hb
  obtain ⟨Aa, ca, rfl, h1, h2⟩ := ha.form
  obtain ⟨Ab, cb, rfl, h3, h4⟩ := hb.form
  have eg : ∀ args w, (callFunc 102 args).run Tryz.prog w = .ok (.enter 102 args) w := enters_of Tryz.func102 (by kernel_rfl) rfl
  clear ha hb
  by_cases hlen : A.length = B.length
  · have HE := Lib.hid hlen
    have k0 : ((A.length : Int) != (B.length : Int)) = false := by simp [hlen]
    have k1 : (A.length != B.length) = false := by simp [hlen]
    have k2 : ((A.length : Int) == (B.length : Int)) = true := by simp [hlen]
    have HAT := Lib.hid (fun (pre post : List Entry) (m : Entry) (wr : World) (h : Ext w wr) (hl : A = pre ++ m :: post) => entry_at ha' h hl)
    have HBT := Lib.hid (fun (pre post : List Entry) (m : Entry) (wr : World) (h : Ext w wr) (hl : B = pre ++ m :: post) => entry_at hb' h hl)
    have hlb : A.length ≤ B.length := by omega
    have HS1 := Lib.hid (fun (S S' : Nat → Prop) (a b : Entry) (a1 a2 a3 b1 b2 b3 : Value) (W : World) => @sameE_any S S' a b a1 a2 a3 b1 b2 b3 W)
    clear hlen ha' hb'
    go_enter Tryz.func101, Tryz.ntmps101
    go_wp2_with fail
    clear k0 k1 k2
    go_loopw [17] (fun i wr => ∃ pre pa pb, A = pre ++ pa ∧ B = pre ++ pb ∧ i = I pre.length ∧ Ext w wr) (fun i _ => A.length - (intOf i).toNat)
    case atStart => exact ⟨[], A, B, rfl, rfl, rfl, Ext.refl _⟩
    case round =>
      obtain ⟨pre, pa, pb, hla, hlb2, rfl, hx⟩ := hrel
      have hpp : pa.length = pb.length := by have := HE.out; rw [hla, hlb2] at this; simpa using this
      cases pa with
      | cons x pa =>
        cases pb with
        | nil => simp at hpp
        | cons y pb =>
          obtain ⟨b1, o1, a1, a2, a3, rfl, p0, p1, p2, p3, p4, p5, p6, hsx⟩ := HAT.out pre pa x wr hx hla
          obtain ⟨b2, o2, c1, c2, c3, rfl, q0, q1, q2, q3, q4, q5, q6, hsy⟩ := HBT.out pre pb y wr hx hlb2
          have hlt : pre.length < A.length := by rw [hla]; simp
          have hltb : pre.length < B.length := by rw [hlb2]; simp
          have HLA := Lib.hid hla
          have HLB := Lib.hid hlb2
          have HX := Lib.hid hx
          have hxa := (Ext.refl wr).alloc (.cells #[St x.key, a1, a2, a3, U x.cell.1, St x.cell.2.1, .bool x.cell.2.2] 37)
          have hxb := hxa.alloc (.cells #[St y.key, c1, c2, c3, U y.cell.1, St y.cell.2.1, .bool y.cell.2.2] 37)
          have s0 := hxa.cell q0
          have s1 := hxa.cell q1
          have s2 := hxa.cell q2
          have s3 := hxa.cell q3
          have s4 := hxa.cell q4
          have s5 := hxa.cell q5
          have s6 := hxa.cell q6
          have HC := Lib.hid (HS1.out _ _ _ _ _ _ _ _ _ _ _ ((hsx.ext hx).ext hxb) ((hsy.ext hx).ext hxb))
          have HX0 := Lib.hid (hx.trans hxb)
          obtain ⟨A1, n1, rfl, -, -⟩ := hsx.seen.form
          obtain ⟨A2, n2, rfl, -, -⟩ := hsx.counts.form
          obtain ⟨A3, n3, rfl, -, -⟩ := hsx.items.form
          obtain ⟨C1, m1, rfl, -, -⟩ := hsy.seen.form
          obtain ⟨C2, m2, rfl, -, -⟩ := hsy.counts.form
          obtain ⟨C3, m3, rfl, -, -⟩ := hsy.items.form
          have HSM := Lib.hid (show sameEs A B = (sameE x y && sameEs pa pb) by rw [hla, hlb2, sameEs_same]; rfl)
          have HIF := Lib.hid (@sameE_iff x y)
          clear hla hlb2 hpp hx hsx hsy hxa hxb
          cases hxy : sameE x y with
          | true =>
            obtain rfl := HIF.out.1 hxy
            rw [hxy] at HC
            go_wp2_with fail
            refine HC.out.mono ?_
            rintro e w2 ⟨rfl, hx2⟩
            go_wp2_with fail
            go_roundw
            case rel => exact ⟨pre ++ [x], pa, pb, by rw [HLA.out]; simp, by rw [HLB.out]; simp, by simp, HX0.out.trans hx2⟩
            case measure => simp [intOf]; omega
          | false =>
            rw [hxy] at HC HSM
            go_wp2_with fail
            refine HC.out.mono ?_
            rintro e w2 ⟨rfl, hx2⟩
            go_wp2_with fail
            go_ret
            exact ⟨by rw [HSM.out]; rfl, HX0.out.trans hx2⟩
      | nil =>
        have hb0 : pb = [] := List.eq_nil_of_length_eq_zero (by simpa using hpp.symm)
        subst hb0
        rw [List.append_nil] at hla hlb2
        have hl : A.length = pre.length := by rw [hla]
        have HF := Lib.hid (show sameEs A B = true by rw [hla, hlb2]; exact sameEs_iff.2 rfl)
        have HX := Lib.hid hx
        clear hla hlb2 hpp hx
        go_wp2_with fail
        go_ret
        exact ⟨by rw [HF.out]; rfl, HX.out⟩
  · have HF := Lib.hid (sameEs_len hlen)
    have k0 : ((A.length : Int) != (B.length : Int)) = true := by simp; omega
    have k2 : ((A.length : Int) == (B.length : Int)) = false := by rw [beq_eq_false_iff_ne]; omega
    clear ha' hb'
    go_enter Tryz.func101, Tryz.ntmps101
    go_wp2_with fail
    go_ret
    exact ⟨by rw [HF.out]; rfl, Ext.refl _⟩

abbrev stC (v1 v2 v3 : Value) : Array Value := #[v1, v2, v3]
abbrev stV (v1 v2 v3 : Value) : Value := .agg #[v1, v2, v3]
/-- what a state's three slices read as -/
structure StAt (w : World) (S : Nat → Prop) (s : State) (v1 v2 v3 : Value) : Prop where
  all : Sl markT w S v1 s.all
  entries : Sl entryT w S v2 s.entries
  pruned : Sl strT w S v3 s.pruned
theorem StAt.ext {w w' : World} {S : Nat → Prop} {s : State} {v1 v2 v3 : Value} (h : StAt w S s v1 v2 v3) (he : Ext w w') : StAt w' S s v1 v2 v3 :=
  ⟨h.all.ext (by decide) he, h.entries.ext (by decide) he, h.pruned.ext (by decide) he⟩
theorem StAt.mono {w : World} {S S' : Nat → Prop} {s : State} {v1 v2 v3 : Value} (h : StAt w S s v1 v2 v3) (hs : ∀ b, b < w.heap.size → S b → S' b) : StAt w S' s v1 v2 v3 :=
  ⟨h.all.mono (by decide) hs, h.entries.mono (by decide) hs, h.pruned.mono (by decide) hs⟩

def sameSt (a b : State) : Bool := decide (a.all = b.all) && (decide (a.pruned = b.pruned) && sameEs a.entries b.entries)
theorem sameSt_iff {a b : State} : sameSt a b = true ↔ a = b := by
  obtain ⟨a1, a2, a3⟩ := a
  obtain ⟨b1, b2, b3⟩ := b
  simp only [sameSt, Bool.and_eq_true, decide_eq_true_eq, sameEs_iff, State.mk.injEq]
  constructor
  · rintro ⟨h1, h2, h3⟩; exact ⟨h1, h3, h2⟩
  · rintro ⟨h1, h2, h3⟩; exact ⟨h1, h3, h2⟩

set_option maxRecDepth 100000 in
set_option maxHeartbeats 1000000 in
theorem sameS_any {S S' : Nat → Prop} {a b : State} {a1 a2 a3 b1 b2 b3 : Value} {w : World} (ha : StAt w S a a1 a2 a3) (hb : StAt w S' b b1 b2 b3) :
    Calls Tryz.prog 48 #[stV a1 a2 a3, stV b1 b2 b3] w fun e w' => e = .returned (.bool (sameSt a b)) ∧ Ext w w' := by
  obtain ⟨al, ae, ap⟩ := a
  obtain ⟨bl, be, bp⟩ := b
  have HA := Lib.hid ha
  have HB := Lib.hid hb
  obtain ⟨A1, n1, rfl, -, -⟩ := ha.all.form
  obtain ⟨A2, n2, rfl, -, -⟩ := ha.entries.form
  obtain ⟨A3, n3, rfl, -, -⟩ := ha.pruned.form
  obtain ⟨B1, m1, rfl, -, -⟩ := hb.all.form
  obtain ⟨B2, m2, rfl, -, -⟩ := hb.entries.form
  obtain ⟨B3, m3, rfl, -, -⟩ := hb.pruned.form
  have hx := ((Ext.refl w).alloc (.cells #[.slice A1 al.length n1, .slice A2 ae.length n2, .slice A3 ap.length n3] 30)).alloc (.cells #[.slice B1 bl.length m1, .slice B2 be.length m2, .slice B3 bp.length m3] 30)
  have rA := (rowNew w 30 [.slice A1 al.length n1, .slice A2 ae.length n2, .slice A3 ap.length n3]).alloc (.cells #[.slice B1 bl.length m1, .slice B2 be.length m2, .slice B3 bp.length m3] 30)
  have rB := rowNew (w.alloc (.cells #[.slice A1 al.length n1, .slice A2 ae.length n2, .slice A3 ap.length n3] 30)) 30 [.slice B1 bl.length m1, .slice B2 be.length m2, .slice B3 bp.length m3]
  rw [World.size_alloc] at rB
  have H1 := Lib.hid (equal_mark (HA.out.all.ext (by decide) hx) (HB.out.all.ext (by decide) hx))
  clear ha hb
  go_enter Tryz.func48, Tryz.ntmps48
  go_wp2_with fail
  generalize (w.alloc (.cells #[.slice A1 al.length n1, .slice A2 ae.length n2, .slice A3 ap.length n3] 30)).alloc (.cells #[.slice B1 bl.length m1, .slice B2 be.length m2, .slice B3 bp.length m3] 30) = W0 at *
  refine H1.out.mono ?_
  rintro e W1 ⟨rfl, hx1⟩
  have hx01 := hx.trans hx1
  have a2 := (rA.ext hx1).cell (j := 2) rfl
  have b2 := (rB.ext hx1).cell (j := 2) rfl
  have HRA := Lib.hid (rA.ext hx1)
  have HRB := Lib.hid (rB.ext hx1)
  have H2 := Lib.hid (equal_str (HA.out.pruned.ext (by decide) hx01) (HB.out.pruned.ext (by decide) hx01))
  have HX := Lib.hid hx01
  have HD := Lib.hid (show sameSt ⟨al, ae, ap⟩ ⟨bl, be, bp⟩ = (decide (al = bl) && (decide (ap = bp) && sameEs ae be)) from rfl)
  clear rA rB hx hx1 hx01
  by_cases h1 : al = bl
  · rw [decide_eq_true h1] at HD ⊢
    clear h1
    go_wp2_with fail
    refine H2.out.mono ?_
    rintro e W2 ⟨rfl, hx2⟩
    have a1 := (HRA.out.ext hx2).cell (j := 1) rfl
    have b1 := (HRB.out.ext hx2).cell (j := 1) rfl
    have HX2 := Lib.hid (HX.out.trans hx2)
    have H3 := Lib.hid (equalEnts_any (HA.out.entries.ext (by decide) HX2.out) (HB.out.entries.ext (by decide) HX2.out))
    clear hx2 a2 b2
    by_cases h2 : ap = bp
    · rw [decide_eq_true h2] at HD ⊢
      clear h2
      go_wp2_with fail
      refine H3.out.mono ?_
      rintro e W3 ⟨rfl, hx3⟩
      go_wp2_with fail
      go_ret
      exact ⟨by rw [HD.out]; simp, HX2.out.trans hx3⟩
    · rw [decide_eq_false h2] at HD ⊢
      clear h2
      go_wp2_with fail
      go_ret
      exact ⟨by rw [HD.out]; rfl, HX2.out⟩
  · rw [decide_eq_false h1] at HD ⊢
    clear h1
    go_wp2_with fail
    go_ret
    exact ⟨by rw [HD.out]; rfl, HX.out⟩
end Go.Proofs.YtdikcgmdmcfpfaaGreat
