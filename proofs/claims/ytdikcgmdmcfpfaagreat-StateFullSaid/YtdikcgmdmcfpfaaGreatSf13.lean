/- Contracts of the functions that the statement goes through, with their plain words: A region in a round of a range over a function (fence: wide, in round lp): what holds of it in the plain walk holds in the fence; RegionInv3's law there. RegionInv's law with slots of new rows, no two of which are one row (fr: these slots); and the same in a round of a range over a function. Package state: keys: the keys of two rows of entries, side by side: the iterator's contract. Printed by gen_keys.py. slices.Grow of nothing, slices.Concat: at strings. slices.Compact at []string: a row of the call's own. For state.Join: rows of entries and a range over a function; what Join makes. Package state: Since. Printed by gen_statesince.py. -/
import Derived.Test.YtdikcgmdmcfpfaaGreatSf12
namespace Go.Proofs.YtdikcgmdmcfpfaaGreat
open Go.RowKit

section
variable {P : Program} {ops : Array Oper} {Q : Exit → Act → World → Prop}
theorem rowsIn_wide2 {lp nd : Nat} {row : String} {args : Array Value} {w : World} {R : Value → World → Prop} (h : Rows P row args w R) : RowsIn (Fence.wide.inRound lp) nd P row args w R :=
  fun c cs _ => let ⟨v, w', r, s⟩ := h c cs; ⟨v, w', r, stepsIn_wide.2 s⟩
theorem operIn_of {lp nd : Nat} {o : Oper} {a : Act} {w : World} {K : Act → World → Prop} (hd : ∀ c, o.op ≠ .defer c) (h : o.wp P a w K Q) : o.wpIn (Fence.wide.inRound lp) nd P a w K Q := by
  refine ⟨fun _ _ => trivial, ?_⟩
  rw [Oper.semAt_eq _ _ _ hd]
  unfold Oper.wp at h
  generalize (execOp a.eval o).run P w = r at h ⊢
  cases r with
  | ok x w' =>
    cases x with
    | value v => exact h
    | skip => exact h
    | defer d => exact h
    | enter f args =>
      refine ⟨fun h => by simp [Fence.wide] at h, CallsIn.inRound lp (callsIn_wide.2 (Calls.mono h fun e w'' he => ?_))⟩
      cases e <;> exact he
    | row row args => exact ⟨fun h => by simp [Fence.wide] at h, rowsIn_wide2 h⟩
    | _ => exact h.elim
  | halt x w' => cases x <;> exact h
theorem wpOpIn_of {lp nd : Nat} {i : Nat} {K K' : Act → World → Prop} {a : Act} {w : World} (hlo : LetsOut Q → False) (hd : ∀ (i : Nat) (o : Oper), ops[i]? = some o → ∀ c, o.op ≠ .defer c) (hK : ∀ a w, K a w → K' a w) (h : wpOp P ops Q i K a w) : wpOpIn (Fence.wide.inRound lp) nd P ops Q i K' a w := by
  refine wpOpIn_mono hK ?_
  unfold wpOp at h
  unfold wpOpIn
  cases ho : ops[i]? with
  | none => rw [ho] at h; exact h
  | some o =>
    rw [ho] at h
    simp only at h ⊢
    split
    · rename_i hw; rw [if_pos hw] at h; exact operIn_of (hd i o ho) (h.resolve_right fun h => hlo h.2)
    · rename_i hw; rw [if_neg hw] at h; exact ⟨fun _ _ => trivial, h⟩
theorem wpAnyIn_of {lp nd : Nat} {md : Region.Mode} (hlo : LetsOut Q → False) (hd : ∀ (i : Nat) (o : Oper), ops[i]? = some o → ∀ c, o.op ≠ .defer c) : ∀ (fuel : Nat) (listed : Array Bool) (a : Act) (w : World), wpAny P md ops Q fuel listed a w → wpAnyIn (Fence.wide.inRound lp) nd P md ops Q fuel listed a w
  | 0, _, _, _, h => h
  | fuel + 1, listed, a, w, h => ⟨h.1, fun i hi => wpOpIn_of hlo hd (fun a w h => wpAnyIn_of hlo hd fuel _ a w h) (h.2 i hi)⟩
end
section
variable {P : Program} {Q : Exit → Act → World → Prop} {a0 : Act}
theorem wpIn_region_facts3 {id lp nd : Nat} {w0 : World} {l : List Oper} (Fs : List HF) (q : Nat) (J0 J1 : World → Prop) (Mn Mq : World → World → Prop) (hm : P.follows .mixedOrders = true) (hlo : LetsOut Q → False) (hnd : ∀ o ∈ l, ∀ c, o.op ≠ .defer c) (hB : headB2 l.toArray Fs.length a0.tmps.size q (preOf Fs) = true) (hst : storeB Fs q = true)
    (hR : ∀ f ∈ Fs, ∀ v w w', f.fact v w → Mn w w' → f.fact v w') (hRq : ∀ f ∈ Fs, f.isStore = false → ∀ v w w', f.fact v w → Mq w w' → f.fact v w') (hJ : J0 w0.drew)
    (hstep : stepsAll3 P l.toArray Fs.length a0 J0 J1 Mn Mq (nthF Fs) (l.take Fs.length) Fs)
    (hend : ∀ (x : Nat → Value) (w : World), J1 w → slotFacts l.toArray Fs.length a0 (nthF Fs) x w ((l.take Fs.length).filterMap (·.dst)) → wpList P l.toArray Q (l.drop Fs.length) (putAll a0 x ((l.take Fs.length).filterMap (·.dst))) w) :
    (Code.region id l.toArray true).wpIn (Fence.wide.inRound lp) nd P Q a0 w0 := by
  refine wpIn_region_any hm (wpAnyIn_of hlo (fun i o ho => hnd o (List.mem_of_getElem? (by simpa using ho))) _ _ _ _ ?_)
  obtain ⟨h1, -, -, -, -, hqn, -⟩ := headB2_spec hB
  have hrep : cntU Fs.length (Array.replicate l.toArray.size false) = Fs.length := by
    unfold cntU
    rw [List.countP_eq_length.2 (fun i _ => by rw [getD_replicate_false]; rfl)]
    exact List.length_range
  have hat : ∀ i o, i < Fs.length → l[i]? = some o → ∃ f, Fs[i]? = some f ∧ stepAt3 P l.toArray Fs.length a0 J0 J1 Mn Mq (nthF Fs) o f := fun i o hi ho =>
    stepsAll3_at _ _ hstep i o (by rw [List.getElem?_take_of_lt hi]; exact ho)
  have hstore : ∀ i f, Fs[i]? = some f → (f.isStore = true ↔ i = q) := fun i f hf => by
    have hi := (List.getElem?_eq_some_iff.1 hf).1
    have := List.all_eq_true.1 hst i (List.mem_range.2 hi)
    rw [hf] at this
    simp only [Option.map_some, Option.getD_some, beq_iff_eq] at this
    rw [this]
    simp
  have := wpAny_inv3 (P := P) (Q := Q) (J0 := J0) (J1 := J1) (Mn := Mn) (Mq := Mq) (R := nthF Fs) hB (fun i v w w' h he => by
      unfold nthF at h ⊢
      cases hf : Fs[i]? with
      | none => simp
      | some f =>
        rw [hf] at h
        exact hR f (List.mem_of_getElem? hf) v w w' h he)
    (fun i v w w' hiq h he => by
      unfold nthF at h ⊢
      cases hf : Fs[i]? with
      | none => simp
      | some f =>
        rw [hf] at h
        refine hRq f (List.mem_of_getElem? hf) ?_ v w w' h he
        cases hs : f.isStore with
        | false => rfl
        | true => exact absurd ((hstore i f hf).1 hs) hiq)
    (fun i o hi hiq ho x w b hb hj hfacts => by
      obtain ⟨f, hf, hs⟩ := hat i o hi (by simpa using ho)
      have hr : nthF Fs i = f.fact := by unfold nthF; rw [hf]; rfl
      rw [hr]
      cases f with
      | early r =>
        have hb' : b = false := by
          cases b with
          | false => rfl
          | true =>
            refine absurd ?_ (hb rfl)
            unfold preOf
            rw [List.mem_filter]
            exact ⟨List.mem_range.2 hi, by rw [hf]; rfl⟩
        subst hb'
        exact hs x w hj (slotFacts_of _ hfacts)
      | late r => exact hs x w b hj (slotFacts_of _ hfacts)
      | store => exact absurd ((hstore i _ hf).1 rfl) hiq
      | move r => exact absurd ((hstore i _ hf).1 rfl) hiq)
    (fun o ho x w hj hfacts => by
      obtain ⟨f, hf, hs⟩ := hat q o hqn (by simpa using ho)
      have := (hstore q f hf).2 rfl
      have hr : nthF Fs q = f.fact := by unfold nthF; rw [hf]; rfl
      rw [hr]
      cases f with
      | early r => cases this
      | late r => cases this
      | store => exact hs x w hj (slotFacts_of _ hfacts)
      | move r => exact hs x w hj (slotFacts_of _ hfacts))
    (fun x w hj h => by
      rw [show l.toArray.toList = l by simp, invAct_putAll (fun t ht => by have := h t; unfold slotFact at this; rw [ht] at this; exact this)]
      exact hend x w hj (slotFacts_of _ fun t _ => h t))
    Fs.length (Array.replicate l.toArray.size false) a0 { w0 with drawn := w0.drawn + 1 }
    ⟨by simp, fun j oj _ hl => (by rw [getD_replicate_false] at hl; cases hl), fun t _ ht => getD_in (by simpa using ht) (getD_replicate_false _ _)⟩ hrep
    ⟨rfl, rfl, by rw [getD_replicate_false]; exact hJ, fun _ _ => rfl, fun j d _ hl => (by rw [getD_replicate_false] at hl; cases hl)⟩
  rw [show Fs.length + (l.toArray.size - Fs.length) = l.toArray.size by omega] at this
  exact this

end
end Go.Proofs.YtdikcgmdmcfpfaaGreat
namespace Go.Proofs.YtdikcgmdmcfpfaaGreat
open Go.RowKit

def LowP (v : Value) (w : World) : Prop := ∃ g, v = .pointer (some ⟨g, 0, none⟩) ∧ g < w.heap.size
def FreshP (v : Value) (w w' : World) : Prop := ∃ g, v = .pointer (some ⟨g, 0, none⟩) ∧ w.heap.size ≤ g ∧ g < w'.heap.size
theorem LowP.ext {v : Value} {w w' : World} (h : LowP v w) (he : Ext w w') : LowP v w' := by obtain ⟨g, e, h⟩ := h; exact ⟨g, e, Nat.lt_of_lt_of_le h he.size⟩
theorem FreshP.low {v : Value} {w w' : World} (h : FreshP v w w') : LowP v w' := by obtain ⟨g, e, _, h⟩ := h; exact ⟨g, e, h⟩
theorem FreshP.ne {u v : Value} {w w' : World} (h : FreshP v w w') (hu : LowP u w) : u ≠ v := by
  obtain ⟨g, rfl, h1, _⟩ := h
  obtain ⟨g', rfl, h2⟩ := hu
  intro e
  simp only [Value.pointer.injEq, Option.some.injEq, Addr.mk.injEq, and_true] at e
  omega
def freshQ (fr : List Nat) (dst : Option Tmp) (r : Value → World → Prop) (w : World) (v : Value) (w' : World) : Prop := r v w' ∧ match dst with
  | none => True
  | some d => d ∈ fr → FreshP v w w'

section
variable {P : Program} {ops : Array Oper} {Q : Exit → Act → World → Prop}
variable {n N : Nat} {a0 : Act} {w0 : World} {R : Nat → Value → World → Prop} {fr : List Nat}

structure RInvA (ops : Array Oper) (n : Nat) (fr : List Nat) (listed : Array Bool) (a : Act) (w : World) : Prop where
  low : ∀ d i, d ∈ fr → dstIdx ops n d = some i → listed.getD i false = true → LowP (a.eval (.tmp d)) w
  apart : ∀ d i e j, d ∈ fr → e ∈ fr → d ≠ e → dstIdx ops n d = some i → dstIdx ops n e = some j → listed.getD i false = true → listed.getD j false = true → a.eval (.tmp d) ≠ a.eval (.tmp e)

theorem wpAny_invA (hB : headB ops n a0.tmps.size = true) (hR : ∀ i v w w', R i v w → Ext w w' → R i v w')
    (hstep : ∀ i o, i < n → ops[i]? = some o → ∀ (x : Nat → Value) (w : World), Ext w0 w → (∀ t ∈ o.looksAt ops, slotFact ops n a0 R x w t) → wpList P ops (stepQ (InvAct a0.tmps.size a0.defers x) o.dst (freshQ fr o.dst (R i) w) w) [o] (InvAct a0.tmps.size a0.defers x) w)
    (hend : ∀ (x : Nat → Value) (w : World), Ext w0 w → (∀ t, slotFact ops n a0 R x w t) → (∀ d e, d ∈ fr → e ∈ fr → d ≠ e → (dstIdx ops n d).isSome = true → (dstIdx ops n e).isSome = true → x d ≠ x e) → wpList P ops Q (ops.toList.drop n) (InvAct a0.tmps.size a0.defers x) w) :
    ∀ (k : Nat) (listed : Array Bool) (a : Act) (w : World), HeadInv .any ops n listed → cntU n listed = k → RInv ops n a0 w0 R listed a w → RInvA ops n fr listed a w → wpAny P .any ops Q (k + (ops.size - n)) listed a w := by
  obtain ⟨h1, h2, h3, h4, h5⟩ := headB_spec hB
  intro k
  induction k with
  | zero =>
    intro listed a w inv hc ri ra
    have hall : ∀ i, i < n → listed.getD i false = true := fun i hi => by
      have := List.countP_eq_zero.1 hc i (List.mem_range.2 hi)
      simpa using this
    have hcan : listed = canonL n ops.size := by
      apply Array.ext_getElem?
      intro i
      by_cases hi : i < ops.size
      · have hil : i < listed.size := by rw [inv.size]; exact hi
        by_cases hin : i < n
        · have := hall i hin
          simp [hil] at this
          simp [canonL, hi, hin, hil, this]
        · have := inv.tail i (by omega) hi
          simp [hil] at this
          simp [canonL, hi, hin, hil, this]
      · have hil : ¬ i < listed.size := by rw [inv.size]; exact hi
        simp [canonL, hi, hil]
    have hlen : (ops.toList.drop n).length = ops.size - n := by simp
    have ha := invAct_eq a
    rw [ri.size, ri.defers] at ha
    have hw : wpList P ops Q (ops.toList.drop n) a w := by
      rw [ha]
      refine hend _ w ri.ext (fun t => ?_) (fun d e hd he hne h1 h2 => ?_)
      rotate_left
      · obtain ⟨i, hi⟩ := Option.isSome_iff_exists.1 h1
        obtain ⟨j, hj⟩ := Option.isSome_iff_exists.1 h2
        exact ra.apart d i e j hd he hne hi hj (hall i (dstIdx_some hi).1) (hall j (dstIdx_some hj).1)
      unfold slotFact
      split
      · rename_i hd; exact ri.old t hd
      · rename_i j hd; exact ri.got j t hd (hall j (dstIdx_some hd).1)
    have := wpAny_of_seq (md := .any) (Q' := Q) (ops.toList.drop n) n listed a w (fun j => by simp [List.getElem?_drop]) (by rw [hlen, hcan]; exact h5) hw
    rw [hlen] at this
    rw [Nat.zero_add]
    exact this
  | succ k ih =>
    intro listed a w inv hc ri ra
    have hex : ∃ i, i < n ∧ listed.getD i false = false := by
      have : 0 < cntU n listed := by omega
      obtain ⟨i, hi, hl⟩ := List.countP_pos_iff.1 this
      exact ⟨i, List.mem_range.1 hi, by simpa using hl⟩
    obtain ⟨i0, hi0, hl0⟩ := hex
    obtain ⟨jr, hjr, hjr2⟩ := least_ready hB inv i0 hi0 hl0
    rw [show k + 1 + (ops.size - n) = (k + (ops.size - n)) + 1 by omega]
    refine ⟨(fun h0 => (by rw [h0] at hjr2; cases hjr2)), fun i hi => ?_⟩
    have hin : i < n := by
      rcases Nat.lt_or_ge i n with h | h
      · exact h
      · exact absurd hi (tail_waits h2 h3 h1 inv _ i0 rfl hi0 (getD_in (by rw [inv.size]; omega) hl0) i h)
    obtain ⟨hun, o, ho, hdeps⟩ := mem_ready.1 hi
    obtain ⟨g2, ⟨d, g3, g3', g3''⟩, g4⟩ := headOp_spec (h4 i o hin ho)
    have ha := invAct_eq a
    rw [ri.size, ri.defers] at ha
    have hs := hstep i o hin ho (fun t => a.eval (.tmp t)) w ri.ext fun t ht => by
      unfold slotFact
      split
      · rename_i hd; exact ri.old t hd
      · rename_i j hd
        refine ri.got j t hd ?_
        obtain ⟨o', ho', e, he, hb, hon⟩ := Region.waitsFor_spec (g4 t ht j hd)
        have : o' = o := Option.some.inj (ho'.symm.trans ho)
        subst this
        rw [← hon]
        exact hdeps e he hb
    rw [← ha] at hs
    refine wpOp_of_list ho (fun e a w he h => by cases e <;> first | exact absurd rfl he | exact h) (fun a' w' h => ?_) hs
    obtain ⟨v, rfl, hv, hx⟩ := h
    rw [g3]
    have hsz : d < a.tmps.size := by rw [ri.size]; exact g3'
    obtain ⟨hv, hfv⟩ := hv
    rw [g3] at hfv
    simp only at hfv
    refine ih _ _ _ (inv.set hi hin) ?_ ⟨by rw [putA_size]; exact ri.size, by rw [putA_defers]; exact ri.defers, ri.ext.trans hx, fun t ht => ?_, fun j t ht hl => ?_⟩ ?_
    rotate_right
    · have hoth : ∀ t j, dstIdx ops n t = some j → d ≠ t → (listed.setIfInBounds i true).getD j false = true → listed.getD j false = true := fun t j ht hdt hl => by
        have hji : i ≠ j := fun e => by
          subst e
          have := (dstIdx_some ht).2
          rw [ho] at this
          exact hdt (Option.some.inj (g3.symm.trans this))
        rwa [getD_set_ne false hji] at hl
      refine ⟨fun t j hf ht hl => ?_, fun t j e k hf he hne ht hk hl1 hl2 => ?_⟩
      · by_cases hdt : d = t
        · subst hdt
          rw [putA_same _ _ _ hsz]
          exact (hfv hf).low
        · rw [putA_ne _ _ _ _ hdt]
          exact (ra.low t j hf ht (hoth t j ht hdt hl)).ext hx
      · by_cases hdt : d = t
        · subst hdt
          rw [putA_same _ _ _ hsz, putA_ne _ _ _ _ hne]
          exact ((hfv hf).ne (ra.low e k he hk (hoth e k hk hne hl2))).symm
        · by_cases hde : d = e
          · subst hde
            rw [putA_same _ _ _ hsz, putA_ne _ _ _ _ hdt]
            exact (hfv he).ne (ra.low t j hf ht (hoth t j ht hdt hl1))
          · rw [putA_ne _ _ _ _ hdt, putA_ne _ _ _ _ hde]
            exact ra.apart t j e k hf he hne ht hk (hoth t j ht hdt hl1) (hoth e k hk hde hl2)
    · have := countP_one (fun j => !listed.getD j false) (fun j => !(listed.setIfInBounds i true).getD j false) i (by simpa using getD_both hun) (by
        have hlt : i < listed.size := by rw [inv.size]; omega
        simp [hlt]) (fun j hj => by simp only [getD_set_ne false (Ne.symm hj)]) n hin
      unfold cntU at hc ⊢
      omega
    · rw [putA_ne _ _ _ _ (fun e => by subst e; rw [ht] at g3''; cases g3'')]
      exact ri.old t ht
    · by_cases hdt : d = t
      · subst hdt
        obtain rfl : j = i := Option.some.inj (ht.symm.trans g3'')
        rw [putA_same _ _ _ hsz]
        exact hv
      · rw [putA_ne _ _ _ _ hdt]
        have hji : i ≠ j := fun e => by
          subst e
          have := (dstIdx_some ht).2
          rw [ho] at this
          exact hdt (Option.some.inj (g3.symm.trans this))
        rw [getD_set_ne false hji] at hl
        exact hR _ _ _ _ (ri.got j t ht hl) hx


def stepsAllA (P : Program) (ops : Array Oper) (n : Nat) (a0 : Act) (w0 : World) (R : Nat → Value → World → Prop) (fr : List Nat) : List Oper → List (Value → World → Prop) → Prop
  | o :: l, r :: rs => (∀ (x : Nat → Value) (w : World), Ext w0 w → slotFacts ops n a0 R x w (o.looksAt ops) → wpList P ops (stepQ (InvAct a0.tmps.size a0.defers x) o.dst (freshQ fr o.dst r w) w) [o] (InvAct a0.tmps.size a0.defers x) w) ∧ stepsAllA P ops n a0 w0 R fr l rs
  | [], [] => True
  | _, _ => False
theorem stepsAllA_at : ∀ (l : List Oper) (rs : List (Value → World → Prop)), stepsAllA P ops n a0 w0 R fr l rs → ∀ i o, l[i]? = some o → ∀ (x : Nat → Value) (w : World), Ext w0 w → (∀ t ∈ o.looksAt ops, slotFact ops n a0 R x w t) →
    wpList P ops (stepQ (InvAct a0.tmps.size a0.defers x) o.dst (freshQ fr o.dst (nthR rs i) w) w) [o] (InvAct a0.tmps.size a0.defers x) w
  | [], _, _, i, o, ho, _, _, _, _ => by simp at ho
  | p :: l, [], h, _, _, _, _, _, _, _ => h.elim
  | p :: l, r :: rs, h, 0, o, ho, x, w, he, hf => by
    obtain rfl : p = o := by simpa using ho
    exact h.1 x w he (slotFacts_of _ hf)
  | p :: l, r :: rs, h, i + 1, o, ho, x, w, he, hf => by
    have := stepsAllA_at l rs h.2 i o (by simpa using ho) x w he hf
    simpa [nthR] using this

/-- two slots of new rows: not one -/
def apartL (x : Nat → Value) : List Nat → Prop
  | [] => True
  | d :: l => (∀ e ∈ l, x d ≠ x e) ∧ apartL x l
theorem apartL_of {x : Nat → Value} : ∀ (l : List Nat), l.Nodup → (∀ d ∈ l, ∀ e ∈ l, d ≠ e → x d ≠ x e) → apartL x l
  | [], _, _ => trivial
  | d :: l, hn, h => ⟨fun e he => h d (by simp) e (by simp [he]) (fun e2 => (List.nodup_cons.1 hn).1 (by rw [e2]; exact he)), apartL_of l (List.nodup_cons.1 hn).2 fun a ha b hb => h a (by simp [ha]) b (by simp [hb])⟩

theorem any_factsA {l : List Oper} (Rs : List (Value → World → Prop)) (fr : List Nat) (hB : headB l.toArray Rs.length a0.tmps.size = true) (hfr : (decide fr.Nodup && fr.all fun d => (dstIdx l.toArray Rs.length d).isSome) = true)
    (hR : ∀ r ∈ Rs, ∀ v w w', r v w → Ext w w' → r v w')
    (hstep : stepsAllA P l.toArray Rs.length a0 w0 (nthR Rs) fr (l.take Rs.length) Rs)
    (hend : ∀ (x : Nat → Value) (w : World), Ext w0 w → apartL x fr → slotFacts l.toArray Rs.length a0 (nthR Rs) x w ((l.take Rs.length).filterMap (·.dst)) → wpList P l.toArray Q (l.drop Rs.length) (putAll a0 x ((l.take Rs.length).filterMap (·.dst))) w) :
    wpAny P .any l.toArray Q l.toArray.size (Array.replicate l.toArray.size false) a0 { w0 with drawn := w0.drawn + 1 } := by
  simp only [Bool.and_eq_true, decide_eq_true_eq, List.all_eq_true] at hfr
  obtain ⟨hnd, hsome⟩ := hfr
  have h1 := (headB_spec hB).1
  have hrep : cntU Rs.length (Array.replicate l.toArray.size false) = Rs.length := by
    unfold cntU
    rw [List.countP_eq_length.2 (fun i _ => by rw [getD_replicate_false]; rfl)]
    exact List.length_range
  have := wpAny_invA (P := P) (Q := Q) (w0 := w0) (R := nthR Rs) (fr := fr) hB (fun i v w w' h he => by
      unfold nthR at h ⊢
      by_cases hi : i < Rs.length
      · rw [List.getD_eq_getElem?_getD, List.getElem?_eq_getElem hi] at h ⊢
        exact hR _ (List.getElem_mem hi) v w w' h he
      · rw [List.getD_eq_getElem?_getD, List.getElem?_eq_none (by omega)] at h ⊢
        trivial) (fun i o hi ho => stepsAllA_at _ _ hstep i o (by rw [List.getElem?_take_of_lt hi]; simpa using ho))
    (fun x w he h hap => by
      rw [show l.toArray.toList = l by simp, invAct_putAll (fun t ht => by have := h t; unfold slotFact at this; rw [ht] at this; exact this)]
      exact hend x w he (apartL_of fr hnd fun d hd e he hne => hap d e hd he hne (hsome d hd) (hsome e he)) (slotFacts_of _ fun t _ => h t))
    Rs.length (Array.replicate l.toArray.size false) a0 { w0 with drawn := w0.drawn + 1 }
    ⟨by simp, fun j oj _ hl => (by rw [getD_replicate_false] at hl; cases hl), fun t _ ht => getD_in (by simpa using ht) (getD_replicate_false _ _)⟩ hrep
    ⟨rfl, rfl, (Ext.refl w0).drew, fun _ _ => rfl, fun j d _ hl => (by rw [getD_replicate_false] at hl; cases hl)⟩
    ⟨fun d i _ _ hl => (by rw [getD_replicate_false] at hl; cases hl), fun d i e j _ _ _ _ _ hl => (by rw [getD_replicate_false] at hl; cases hl)⟩
  rw [show Rs.length + (l.toArray.size - Rs.length) = l.toArray.size by omega] at this
  exact this

/-- the law as it is used -/
theorem wp_region_factsA {id : Nat} {l : List Oper} (Rs : List (Value → World → Prop)) (fr : List Nat) (hm : P.follows .mixedOrders = true) (hB : headB l.toArray Rs.length a0.tmps.size = true) (hfr : (decide fr.Nodup && fr.all fun d => (dstIdx l.toArray Rs.length d).isSome) = true)
    (hR : ∀ r ∈ Rs, ∀ v w w', r v w → Ext w w' → r v w')
    (hstep : stepsAllA P l.toArray Rs.length a0 w0 (nthR Rs) fr (l.take Rs.length) Rs)
    (hend : ∀ (x : Nat → Value) (w : World), Ext w0 w → apartL x fr → slotFacts l.toArray Rs.length a0 (nthR Rs) x w ((l.take Rs.length).filterMap (·.dst)) → wpList P l.toArray Q (l.drop Rs.length) (putAll a0 x ((l.take Rs.length).filterMap (·.dst))) w) :
    (Code.region id l.toArray true).wp P Q a0 w0 := wp_region_any hm (any_factsA Rs fr hB hfr hR hstep hend)
/-- .. in a round -/
theorem wpIn_region_factsA {id lp nd : Nat} {l : List Oper} (Rs : List (Value → World → Prop)) (fr : List Nat) (hm : P.follows .mixedOrders = true) (hlo : LetsOut Q → False) (hnd : ∀ o ∈ l, ∀ c, o.op ≠ .defer c) (hB : headB l.toArray Rs.length a0.tmps.size = true)
    (hfr : (decide fr.Nodup && fr.all fun d => (dstIdx l.toArray Rs.length d).isSome) = true)
    (hR : ∀ r ∈ Rs, ∀ v w w', r v w → Ext w w' → r v w')
    (hstep : stepsAllA P l.toArray Rs.length a0 w0 (nthR Rs) fr (l.take Rs.length) Rs)
    (hend : ∀ (x : Nat → Value) (w : World), Ext w0 w → apartL x fr → slotFacts l.toArray Rs.length a0 (nthR Rs) x w ((l.take Rs.length).filterMap (·.dst)) → wpList P l.toArray Q (l.drop Rs.length) (putAll a0 x ((l.take Rs.length).filterMap (·.dst))) w) :
    (Code.region id l.toArray true).wpIn (Fence.wide.inRound lp) nd P Q a0 w0 :=
  wpIn_region_any hm (wpAnyIn_of hlo (fun i o ho => hnd o (List.mem_of_getElem? (by simpa using ho))) _ _ _ _ (any_factsA Rs fr hB hfr hR hstep hend))
end
end Go.Proofs.YtdikcgmdmcfpfaaGreat
namespace Go.Proofs.YtdikcgmdmcfpfaaGreat
open Go.RowKit Go.Shelf
attribute [local go_sem] Oper.semAt_some

/-- one key for each of either -/
def keysL : List Str → List Str → List Str
  | [], [] => []
  | a :: r, [] => a :: keysL r []
  | [], b :: s => b :: keysL [] s
  | a :: r, b :: s =>
    if a == b then b :: keysL r s
    else if ltS a b then a :: keysL r (b :: s)
    else b :: keysL (a :: r) s
termination_by a b => a.length + b.length
theorem keysL_cons_nil (a : Str) (r : List Str) : keysL (a :: r) [] = a :: keysL r [] := by rw [keysL]
theorem keysL_nil_cons (b : Str) (s : List Str) : keysL [] (b :: s) = b :: keysL [] s := by rw [keysL]
theorem keysL_eq (r s : List Str) (k : Str) : keysL (k :: r) (k :: s) = k :: keysL r s := by rw [keysL]; simp
theorem keysL_lt {a b : Str} (r s : List Str) (h1 : (a == b) = false) (h2 : ltS a b = true) : keysL (a :: r) (b :: s) = a :: keysL r (b :: s) := by rw [keysL, if_neg (by simp [h1]), if_pos h2]
theorem keysL_gt {a b : Str} (r s : List Str) (h1 : (a == b) = false) (h2 : ltS a b = false) : keysL (a :: r) (b :: s) = b :: keysL (a :: r) s := by rw [keysL, if_neg (by simp [h1]), if_neg (by simp [h2])]
abbrev keysE (a b : List Entry) : List Str := keysL (a.map (·.key)) (b.map (·.key))

/-- an entry's key, behind rounds that leave S -/
theorem entry_kp {w wr : World} {S : Nat → Prop} {A : Option Addr} {n c N : Nat} {l pre post : List Entry} {m : Entry} (h : Sl entryT w S (.slice A n c) l) (hn : ∀ b, S b → b < w.heap.size → b < N) (hb : KpS S N w wr) (hl : l = pre ++ m :: post) :
    ∃ b o, A = some ⟨b, o, none⟩ ∧ wr.cell? ⟨b, o + pre.length * 7, none⟩ = some (St m.key) := by
  obtain ⟨b, o, vs, c', hv, hS, ⟨v1, v2, v3, rfl, h1, h2, h3⟩, hc⟩ := h.at_ hl
  injection hv with e1 e2 e3
  subst e1
  have h0 := hc 0 _ rfl
  have hbl : b < w.heap.size := blk_of_cell h0
  exact ⟨b, o, rfl, (World.cell?_of_block (a := ⟨b, _, none⟩) (hb.2 b hS (hn b hS hbl))).trans h0⟩

set_option maxRecDepth 100000 in
set_option maxHeartbeats 2000000 in
theorem keys1_in (n l B1 B2 n₀ : Nat) {S : Nat → Prop} {va vb : Value} {A B : List Entry} (J Jx : List Str → World → Prop) (hn : 1 ≤ n)
    (W : World) (hJ : AbidesFrom W.heap.size J) (hn₀ : n₀ ≤ W.heap.size)
    (hY : ∀ pre x W, J pre W → pre.length < (keysE A B).length → YieldAt Fence.wide (n - 1) Tryz.prog l #[St x] W fun e W' =>
      (e = .returned (.bool true) ∧ J (pre ++ [x]) W' ∧ KpS S n₀ W W') ∨ (e = .returned (.bool false) ∧ Jx (pre ++ [x]) W'))
    (h1 : W.cell? ⟨B1, 0, none⟩ = some va) (h2 : W.cell? ⟨B2, 0, none⟩ = some vb) (hS1 : S B1 ∧ B1 < n₀) (hS2 : S B2 ∧ B2 < n₀) (ha : Sl entryT W S va A) (hb : Sl entryT W S vb B) (hSn : ∀ b, S b → b < W.heap.size → b < n₀) (h0 : J [] W) :
    CallsIn Fence.wide n Tryz.prog 105 #[.func (.yield l) #[] #[], .pointer (some ⟨B1, 0, none⟩), .pointer (some ⟨B2, 0, none⟩)] W fun e W' => (∃ v, e = .returned v) ∧
      ((∃ ys, ys = keysE A B ∧ J ys W') ∨ (∃ pre, pre <+: keysE A B ∧ Jx pre W')) := by
  obtain ⟨Aa, ca, rfl, ha1, ha2⟩ := ha.form
  obtain ⟨Ab, cb, rfl, hb1, hb2⟩ := hb.form
  refine callsIn_of_wp Tryz.func105 rfl trivial ?_ rfl
  simp only [Tryz.ntmps105, List.size_toArray, List.length_cons, List.length_nil, Nat.reduceAdd, Nat.reduceSub, Array.replicate_succ, Array.replicate_zero, List.push_toArray, List.append_toArray, List.nil_append, List.cons_append]
  gi_wp2
  gi_loopw [4, 5] (fun i j wr => ∃ preA postA preB postB done, A = preA ++ postA ∧ B = preB ++ postB ∧ i = I preA.length ∧ j = I preB.length ∧ keysE A B = done ++ keysE postA postB ∧ J done wr ∧ KpS S n₀ W wr)
    (fun i j _ => A.length + B.length - (intOf i).toNat - (intOf j).toNat)
  case atStart => exact ⟨[], A, [], B, [], rfl, rfl, rfl, rfl, rfl, h0, KpS.refl _ _ _⟩
  case round =>
    obtain ⟨preA, postA, preB, postB, done, hA, hB, rfl, rfl, hp, hJs, hk⟩ := hrel
    have c1 := cell_kp h1 hS1.1 hS1.2 hk
    have c2 := cell_kp h2 hS2.1 hS2.2 hk
    cases postA with
    | nil =>
      cases postB with
      | nil =>
        rw [List.append_nil] at hA hB
        subst hA; subst hB
        have HP := Lib.hid hp
        clear hp
        gi_wp2
        go_end0
        exact ⟨⟨_, rfl⟩, .inl ⟨_, rfl, by rw [HP.out]; simp only [keysE, List.map_nil]; rw [keysL, List.append_nil]; exact hJs⟩⟩
      | cons b postB =>
        have HSB := Lib.hid hb
        rw [List.append_nil] at hA
        subst hA
        obtain ⟨gb, ob, rfl, db0⟩ := entry_kp hb hSn hk hB
        have hlb : preB.length < B.length := by rw [hB]; simp
        have HB := Lib.hid hB
        have HP := Lib.hid (show keysE A B = done ++ b.key :: keysE [] postB from by rw [hp]; simp only [keysE, List.map_cons, List.map_nil]; rw [keysL_nil_cons])
        have HJ := Lib.hid hJ
        have HY := Lib.hid hY
        have HK := Lib.hid hk
        have HS := Lib.hid hJs
        have e1 : ((A.length : Int) == A.length) = true := by simp
        have e2 : ((preB.length : Int) == B.length) = false := by rw [beq_eq_false_iff_ne]; omega
        clear hp hJ hY hk hJs hb ha hB
        gi_wp2
        gi_quiet (fail)
        obtain ⟨fn, tmps, assign, body, hy, hR⟩ := HY.out done (b.key) (wr.drewN nq) (HJ.out done wr ((wr.drewN nq)) none HS.out (ext_grownBy ((Ext.refl wr).drewN nq)) (by simp)) (by rw [HP.out]; simp)
        gi_wp2
        refine hR.mono ?_
        rintro e W3 (⟨rfl, hJ3, hk3⟩ | ⟨rfl, hJx3⟩)
        · have HK3 := Lib.hid ((HK.out.trans (((Ext.refl wr).drewN nq).kpS (Nat.le_trans hn₀ HK.out.1))).trans hk3)
          have HJ3 := Lib.hid hJ3
          clear hk3 hJ3
          have d1 := cell_kp h1 hS1.1 hS1.2 HK3.out
          have d2 := cell_kp h2 hS2.1 hS2.2 HK3.out
          obtain ⟨gb', ob', eb, db3⟩ := entry_kp HSB.out hSn HK3.out HB.out
          simp only [Option.some.injEq, Addr.mk.injEq, and_true] at eb
          obtain ⟨rfl, rfl⟩ := eb
          gi_wp2
          go_roundw
          case rel => exact ⟨A, [], preB ++ [b], postB, done ++ [b.key], by simp, by rw [HB.out]; simp, by simp, by simp, by rw [HP.out]; simp, HJ3.out, HK3.out⟩
          case measure => simp [intOf]; omega
        · gi_wp2
          refine bodyPost_ret (results_none rfl _ _ _) rfl ?_
          exact ⟨⟨_, rfl⟩, .inr ⟨done ++ [b.key], ⟨_, by rw [HP.out, List.append_assoc]; rfl⟩, hJx3⟩⟩
    | cons a postA =>
      cases postB with
      | nil =>
        have HSA := Lib.hid ha
        rw [List.append_nil] at hB
        subst hB
        obtain ⟨ga, oa, rfl, da0⟩ := entry_kp ha hSn hk hA
        have hla : preA.length < A.length := by rw [hA]; simp
        have HA := Lib.hid hA
        have HP := Lib.hid (show keysE A B = done ++ a.key :: keysE postA [] from by rw [hp]; simp only [keysE, List.map_cons, List.map_nil]; rw [keysL_cons_nil])
        have HJ := Lib.hid hJ
        have HY := Lib.hid hY
        have HK := Lib.hid hk
        have HS := Lib.hid hJs
        have e1 : ((preA.length : Int) == A.length) = false := by rw [beq_eq_false_iff_ne]; omega
        have e2 : ((B.length : Int) == B.length) = true := by simp
        clear hp hJ hY hk hJs hb ha hA
        gi_wp2
        gi_quiet (fail)
        obtain ⟨fn, tmps, assign, body, hy, hR⟩ := HY.out done (a.key) (wr.drewN nq) (HJ.out done wr ((wr.drewN nq)) none HS.out (ext_grownBy ((Ext.refl wr).drewN nq)) (by simp)) (by rw [HP.out]; simp)
        gi_wp2
        refine hR.mono ?_
        rintro e W3 (⟨rfl, hJ3, hk3⟩ | ⟨rfl, hJx3⟩)
        · have HK3 := Lib.hid ((HK.out.trans (((Ext.refl wr).drewN nq).kpS (Nat.le_trans hn₀ HK.out.1))).trans hk3)
          have HJ3 := Lib.hid hJ3
          clear hk3 hJ3
          have d1 := cell_kp h1 hS1.1 hS1.2 HK3.out
          have d2 := cell_kp h2 hS2.1 hS2.2 HK3.out
          obtain ⟨ga', oa', ea, da3⟩ := entry_kp HSA.out hSn HK3.out HA.out
          simp only [Option.some.injEq, Addr.mk.injEq, and_true] at ea
          obtain ⟨rfl, rfl⟩ := ea
          gi_wp2
          go_roundw
          case rel => exact ⟨preA ++ [a], postA, B, [], done ++ [a.key], by rw [HA.out]; simp, by simp, by simp, by simp, by rw [HP.out]; simp, HJ3.out, HK3.out⟩
          case measure => simp [intOf]; omega
        · gi_wp2
          refine bodyPost_ret (results_none rfl _ _ _) rfl ?_
          exact ⟨⟨_, rfl⟩, .inr ⟨done ++ [a.key], ⟨_, by rw [HP.out, List.append_assoc]; rfl⟩, hJx3⟩⟩
      | cons b postB =>
        have HSA := Lib.hid ha
        have HSB := Lib.hid hb
        rcases str_cases a.key b.key with ⟨q1, q2, q3, q4, q5⟩ | q | ⟨q1, q2, q3, q4, q5⟩
        · skip
          obtain ⟨ga, oa, rfl, da0⟩ := entry_kp ha hSn hk hA
          obtain ⟨gb, ob, rfl, db0⟩ := entry_kp hb hSn hk hB
          have hla : preA.length < A.length := by rw [hA]; simp
          have HA := Lib.hid hA
          have hlb : preB.length < B.length := by rw [hB]; simp
          have HB := Lib.hid hB
          have HP := Lib.hid (show keysE A B = done ++ a.key :: keysE postA (b :: postB) from by rw [hp]; simp only [keysE, List.map_cons, List.map_nil]; rw [keysL_lt _ _ q3 q1])
          have HJ := Lib.hid hJ
          have HY := Lib.hid hY
          have HK := Lib.hid hk
          have HS := Lib.hid hJs
          have e1 : ((preA.length : Int) == A.length) = false := by rw [beq_eq_false_iff_ne]; omega
          have e2 : ((preB.length : Int) == B.length) = false := by rw [beq_eq_false_iff_ne]; omega
          clear hp hJ hY hk hJs hb ha hA hB
          gi_wp2
          gi_quiet (fail)
          obtain ⟨fn, tmps, assign, body, hy, hR⟩ := HY.out done (a.key) (wr.drewN nq) (HJ.out done wr ((wr.drewN nq)) none HS.out (ext_grownBy ((Ext.refl wr).drewN nq)) (by simp)) (by rw [HP.out]; simp)
          gi_wp2
          refine hR.mono ?_
          rintro e W3 (⟨rfl, hJ3, hk3⟩ | ⟨rfl, hJx3⟩)
          · have HK3 := Lib.hid ((HK.out.trans (((Ext.refl wr).drewN nq).kpS (Nat.le_trans hn₀ HK.out.1))).trans hk3)
            have HJ3 := Lib.hid hJ3
            clear hk3 hJ3
            have d1 := cell_kp h1 hS1.1 hS1.2 HK3.out
            have d2 := cell_kp h2 hS2.1 hS2.2 HK3.out
            obtain ⟨ga', oa', ea, da3⟩ := entry_kp HSA.out hSn HK3.out HA.out
            simp only [Option.some.injEq, Addr.mk.injEq, and_true] at ea
            obtain ⟨rfl, rfl⟩ := ea
            obtain ⟨gb', ob', eb, db3⟩ := entry_kp HSB.out hSn HK3.out HB.out
            simp only [Option.some.injEq, Addr.mk.injEq, and_true] at eb
            obtain ⟨rfl, rfl⟩ := eb
            gi_wp2
            go_roundw
            case rel => exact ⟨preA ++ [a], postA, preB, b :: postB, done ++ [a.key], by rw [HA.out]; simp, HB.out, by simp, by simp, by rw [HP.out]; simp, HJ3.out, HK3.out⟩
            case measure => simp [intOf]; omega
          · gi_wp2
            refine bodyPost_ret (results_none rfl _ _ _) rfl ?_
            exact ⟨⟨_, rfl⟩, .inr ⟨done ++ [a.key], ⟨_, by rw [HP.out, List.append_assoc]; rfl⟩, hJx3⟩⟩
        · obtain ⟨ka, ha0⟩ : ∃ k, a.key = k := ⟨_, rfl⟩
          have hb0 : b.key = ka := q.symm.trans ha0
          clear q
          obtain ⟨ga, oa, rfl, da0⟩ := entry_kp ha hSn hk hA
          obtain ⟨gb, ob, rfl, db0⟩ := entry_kp hb hSn hk hB
          have hla : preA.length < A.length := by rw [hA]; simp
          have HA := Lib.hid hA
          have hlb : preB.length < B.length := by rw [hB]; simp
          have HB := Lib.hid hB
          have HP := Lib.hid (show keysE A B = done ++ ka :: keysE postA postB from by rw [hp]; simp only [keysE, List.map_cons, List.map_nil]; rw [ha0, hb0, keysL_eq])
          have HJ := Lib.hid hJ
          have HY := Lib.hid hY
          have HK := Lib.hid hk
          have HS := Lib.hid hJs
          have e1 : ((preA.length : Int) == A.length) = false := by rw [beq_eq_false_iff_ne]; omega
          have e2 : ((preB.length : Int) == B.length) = false := by rw [beq_eq_false_iff_ne]; omega
          clear hp hJ hY hk hJs hb ha hA hB
          gi_wp2
          gi_quiet (fail)
          obtain ⟨fn, tmps, assign, body, hy, hR⟩ := HY.out done (ka) (wr.drewN nq) (HJ.out done wr ((wr.drewN nq)) none HS.out (ext_grownBy ((Ext.refl wr).drewN nq)) (by simp)) (by rw [HP.out]; simp)
          gi_wp2
          refine hR.mono ?_
          rintro e W3 (⟨rfl, hJ3, hk3⟩ | ⟨rfl, hJx3⟩)
          · have HK3 := Lib.hid ((HK.out.trans (((Ext.refl wr).drewN nq).kpS (Nat.le_trans hn₀ HK.out.1))).trans hk3)
            have HJ3 := Lib.hid hJ3
            clear hk3 hJ3
            have d1 := cell_kp h1 hS1.1 hS1.2 HK3.out
            have d2 := cell_kp h2 hS2.1 hS2.2 HK3.out
            obtain ⟨ga', oa', ea, da3⟩ := entry_kp HSA.out hSn HK3.out HA.out
            simp only [Option.some.injEq, Addr.mk.injEq, and_true] at ea
            obtain ⟨rfl, rfl⟩ := ea
            obtain ⟨gb', ob', eb, db3⟩ := entry_kp HSB.out hSn HK3.out HB.out
            simp only [Option.some.injEq, Addr.mk.injEq, and_true] at eb
            obtain ⟨rfl, rfl⟩ := eb
            gi_wp2
            go_roundw
            case rel => exact ⟨preA ++ [a], postA, preB ++ [b], postB, done ++ [ka], by rw [HA.out]; simp, by rw [HB.out]; simp, by simp, by simp, by rw [HP.out]; simp, HJ3.out, HK3.out⟩
            case measure => simp [intOf]; omega
          · gi_wp2
            refine bodyPost_ret (results_none rfl _ _ _) rfl ?_
            exact ⟨⟨_, rfl⟩, .inr ⟨done ++ [ka], ⟨_, by rw [HP.out, List.append_assoc]; rfl⟩, hJx3⟩⟩
        · skip
          obtain ⟨ga, oa, rfl, da0⟩ := entry_kp ha hSn hk hA
          obtain ⟨gb, ob, rfl, db0⟩ := entry_kp hb hSn hk hB
          have hla : preA.length < A.length := by rw [hA]; simp
          have HA := Lib.hid hA
          have hlb : preB.length < B.length := by rw [hB]; simp
          have HB := Lib.hid hB
          have HP := Lib.hid (show keysE A B = done ++ b.key :: keysE (a :: postA) postB from by rw [hp]; simp only [keysE, List.map_cons, List.map_nil]; rw [keysL_gt _ _ q3 q1])
          have HJ := Lib.hid hJ
          have HY := Lib.hid hY
          have HK := Lib.hid hk
          have HS := Lib.hid hJs
          have e1 : ((preA.length : Int) == A.length) = false := by rw [beq_eq_false_iff_ne]; omega
          have e2 : ((preB.length : Int) == B.length) = false := by rw [beq_eq_false_iff_ne]; omega
          clear hp hJ hY hk hJs hb ha hA hB
          gi_wp2
          gi_quiet (fail)
          obtain ⟨fn, tmps, assign, body, hy, hR⟩ := HY.out done (b.key) (wr.drewN nq) (HJ.out done wr ((wr.drewN nq)) none HS.out (ext_grownBy ((Ext.refl wr).drewN nq)) (by simp)) (by rw [HP.out]; simp)
          gi_wp2
          refine hR.mono ?_
          rintro e W3 (⟨rfl, hJ3, hk3⟩ | ⟨rfl, hJx3⟩)
          · have HK3 := Lib.hid ((HK.out.trans (((Ext.refl wr).drewN nq).kpS (Nat.le_trans hn₀ HK.out.1))).trans hk3)
            have HJ3 := Lib.hid hJ3
            clear hk3 hJ3
            have d1 := cell_kp h1 hS1.1 hS1.2 HK3.out
            have d2 := cell_kp h2 hS2.1 hS2.2 HK3.out
            obtain ⟨ga', oa', ea, da3⟩ := entry_kp HSA.out hSn HK3.out HA.out
            simp only [Option.some.injEq, Addr.mk.injEq, and_true] at ea
            obtain ⟨rfl, rfl⟩ := ea
            obtain ⟨gb', ob', eb, db3⟩ := entry_kp HSB.out hSn HK3.out HB.out
            simp only [Option.some.injEq, Addr.mk.injEq, and_true] at eb
            obtain ⟨rfl, rfl⟩ := eb
            gi_wp2
            go_roundw
            case rel => exact ⟨preA, a :: postA, preB ++ [b], postB, done ++ [b.key], HA.out, by rw [HB.out]; simp, by simp, by simp, by rw [HP.out]; simp, HJ3.out, HK3.out⟩
            case measure => simp [intOf]; omega
          · gi_wp2
            refine bodyPost_ret (results_none rfl _ _ _) rfl ?_
            exact ⟨⟨_, rfl⟩, .inr ⟨done ++ [b.key], ⟨_, by rw [HP.out, List.append_assoc]; rfl⟩, hJx3⟩⟩
end Go.Proofs.YtdikcgmdmcfpfaaGreat
namespace Go.Proofs.YtdikcgmdmcfpfaaGreat
open Go.RowKit Go.Shelf

set_option maxRecDepth 100000 in
set_option maxHeartbeats 1000000 in
theorem growS_any (n : Nat) (w : World) (hn : n ≤ 1099511627776) :
    Calls Tryz.prog 109 #[.slice none 0 0, I n] w fun r w' => ∃ v, r = .returned v ∧ Own w' w.heap.size 9 1 v 0 [] ∧ Ext w w' := by
  rcases Nat.eq_zero_or_pos n with rfl | h0
  · go_enter Tryz.func109, Tryz.ntmps109
    go_wp2
    go_ret
    exact ⟨_, rfl, Own.nil _ _ _ _ _, Ext.refl _⟩
  · obtain ⟨i0, hi0, hz0, hzs, hzb⟩ := info_parts info_str
    have hold : (Builtin.firstCells i0.size 0 (.slice none 0 0)).run Tryz.prog w.drew = .ok ([] : List Value).toArray w.drew := run_firstCells_none w.drew i0.size 0 0 0
    obtain ⟨G, hG⟩ : ∃ G, G = grownCap w n 0 9 := ⟨_, rfl⟩
    have hGn : n ≤ G := by rw [hG]; exact grownCap_ge w _ _ _
    have hG63 : G ≤ 9223372036854775807 := by
      have := grownCap_le_maxLen w n 0 9 (by unfold maxLen; omega)
      rw [← hG] at this
      unfold maxLen at this
      omega
    obtain ⟨Z, hZ⟩ : ∃ Z : Array Value, Z = (#[] ++ Builtin.zeroCells (St []).cells n ++ Builtin.zeroCells (St []).cells (G - n)) := ⟨_, rfl⟩
    have hZs : Z.size = G * 1 := by
      rw [hZ]
      have : (St []).cells.size = 1 := rfl
      simp only [Array.size_append, size_zeroCells, this]
      simp
      omega
    have hrz : ∀ ty, (Builtin.append_ #[28, 3] ty #[.slice none 0 0, .int .i64 (n : Int)]).run Tryz.prog w =
        .ok (.slice (some ⟨w.heap.size, 0, none⟩) n G) (w.drew.alloc (.cells Z 9)) := fun ty => by
      have h := Lib.run_append_grow_zeros w 28 3 ty 9 i0 _ .i64 .i64 Tryz.underlying28 Tryz.underlying3 hi0 hz0 none 0 0 [] hold n h0 (by omega) (by omega) (by omega) (by rw [hzb]; omega) (by rw [hzb]; exact growslice_fits (by omega) (by omega))
      simp only [Nat.zero_add] at h
      rw [← hG] at h
      rw [h, hZ]
    have hpos : (n : Int) > 0 := by omega
    have hw1 : wrap64 ((n : Int) - 0) = n := by unfold wrap64; omega
    have hown : Own (w.drew.alloc (.cells Z 9)) w.heap.size 9 1 (.slice (some ⟨w.heap.size, 0, none⟩) 0 G) 0 [] :=
      Own.of_ownsRow (World.ownsRow_made (base := w.heap.size) w.drew Z G (Nat.le_refl _) (by unfold maxLen; omega) hZs)
    have hx : Ext w (w.drew.alloc (.cells Z 9)) := (Ext.refl w).drew.alloc _
    have HOW := Lib.hid hown
    have HX := Lib.hid hx
    clear hown hx hold hi0 hz0 hzs hzb hG hZ hZs
    go_enter Tryz.func109, Tryz.ntmps109
    go_wp2_with (at_builtin; refine wpList_append_runI _ rfl _ _ 28 3 rfl _ _ rfl rfl (hrz _) ?_; clear hrz)
    all_goals (go_ret; exact ⟨_, rfl, HOW.out, HX.out⟩)

theorem src_str {w : World} {S : Nat → Prop} {A : Option Addr} {n c : Nat} {l : List Str} (h : Sl strT w S (.slice A n c) l) : Src w 1 A l.length (l.flatMap strC) := by
  obtain ⟨vss, h1, h2, h3⟩ := h.src
  have : vss = l.map fun s => [St s] := by
    refine List.ext_getElem? fun i => ?_
    rw [List.getElem?_map]
    cases hl : l[i]? with
    | none => rw [List.getElem?_eq_none_iff] at hl; exact List.getElem?_eq_none_iff.2 (by omega)
    | some x =>
      cases hv : vss[i]? with
      | none => rw [List.getElem?_eq_none_iff] at hv; have := (List.getElem?_eq_some_iff.1 hl).1; omega
      | some vs => simp only [Option.map_some]; congr 1; exact h2 i x vs hl hv
  subst this
  rw [List.flatMap_def]
  exact h3

set_option maxRecDepth 100000 in
set_option maxHeartbeats 1000000 in
theorem concatS_any {S : Nat → Prop} {v : Value} {ls : List (List Str)} {w : World} (hv : Sl (slT strT (by decide)) w S v ls) (hlen : ls.flatten.length ≤ 1099511627776) :
    Calls Tryz.prog 55 #[v] w fun r w' => ∃ v', r = .returned v' ∧ Own w' w.heap.size 9 1 v' ls.flatten.length (ls.flatten.flatMap strC) ∧ Ext w w' := by
  have hv' := hv
  obtain ⟨A, c, rfl, hc1, hc2⟩ := hv.form
  have HAT := Lib.hid (fun (pre post : List (List Str)) (l : List Str) (wr : World) (h : Ext w wr) (hl : ls = pre ++ l :: post) => sl_at hv' h hl)
  have HLE := Lib.hid (fun (pre post : List (List Str)) (l : List Str) (hl : ls = pre ++ l :: post) => (show pre.flatten.length + l.length ≤ 1099511627776 from by
    have := hlen
    rw [hl, List.flatten_append, List.flatten_cons, List.length_append, List.length_append] at this
    omega))
  have HG := Lib.hid (growS_any ls.flatten.length w hlen)
  clear hv hv'
  go_enter Tryz.func55, Tryz.ntmps55
  go_wp2_with fail
  go_loopw [3, 11] (fun z i wr => ∃ pre post, ls = pre ++ post ∧ i = I pre.length ∧ z = I pre.flatten.length ∧ wr = w) (fun _ i _ => ls.length - (intOf i).toNat)
  case atStart => exact ⟨[], ls, rfl, rfl, rfl, rfl⟩
  case round =>
    obtain ⟨pre, post, hl, rfl, rfl, rfl⟩ := hrel
    cases post with
    | cons l post =>
      obtain ⟨b, o, vl, rfl, hd, hsl⟩ := HAT.out pre post l _ (Ext.refl _) hl
      have hlt : pre.length < ls.length := by rw [hl]; simp
      obtain ⟨A2, c2, rfl, hc3, hc4⟩ := hsl.form
      have hle := HLE.out pre post l hl
      have hwz : wrap64 ((pre.flatten.length : Int) + (l.length : Int)) = ((pre.flatten.length + l.length : Nat) : Int) := by unfold wrap64; omega
      have hneg : (((pre.flatten.length + l.length : Nat) : Int) < 0) = False := eq_false (by omega)
      have HL := Lib.hid hl
      obtain ⟨z, hz⟩ : ∃ z, z = pre.flatten.length := ⟨_, rfl⟩
      have HZ := Lib.hid hz
      rw [← hz] at hwz hneg ⊢
      clear hl hsl hle hz
      go_wp2_with fail
      go_roundw
      case rel => exact ⟨pre ++ [l], post, by rw [HL.out]; simp, by simp, by rw [List.flatten_append, List.flatten_cons, List.flatten_nil, List.append_nil, List.length_append, ← HZ.out]; first | rfl | rw [hwz] | simp, by first | rfl | trivial⟩
      case measure => simp [intOf]; omega
    | nil =>
      rw [List.append_nil] at hl
      have HL := Lib.hid hl
      have hlen2 : ls.length = pre.length := by rw [hl]
      have HF := Lib.hid (show ls.flatten.length = pre.flatten.length by rw [hl])
      have HG2 := HG.out
      rw [HF.out] at HG2
      obtain ⟨z, hz⟩ : ∃ z, z = pre.flatten.length := ⟨_, rfl⟩
      rw [← hz] at HG2 ⊢
      have HG3 := Lib.hid HG2
      clear hl hz HG2 HG HF HL
      go_wp2_with fail
      refine HG3.out.mono ?_
      rintro r W1 ⟨v1, rfl, hown1, hx1⟩
      obtain ⟨A1, c1, rfl, -, -⟩ := hown1.form
      have HO1 := Lib.hid hown1
      have HX1 := Lib.hid hx1
      clear hown1 hx1
      go_wp2_with fail
      go_loopw [6, 27] (fun u i wr => ∃ pre post, ls = pre ++ post ∧ i = I pre.length ∧ Own wr _ 9 1 u pre.flatten.length (pre.flatten.flatMap strC) ∧ Ext _ wr) (fun _ i _ => ls.length - (intOf i).toNat)
      case atStart => exact ⟨[], ls, rfl, rfl, HO1.out, HX1.out⟩
      case round =>
        obtain ⟨pre, post, hl, rfl, hown, hx⟩ := hrel
        cases post with
        | cons l post =>
          obtain ⟨b, o, vl, rfl, hd, hsl⟩ := HAT.out pre post l _ hx hl
          have hlt : pre.length < ls.length := by rw [hl]; simp
          obtain ⟨A2, c2, rfl, hc3, hc4⟩ := hsl.form
          have hle := HLE.out pre post l hl
          have hsrc := src_str (hsl.ext (by decide) hx)
          have HL := Lib.hid hl
          have HO := Lib.hid hown
          have HX := Lib.hid hx
          have hn3 := hx.size
          obtain ⟨A4, c4, rfl, -, -⟩ := hown.form
          clear hl hsl hx
          go_wp2_with (at_builtin; refine wpList_append_Own rfl (.tmp 31) (.tmp 32) 28 rfl _ 9 1 16 (St []) Tryz.underlying28 info_str rfl (by omega) _ pre.flatten.length (pre.flatten.flatMap strC) rfl hown _ l.length _ (l.flatMap strC) rfl hsrc (by omega) (by omega) hn3 ?_; intro v' w' hown2 hgr; clear hsrc)
          go_roundw
          case rel => exact ⟨pre ++ [l], post, by rw [HL.out]; simp, by simp, by simpa using hown2, Ext.grewOwn HX.out hgr HO.out (Nat.le_refl _)⟩
          case measure => simp [intOf]; omega
        | nil =>
          rw [List.append_nil] at hl
          have HL := Lib.hid hl
          have hlen2 : ls.length = pre.length := by rw [hl]
          have HO := Lib.hid hown
          have HX := Lib.hid hx
          obtain ⟨A4, c4, rfl, -, -⟩ := hown.form
          clear hl hx hown
          go_wp2_with fail
          go_ret
          exact ⟨_, rfl, by rw [HL.out]; exact HO.out, HX.out⟩
end Go.Proofs.YtdikcgmdmcfpfaaGreat
namespace Go.Proofs.YtdikcgmdmcfpfaaGreat
open Go.RowKit Go.Sort

theorem compact_le (l : List Str) : (Lib.compact l).length ≤ l.length := by
  have h : ∀ (d : Array Str) (m : Nat), (Lib.compactUpTo d m).length ≤ m := fun d m => by
    induction m with
    | zero => simp [Lib.compactUpTo]
    | succ m ih => rw [Lib.compactUpTo_succ, List.length_append]; split <;> simp <;> omega
  have := h l.toArray l.length
  simpa [Lib.compact] using this

theorem compactS_any {v : Value} {l : List Str} {w : World} {base : Nat} (hv : Own w base 9 1 v l.length (l.flatMap strC)) (hl : l.length ≤ 1099511627776) :
    Calls Tryz.prog 57 #[v] w fun e w' => ∃ v', e = .returned v' ∧ Own w' base 9 1 v' (Lib.compact l).length ((Lib.compact l).flatMap strC) ∧ Go.RowKit.Below base w w' := by
  rcases Nat.eq_zero_or_pos l.length with h0 | h0
  · obtain rfl : l = [] := List.eq_nil_of_length_eq_zero h0
    obtain ⟨A, c, rfl, -, -⟩ := hv.form
    have hcon := Any.slices_Compact_string_empty Tryz.lays194 A c w
    exact Calls.mono hcon fun e w' ⟨he, hw⟩ => ⟨_, he, by rw [hw]; simpa [Lib.compact, Lib.compactUpTo] using hv, by rw [hw]; exact Below.refl _ _⟩
  · obtain ⟨gb, cap, tail, rfl, hgb, hrow, hnc, hcm, hcl⟩ := hv.row h0
    have hrow1 : RowIs w gb 9 (l.toArray.map St).toList tail := by simpa [strC_flat] using hrow
    have hH0 := holds_row hrow1
    have hH : Holds encStr w gb 0 l.toArray := fun j hj => by
      have := hH0 j (by simpa using hj)
      rw [getElem!_pos (l.toArray.map St) j (by simpa using hj)] at this
      rw [getElem!_pos l.toArray j hj]
      simpa [encStr] using this
    have hcon := Any.slices_Compact_string Tryz.lays194 gb 0 cap l w hH (by omega) hnc
    refine Calls.mono hcon ?_
    rintro e w' ⟨rfl, q, rfl⟩
    have hle := compact_le l
    obtain ⟨X, hX⟩ : ∃ X, X = Lib.compact l ++ List.replicate (l.length - (Lib.compact l).length) [] := ⟨_, rfl⟩
    have hXl : X.length = l.length := by rw [hX, List.length_append, List.length_replicate]; omega
    rw [← hX]
    have h1 : RowIs (putRow id (Sort.ahead w q) gb 0 (X.toArray.map St)) gb 9 (X.toArray.map St).toList tail := putRow_row (w := Sort.ahead w q) hrow1 _ (by simp [hXl])
    have hrw : putRow encStr (Sort.ahead w q) gb 0 X.toArray = putRow id (Sort.ahead w q) gb 0 (X.toArray.map St) := putRow_enc _ _ _ _
    rw [hrw]
    have h2 : RowIs (putRow id (Sort.ahead w q) gb 0 (X.toArray.map St)) gb 9 ((Lib.compact l).flatMap strC) ((List.replicate (l.length - (Lib.compact l).length) (St [])) ++ tail) := by
      unfold RowIs at h1 ⊢
      rw [h1, hX]
      simp [strC_flat]
    refine ⟨_, rfl, ?_, ?_⟩
    · refine h2.own hgb (by omega) hcm ?_ ?_ ?_
      · simp [strC_flat] at hcl ⊢; omega
      · rw [strC_flat, List.take_of_length_le (by simp)]
      · simp [strC_flat]
    · have h3 := below_putRow (w := Sort.ahead w q) hgb (X.toArray.map St)
      exact ⟨h3.os, h3.tape, h3.output, h3.size, h3.block⟩
end Go.Proofs.YtdikcgmdmcfpfaaGreat
namespace Go.Proofs.YtdikcgmdmcfpfaaGreat
open Go.RowKit Go.Shelf

theorem sl_twoS {α : Type} {T : Shape α} {hk : 0 < T.k} {w : World} {S : Nat → Prop} {g : Nat} {v1 v2 : Value} {l1 l2 : List α} (h1 : Sl T w S v1 l1) (h2 : Sl T w S v2 l2) (hg : S g)
    (c0 : w.cell? ⟨g, 0, none⟩ = some v1) (c1 : w.cell? ⟨g, 1, none⟩ = some v2) : Sl (slT T hk) w S (.slice (some ⟨g, 0, none⟩) 2 2) [l1, l2] := by
  refine ⟨some ⟨g, 0, none⟩, 2, rfl, by simp, by omega, fun pre x post hl => ?_⟩
  match pre, hl with
  | [], hl =>
    simp only [List.nil_append, List.cons.injEq] at hl
    obtain ⟨rfl, -⟩ := hl
    exact ⟨g, 0, [v1], rfl, hg, ⟨v1, rfl, h1⟩, fun j u hj => by
      match j, hj with
      | 0, hj => simp at hj; subst hj; simpa using c0
      | j + 1, hj => simp at hj⟩
  | [p], hl =>
    simp only [List.cons_append, List.nil_append, List.cons.injEq] at hl
    obtain ⟨-, rfl, -⟩ := hl
    exact ⟨g, 0, [v2], rfl, hg, ⟨v2, rfl, h2⟩, fun j u hj => by
      match j, hj with
      | 0, hj => simp at hj; subst hj; simpa [slT] using c1
      | j + 1, hj => simp at hj⟩
  | p :: q :: r, hl => simp at hl

/-- blocks of cells alone -/
def CS (w : World) (S : Nat → Prop) (b : Nat) : Prop := S b ∧ ∃ o : Obj, w.heap[b]? = some o ∧ o.isCells = true
theorem isC_of_cell {w : World} {p : Addr} {v : Value} (h : w.cell? p = some v) : ∃ o : Obj, w.heap[p.block]? = some o ∧ o.isCells = true := by
  unfold World.cell? at h
  cases ho : w.heap[p.block]? with
  | none => rw [ho] at h; cases h
  | some o => rw [ho] at h; cases o <;> first | exact ⟨_, rfl, rfl⟩ | cases h
theorem Sl.isC {α : Type} {T : Shape α} {w : World} {S : Nat → Prop} {v : Value} {l : List α} (hk : 0 < T.k) (hrd : ∀ x vs, T.rd w S x vs → T.rd w (CS w S) x vs) (h : Sl T w S v l) : Sl T w (CS w S) v l := by
  obtain ⟨A, c, hv, h1, h2, h3⟩ := h
  refine ⟨A, c, hv, h1, h2, fun pre x post hl => ?_⟩
  obtain ⟨b, o, vs, e, hS, hr, hc⟩ := h3 pre x post hl
  refine ⟨b, o, vs, e, ⟨hS, ?_⟩, hrd x vs hr, hc⟩
  have hlen := T.len hr
  have h0 : vs[0]? = some vs[0] := by simp
  exact isC_of_cell (hc 0 _ h0)
theorem itemT_isC {w : World} {S : Nat → Prop} {x : Item} {vs : List Value} (h : itemT.rd w S x vs) : itemT.rd w (CS w S) x vs := by
  obtain ⟨v, e, h⟩ := h
  exact ⟨v, e, h.isC (by decide) fun _ _ h => h⟩
theorem entryT_isC {w : World} {S : Nat → Prop} {x : Entry} {vs : List Value} (h : entryT.rd w S x vs) : entryT.rd w (CS w S) x vs := by
  obtain ⟨v1, v2, v3, e, h1, h2, h3⟩ := h
  exact ⟨v1, v2, v3, e, h1.isC (by decide) fun _ _ h => h, h2.isC (by decide) fun _ _ h => h, h3.isC (by decide) fun _ _ h => itemT_isC h⟩
theorem RowE.kept {w w' : World} {base g : Nat} {v : Value} {l : List Entry} {row : Option Nat} (h : RowE w base g v l) (hg : w.grownBy w' row) (hr : ∀ r, row = some r → ∃ o : Obj, w.heap[r]? = some o ∧ o.isCells = false) : RowE w' base g v l := by
  obtain ⟨vss, h1, h2, h3⟩ := h
  refine ⟨vss, h1, fun i x vs hi hv => ?_, h3.kept hg hr⟩
  have a := entryT_isC (h2 i x vs hi hv)
  refine entryT.mono (entryT.keep a fun b hb hlt => hg.block b hlt fun e => ?_) fun b _ h => h.1
  obtain ⟨o, ho, hc⟩ := hr b e.symm
  obtain ⟨-, o', ho', hc'⟩ := hb
  rw [ho] at ho'
  cases ho'
  rw [hc] at hc'
  cases hc'
theorem RowIs.kept {w w' : World} {g T : Nat} {xs tl : List Value} {row : Option Nat} (h : RowIs w g T xs tl) (hg : w.grownBy w' row) (hr : ∀ r, row = some r → ∃ o : Obj, w.heap[r]? = some o ∧ o.isCells = false) : RowIs w' g T xs tl :=
  h.keep (hg.block g h.lt fun e => by
    obtain ⟨o, ho, hc⟩ := hr g e.symm
    unfold RowIs at h
    rw [h] at ho
    cases ho
    cases hc)
theorem Ext.keepsO {W W' : World} (h : Ext W W') : KeepsOthers W W' := ⟨h.size, fun b o hb _ => (h.block b (Array.getElem?_eq_some_iff.1 hb).1).trans hb⟩

/-- all below n but block g stays -/
structure OldK (n g : Nat) (W W' : World) : Prop where
  os : W'.os = W.os
  tape : W'.tape = W.tape
  output : W'.output = W.output
  size : n ≤ W'.heap.size
  same : ∀ b, b < n → b ≠ g → W'.heap[b]? = W.heap[b]?
theorem OldK.refl {n g : Nat} {W : World} (h : n ≤ W.heap.size) : OldK n g W W := ⟨rfl, rfl, rfl, h, fun _ _ _ => rfl⟩
theorem OldK.ext {n g : Nat} {W W' W'' : World} (h : OldK n g W W') (he : Ext W' W'') : OldK n g W W'' :=
  ⟨he.os.trans h.os, he.tape.trans h.tape, he.output.trans h.output, Nat.le_trans h.size he.size, fun b hb hg => (he.block b (by have := h.size; omega)).trans (h.same b hb hg)⟩
theorem OldK.set {n g j : Nat} {W W' : World} (h : OldK n g W W') (v : Value) : OldK n g W (W'.setCell ⟨g, j, none⟩ v) :=
  ⟨h.os, h.tape, h.output, by simpa using h.size, fun b hb hg => (Below.heap_setCell _ _ _ _ hg).trans (h.same b hb hg)⟩
theorem OldK.new {n g p j : Nat} {W W' : World} (h : OldK n g W W') (hp : n ≤ p) (v : Value) : OldK n g W (W'.setCell ⟨p, j, none⟩ v) :=
  ⟨h.os, h.tape, h.output, by simpa using h.size, fun b hb hg => (Below.heap_setCell W' ⟨p, j, none⟩ v b (show b ≠ p by omega)).trans (h.same b hb hg)⟩
theorem OldK.grew {n g : Nat} {W W' W'' : World} {v v' : Value} (h : OldK n g W W') (k : Grew W' W'' v v') (hv : ∀ b, ownBlk v b → n ≤ b) : OldK n g W W'' :=
  ⟨k.os.trans h.os, k.tape.trans h.tape, k.output.trans h.output, Nat.le_trans h.size k.size, fun b hb hg => (k.same b (by have := h.size; omega) (fun ho => by have := hv b ho; omega)).trans (h.same b hb hg)⟩
theorem OldK.low {n g : Nat} {W W' W'' : World} (h : OldK n g W W') (k : Below n W' W'') : OldK n g W W'' :=
  ⟨k.os.trans h.os, k.tape.trans h.tape, k.output.trans h.output, Nat.le_trans h.size k.size, fun b hb hg => (k.block b hb).trans (h.same b hb hg)⟩
theorem OldK.below {n g : Nat} {w W W' : World} (h : OldK n g W W') (he : Ext w W) (hn : w.heap.size ≤ n) (hg : w.heap.size ≤ g) : Ext w W' :=
  ⟨h.os.trans he.os, h.tape.trans he.tape, h.output.trans he.output, Nat.le_trans hn h.size, fun b hb => (h.same b (by omega) (by omega)).trans (he.block b hb)⟩
theorem OldK.kps {n g : Nat} {W0 W W' : World} (h : OldK n g W0 W) (h' : OldK n g W0 W') (hz : W.heap.size ≤ W'.heap.size) : KpS (fun b => b < n ∧ b ≠ g) n W W' :=
  ⟨hz, fun b hb hn => (h'.same b hn hb.2).trans (h.same b hn hb.2).symm⟩
theorem OldK.from (n g : Nat) (W0 : World) {β : Type} (B : Nat) (hB : n ≤ B) : OwnFrom B (fun (_ : β) W => OldK n g W0 W) := fun s W W' row h hg hr =>
  ⟨hg.os.trans h.os, hg.tape.trans h.tape, hg.output.trans h.output, Nat.le_trans h.size hg.size, fun b hb hne => (hg.block b (by have := h.size; omega) (fun e => by have := (hr b e.symm).1; omega)).trans (h.same b hb hne)⟩

theorem MapIs.not_row {κ ν : Type} [DecidableEq κ] {K : κ → Value} {V : ν → Value} {w : World} {b T : Nat} {L : List (κ × ν)} {xs tl : List Value} (h : MapIs K V w b L) (hr : RowIs w b T xs tl) : False := by
  obtain ⟨_, _, h, _⟩ := h
  unfold RowIs at hr
  rw [hr] at h
  cases h

theorem put7_rowJ {w : World} {q T : Nat} {e0 e : Entry} {a1 a2 a3 v1 v2 v3 : Value} (h : RowIs w q T (entL e0 a1 a2 a3) []) : RowIs (put7 w q e v1 v2 v3) q T (entL e v1 v2 v3) [] := by
  have := RowIs.set7 (X1 := []) (X2 := []) (o := 0) (by simpa using h) rfl (St e.key) v1 v2 v3 (U e.cell.1) (St e.cell.2.1) (.bool e.cell.2.2)
  simpa using this
theorem put7_sizeJ (w : World) (q : Nat) (e : Entry) (v1 v2 v3 : Value) : (put7 w q e v1 v2 v3).heap.size = w.heap.size := by simp [World.size_setCell]

def getE (l : List Entry) (k : Str) : Entry := (findE l k).getD noneE
def joinEs (a b : List Entry) : List Entry := (keysE a b).map fun k => joinEnt (getE a k) (getE b k)
/-- what Join makes -/
def joinS (a b : State) : State := ⟨joinM a.all b.all, joinEs a.entries b.entries, Lib.compact (sortS (a.pruned ++ b.pruned))⟩
theorem keysL_len (a b : List Str) : (keysL a b).length ≤ a.length + b.length := by
  fun_induction keysL a b <;> simp_all <;> omega

set_option maxHeartbeats 400000 in
theorem keys_any (va vb : Value) (w : World) (ha : va.oneCell' = true) (hb : vb.oneCell' = true) :
    Calls Tryz.prog 53 #[va, vb] w fun e w' => e = .returned (.func (.func 105) #[] #[.pointer (some ⟨w.heap.size, 0, none⟩), .pointer (some ⟨w.heap.size + 1, 0, none⟩)]) ∧ w' = (w.alloc (.cells #[va] 27)).alloc (.cells #[vb] 27) := by
  go_enter Tryz.func53, Tryz.ntmps53
  go_wp2
  go_ret
  exact ⟨rfl, rfl⟩
theorem keys_stops (n : Nat) (hn : 1 ≤ n) {S : Nat → Prop} {n₀ B1 B2 : Nat} {va vb : Value} {A B : List Entry} {w : World} (hn₀ : n₀ ≤ w.heap.size) (h1 : w.cell? ⟨B1, 0, none⟩ = some va) (h2 : w.cell? ⟨B2, 0, none⟩ = some vb)
    (hS1 : S B1) (hS2 : S B2) (hSn : ∀ b, S b → b < n₀) (ha : Sl entryT w S va A) (hb : Sl entryT w S vb B) :
    SeqStopsK Fence.wide n Tryz.prog 105 #[.pointer (some ⟨B1, 0, none⟩), .pointer (some ⟨B2, 0, none⟩)] (fun x => #[St x]) (KpS S n₀) (fun ys => ys = keysE A B) (fun pre => pre <+: keysE A B) (keysE A B).length w :=
  fun l J Jx W hW hJ _ hY h0 =>
    keys1_in n l B1 B2 n₀ J Jx hn W hJ (Nat.le_trans hn₀ hW.size) hY (hW.cell (p := ⟨B1, 0, none⟩) (blk_of_cell h1) |>.trans h1) (hW.cell (p := ⟨B2, 0, none⟩) (blk_of_cell h2) |>.trans h2)
      ⟨hS1, hSn _ hS1⟩ ⟨hS2, hSn _ hS2⟩ (ha.ext (by decide) hW) (hb.ext (by decide) hW) (fun b h _ => hSn b h) h0
end Go.Proofs.YtdikcgmdmcfpfaaGreat
namespace Go.Proofs.YtdikcgmdmcfpfaaGreat
open Go.RowKit Go.Shelf

abbrev dltV (v0 v1 v2 v3 : Value) : Value := .agg #[v0, v1, v2, v3]
/-- what another one lacks who has all that base covers -/
def lacks (base : List Mark) (e : Entry) : Bool := !coversM base e.seen
def sinceS (s : State) (base : List Mark) : State := ⟨s.all, s.entries.filter (lacks base), s.pruned⟩
abbrev put4 (w : World) (q : Nat) (v0 v1 v2 v3 : Value) : World := (((w.setCell ⟨q, 0, none⟩ v0).setCell ⟨q, 1, none⟩ v1).setCell ⟨q, 2, none⟩ v2).setCell ⟨q, 3, none⟩ v3
theorem put4_ext {w wr : World} {q : Nat} (hx : Ext w wr) (hq : w.heap.size ≤ q) (v0 v1 v2 v3 : Value) : Ext w (put4 wr q v0 v1 v2 v3) :=
  (((hx.set (p := ⟨q, 0, none⟩) hq _).set (p := ⟨q, 1, none⟩) hq _).set (p := ⟨q, 2, none⟩) hq _).set (p := ⟨q, 3, none⟩) hq _
theorem put4_heap (w : World) (q : Nat) (v0 v1 v2 v3 : Value) (b : Nat) (hb : b ≠ q) : (put4 w q v0 v1 v2 v3).heap[b]? = w.heap[b]? :=
  (((Below.heap_setCell _ _ _ b hb).trans (Below.heap_setCell _ _ _ b hb)).trans (Below.heap_setCell _ _ _ b hb)).trans (Below.heap_setCell _ _ _ b hb)

set_option maxRecDepth 100000 in
set_option maxHeartbeats 4000000 in
theorem sinceS_any {S S0 : Nat → Prop} {s : State} {v1 v2 v3 vb : Value} {base : List Mark} {w : World} (h : StAt w S s v1 v2 v3) (hb : Sl markT w S0 vb base) (sm : SmallS s) (hbl : base.length ≤ 549755813888) :
    Calls Tryz.prog 18 #[stV v1 v2 v3, vb] w fun r w' => ∃ u0 u1 u2 u3, r = .returned (dltV u0 u1 u2 u3) ∧ Own w' w.heap.size 25 2 u0 (joinM base []).length ((joinM base []).flatMap markC) ∧ StNew w' w.heap.size (sinceS s base) u1 u2 u3 ∧ Ext w w' := by
  obtain ⟨sa, se, sp⟩ := s
  obtain ⟨A1, n1, rfl, -, -⟩ := h.all.form
  obtain ⟨A2, n2, rfl, -, -⟩ := h.entries.form
  obtain ⟨A3, n3, rfl, -, -⟩ := h.pruned.form
  obtain ⟨A0, n0, rfl, -, -⟩ := hb.form
  have h' := h.entries
  have HAT := Lib.hid (fun (pre post : List Entry) (m : Entry) (wr : World) (hx : Ext w wr) (hl : se = pre ++ m :: post) => entry_at h' hx hl)
  have H := Lib.hid h
  have HB0 := Lib.hid hb
  have SM := Lib.hid sm
  have HSI := Lib.hid (show sinceS ⟨sa, se, sp⟩ base = ⟨sa, se.filter (lacks base), sp⟩ from rfl)
  have hx0 : Ext w ((w.alloc (.cells #[.slice A1 sa.length n1, .slice A2 se.length n2, .slice A3 sp.length n3] 30)).alloc (.cells #[.slice none 0 0, .slice none 0 0, .slice none 0 0, .slice none 0 0] 64)) := ((Ext.refl w).alloc _).alloc _
  have rB0 : RowIs ((w.alloc (.cells #[.slice A1 sa.length n1, .slice A2 se.length n2, .slice A3 sp.length n3] 30)).alloc (.cells #[.slice none 0 0, .slice none 0 0, .slice none 0 0, .slice none 0 0] 64)) w.heap.size 30 [.slice A1 sa.length n1, .slice A2 se.length n2, .slice A3 sp.length n3] [] := (rowNew w 30 [.slice A1 sa.length n1, .slice A2 se.length n2, .slice A3 sp.length n3]).alloc _
  have rR0 : RowIs ((w.alloc (.cells #[.slice A1 sa.length n1, .slice A2 se.length n2, .slice A3 sp.length n3] 30)).alloc (.cells #[.slice none 0 0, .slice none 0 0, .slice none 0 0, .slice none 0 0] 64)) (w.heap.size + 1) 64 [.slice none 0 0, .slice none 0 0, .slice none 0 0, .slice none 0 0] [] := by have h := rowNew (w.alloc (.cells #[.slice A1 sa.length n1, .slice A2 se.length n2, .slice A3 sp.length n3] 30)) 64 [.slice none 0 0, .slice none 0 0, .slice none 0 0, .slice none 0 0]; simp only [World.size_alloc] at h; exact h
  have hz0 : w.heap.size + 2 ≤ ((w.alloc (.cells #[.slice A1 sa.length n1, .slice A2 se.length n2, .slice A3 sp.length n3] 30)).alloc (.cells #[.slice none 0 0, .slice none 0 0, .slice none 0 0, .slice none 0 0] 64)).heap.size := by simp
  have HJ := Lib.hid (join_any (hb.ext (by decide) hx0) (Sl.nil (S := fun _ => True) (T := markT) none 0 (by decide)) (Nat.le_trans hbl (by decide)) (by decide))
  clear h h' sm hb
  go_enter Tryz.func18, Tryz.ntmps18
  go_wp2_with fail
  generalize ((w.alloc (.cells #[.slice A1 sa.length n1, .slice A2 se.length n2, .slice A3 sp.length n3] 30)).alloc (.cells #[.slice none 0 0, .slice none 0 0, .slice none 0 0, .slice none 0 0] 64)) = W0 at *
  refine HJ.out.mono ?_
  rintro r W1 ⟨v0, rfl, ho0, hx1⟩
  generalize hJB : joinM base [] = JB at *
  have HJB := Lib.hid hJB
  clear hJB HJ
  obtain ⟨B0, m0, rfl, -, -⟩ := ho0.form
  have hz1 := Nat.le_trans hz0 hx1.size
  have hx2 := (Ext.refl W1).alloc (.cells #[.slice B0 JB.length m0, .slice none 0 0, .slice none 0 0, .slice none 0 0] 64)
  have rG0 := rowNew W1 64 [.slice B0 JB.length m0, .slice none 0 0, .slice none 0 0, .slice none 0 0]
  have rB1 := (rB0.ext hx1).ext hx2
  have rR1 := (rR0.ext hx1).ext hx2
  have ho01 := (ho0.ext hx2).lower hz0
  have hxw1 := (hx0.trans hx1).trans hx2
  have b0 := rB1.cell (j := 0) rfl
  have HC := Lib.hid (clone_mark ((H.out.all.ext (by decide) hxw1)) (Nat.le_trans SM.out.all (by decide)))
  have hzz : (W1.alloc (.cells #[.slice B0 JB.length m0, .slice none 0 0, .slice none 0 0, .slice none 0 0] 64)).heap.size = W1.heap.size + 1 := by simp
  clear ho0 hx0 hx1 hx2 rB0 rR0 hz0
  go_wp2_with fail
  generalize W1.alloc (.cells #[.slice B0 JB.length m0, .slice none 0 0, .slice none 0 0, .slice none 0 0] 64) = W2 at *
  refine HC.out.mono ?_
  rintro r W3 ⟨vc1, rfl, hc1, hx3⟩
  have ho1 := (own_markT.1 hc1).lower (base' := w.heap.size + 2) (by omega)
  obtain ⟨B1, m1, rfl, -, -⟩ := ho1.form
  have hg : W1.heap.size < W3.heap.size := by have := hx3.size; omega
  have rG3 := rG0.ext hx3
  have g1f := rG3.frozen 1
  have g1c := rG3.cell (j := 1) rfl
  have rG4 := rG3.set (j := 1) (by simp) (.slice B1 sa.length m1)
  simp only [List.set_cons_succ, List.set_cons_zero] at rG4
  have hk4 : ∀ b, b ≠ W1.heap.size → (W3.setCell ⟨W1.heap.size, 1, none⟩ (.slice B1 sa.length m1)).heap[b]? = W3.heap[b]? := fun b hb => Below.heap_setCell _ _ _ _ hb
  have rB4 := (rB1.ext hx3).keep (hk4 _ (by omega))
  have rR4 := (rR1.ext hx3).keep (hk4 _ (by omega))
  have ho04 := (ho01.ext hx3).keep (w' := W3.setCell ⟨W1.heap.size, 1, none⟩ (.slice B1 sa.length m1)) fun b hb _ => hk4 b (fun e => by subst e; exact (ho01.ext hx3).apart rG3 (by decide) hb)
  have ho14 := ho1.keep (w' := W3.setCell ⟨W1.heap.size, 1, none⟩ (.slice B1 sa.length m1)) fun b hb _ => hk4 b (fun e => by subst e; exact ho1.apart rG3 (by decide) hb)
  have hxw4 := (hxw1.trans hx3).set (p := ⟨W1.heap.size, 1, none⟩) (by simp; omega) (.slice B1 sa.length m1)
  have hz4 : W1.heap.size < (W3.setCell ⟨W1.heap.size, 1, none⟩ (.slice B1 sa.length m1)).heap.size := by rw [World.size_setCell]; exact hg
  have b2 := rB4.cell (j := 2) rfl
  have HC2 := Lib.hid (clone_str ((H.out.pruned.ext (by decide) hxw4)) (Nat.le_trans SM.out.pruned (by decide)))
  clear hc1 ho1 rG3 rB1 rR1 rG0 ho01 hxw1 hx3 hk4 b0 HC hzz
  go_wp2_with fail
  generalize W3.setCell ⟨W1.heap.size, 1, none⟩ (.slice B1 sa.length m1) = W4 at *
  refine HC2.out.mono ?_
  rintro r W5 ⟨vc3, rfl, hc3, hx5⟩
  have ho3 := (OwnL.flat_iff.1 hc3).lower (base' := w.heap.size + 2) (by omega)
  obtain ⟨B3, m3, rfl, -, -⟩ := ho3.form
  have rG5 := rG4.ext hx5
  have g3f := rG5.frozen 3
  have g3c := rG5.cell (j := 3) rfl
  have rG6 := rG5.set (j := 3) (by simp) (.slice B3 sp.length m3)
  simp only [List.set_cons_succ, List.set_cons_zero] at rG6
  have hk6 : ∀ b, b ≠ W1.heap.size → (W5.setCell ⟨W1.heap.size, 3, none⟩ (.slice B3 sp.length m3)).heap[b]? = W5.heap[b]? := fun b hb => Below.heap_setCell _ _ _ _ hb
  have rB6 := (rB4.ext hx5).keep (hk6 _ (by omega))
  have rR6 := (rR4.ext hx5).keep (hk6 _ (by omega))
  have ho06 := (ho04.ext hx5).keep (w' := W5.setCell ⟨W1.heap.size, 3, none⟩ (.slice B3 sp.length m3)) fun b hb _ => hk6 b (fun e => by subst e; exact (ho04.ext hx5).apart rG5 (by decide) hb)
  have ho16 := (ho14.ext hx5).keep (w' := W5.setCell ⟨W1.heap.size, 3, none⟩ (.slice B3 sp.length m3)) fun b hb _ => hk6 b (fun e => by subst e; exact (ho14.ext hx5).apart rG5 (by decide) hb)
  have ho36 := ho3.keep (w' := W5.setCell ⟨W1.heap.size, 3, none⟩ (.slice B3 sp.length m3)) fun b hb _ => hk6 b (fun e => by subst e; exact ho3.apart rG5 (by decide) hb)
  have hxw6 := (hxw4.trans hx5).set (p := ⟨W1.heap.size, 3, none⟩) (by simp; omega) (.slice B3 sp.length m3)
  have b1 := rB6.cell (j := 1) rfl
  have HX6 := Lib.hid hxw6
  have HI6 := Lib.hid (show RowIs (W5.setCell ⟨W1.heap.size, 3, none⟩ (.slice B3 sp.length m3)) W1.heap.size 64 [.slice B0 JB.length m0, .slice B1 sa.length m1, (.slice none 0 0), .slice B3 sp.length m3] [] ∧ Own (W5.setCell ⟨W1.heap.size, 3, none⟩ (.slice B3 sp.length m3)) (w.heap.size + 2) 25 2 (.slice B0 JB.length m0) JB.length (JB.flatMap markC) ∧ Own (W5.setCell ⟨W1.heap.size, 3, none⟩ (.slice B3 sp.length m3)) (w.heap.size + 2) 25 2 (.slice B1 sa.length m1) sa.length (sa.flatMap markC) ∧ Own (W5.setCell ⟨W1.heap.size, 3, none⟩ (.slice B3 sp.length m3)) (w.heap.size + 2) 9 1 (.slice B3 sp.length m3) sp.length (sp.flatMap strC) ∧ RowE (W5.setCell ⟨W1.heap.size, 3, none⟩ (.slice B3 sp.length m3)) (w.heap.size + 2) W1.heap.size (.slice none 0 0) [] ∧ RowIs (W5.setCell ⟨W1.heap.size, 3, none⟩ (.slice B3 sp.length m3)) (w.heap.size + 1) 64 [.slice none 0 0, .slice none 0 0, .slice none 0 0, .slice none 0 0] [] from ⟨rG6, ho06, ho16, ho36, RowE.nil _ _ _ _, rR6⟩)
  generalize hgE : W1.heap.size = g at *
  clear hc3 ho3 rG4 rG5 rG6 rB4 rB6 rR4 rR6 ho04 ho06 ho14 ho16 ho36 hxw4 hxw6 hx5 hk6 b2 HC2 hgE
  go_wp2_with fail
  generalize W5.setCell ⟨g, 3, none⟩ (.slice B3 sp.length m3) = W6 at *
  go_loopw [24] (fun i wr => ∃ pre post vE, se = pre ++ post ∧ i = I pre.length ∧ Hid (RowIs wr g 64 [.slice B0 JB.length m0, .slice B1 sa.length m1, vE, .slice B3 sp.length m3] [] ∧ Own wr (w.heap.size + 2) 25 2 (.slice B0 JB.length m0) JB.length (JB.flatMap markC) ∧ Own wr (w.heap.size + 2) 25 2 (.slice B1 sa.length m1) sa.length (sa.flatMap markC) ∧ Own wr (w.heap.size + 2) 9 1 (.slice B3 sp.length m3) sp.length (sp.flatMap strC) ∧ RowE wr (w.heap.size + 2) g vE (pre.filter (lacks base)) ∧ RowIs wr (w.heap.size + 1) 64 [.slice none 0 0, .slice none 0 0, .slice none 0 0, .slice none 0 0] []) ∧ Ext w wr) (fun i _ => se.length - (intOf i).toNat)
  case atStart => exact ⟨[], se, .slice none 0 0, rfl, rfl, HI6, HX6.out⟩
  case round =>
    obtain ⟨pre, post, vE, hl, rfl, hI, hx⟩ := hrel
    cases post with
    | cons m post =>
      obtain ⟨b, o, a1, a2, a3, rfl, e0, e1, e2, e3, e4, e5, e6, hEA⟩ := HAT.out pre post m wr hx hl
      obtain ⟨C1, c1, rfl, -, -⟩ := hEA.seen.form
      obtain ⟨C2, c2, rfl, -, -⟩ := hEA.counts.form
      obtain ⟨C3, c3, rfl, -, -⟩ := hEA.items.form
      have hlt : pre.length < se.length := by rw [hl]; simp
      have HL := Lib.hid hl
      have hsm := SM.out.each m (by show m ∈ se; rw [hl]; simp)
      have hse : se.length ≤ 549755813888 := SM.out.entries
      have hpf := List.length_filter_le (lacks base) pre
      generalize hpl : pre.filter (lacks base) = pl at *
      have HPL := Lib.hid hpl
      have hxb := (Ext.refl wr).alloc (.cells #[St m.key, .slice C1 m.seen.length c1, .slice C2 m.counts.length c2, .slice C3 m.items.length c3, U m.cell.1, St m.cell.2.1, .bool m.cell.2.2] 37)
      have rb := rowNew wr 37 [St m.key, .slice C1 m.seen.length c1, .slice C2 m.counts.length c2, .slice C3 m.items.length c3, U m.cell.1, St m.cell.2.1, .bool m.cell.2.2]
      have hEAb := (hEA.ext hx).ext hxb
      have hxwb := hx.trans hxb
      have HB := Lib.hid (show RowIs (wr.alloc (.cells #[St m.key, .slice C1 m.seen.length c1, .slice C2 m.counts.length c2, .slice C3 m.items.length c3, U m.cell.1, St m.cell.2.1, .bool m.cell.2.2] 37)) g 64 [.slice B0 JB.length m0, .slice B1 sa.length m1, vE, .slice B3 sp.length m3] [] ∧ Own (wr.alloc (.cells #[St m.key, .slice C1 m.seen.length c1, .slice C2 m.counts.length c2, .slice C3 m.items.length c3, U m.cell.1, St m.cell.2.1, .bool m.cell.2.2] 37)) (w.heap.size + 2) 25 2 (.slice B0 JB.length m0) JB.length (JB.flatMap markC) ∧ Own (wr.alloc (.cells #[St m.key, .slice C1 m.seen.length c1, .slice C2 m.counts.length c2, .slice C3 m.items.length c3, U m.cell.1, St m.cell.2.1, .bool m.cell.2.2] 37)) (w.heap.size + 2) 25 2 (.slice B1 sa.length m1) sa.length (sa.flatMap markC) ∧ Own (wr.alloc (.cells #[St m.key, .slice C1 m.seen.length c1, .slice C2 m.counts.length c2, .slice C3 m.items.length c3, U m.cell.1, St m.cell.2.1, .bool m.cell.2.2] 37)) (w.heap.size + 2) 9 1 (.slice B3 sp.length m3) sp.length (sp.flatMap strC) ∧ RowE (wr.alloc (.cells #[St m.key, .slice C1 m.seen.length c1, .slice C2 m.counts.length c2, .slice C3 m.items.length c3, U m.cell.1, St m.cell.2.1, .bool m.cell.2.2] 37)) (w.heap.size + 2) g vE pl ∧ RowIs (wr.alloc (.cells #[St m.key, .slice C1 m.seen.length c1, .slice C2 m.counts.length c2, .slice C3 m.items.length c3, U m.cell.1, St m.cell.2.1, .bool m.cell.2.2] 37)) (w.heap.size + 1) 64 [.slice none 0 0, .slice none 0 0, .slice none 0 0, .slice none 0 0] [] from by obtain ⟨i1, i2, i3, i4, i5, i6⟩ := hI.out; exact ⟨i1.ext hxb, i2.ext hxb, i3.ext hxb, i4.ext hxb, i5.ext hxb, i6.ext hxb⟩)
      have q1 := rb.cell (j := 1) rfl
      have HCV := Lib.hid (covers_any ((HB0.out.ext (by decide) hx).ext (by decide) hxb) hEAb.seen (Nat.le_trans hbl (by decide)) (Nat.le_trans hsm.seen (by decide)))
      have HEAb := Lib.hid hEAb
      clear hl hpl hEA hEAb hI hx hxb
      go_wp2_with fail
      generalize wr.alloc (.cells #[St m.key, .slice C1 m.seen.length c1, .slice C2 m.counts.length c2, .slice C3 m.items.length c3, U m.cell.1, St m.cell.2.1, .bool m.cell.2.2] 37) = Wb at *
      refine HCV.out.mono ?_
      rintro r Wc ⟨rfl, hxc⟩
      have HC := Lib.hid (show RowIs Wc g 64 [.slice B0 JB.length m0, .slice B1 sa.length m1, vE, .slice B3 sp.length m3] [] ∧ Own Wc (w.heap.size + 2) 25 2 (.slice B0 JB.length m0) JB.length (JB.flatMap markC) ∧ Own Wc (w.heap.size + 2) 25 2 (.slice B1 sa.length m1) sa.length (sa.flatMap markC) ∧ Own Wc (w.heap.size + 2) 9 1 (.slice B3 sp.length m3) sp.length (sp.flatMap strC) ∧ RowE Wc (w.heap.size + 2) g vE pl ∧ RowIs Wc (w.heap.size + 1) 64 [.slice none 0 0, .slice none 0 0, .slice none 0 0, .slice none 0 0] [] from by obtain ⟨i1, i2, i3, i4, i5, i6⟩ := HB.out; exact ⟨i1.ext hxc, i2.ext hxc, i3.ext hxc, i4.ext hxc, i5.ext hxc, i6.ext hxc⟩)
      have hxwc := hxwb.trans hxc
      have rc := rb.ext hxc
      have HEAc := Lib.hid (HEAb.out.ext hxc)
      clear HB HCV HEAb hxwb rb hxc q1 e0 e1 e2 e3 e4 e5 e6
      cases hcv : coversM base m.seen with
      | true =>
        have HFL := Lib.hid (show (pre ++ [m]).filter (lacks base) = pl by rw [List.filter_append, HPL.out]; simp [lacks, hcv])
        have HX := Lib.hid hxwc
        clear hcv rc hxwc
        go_wp2_with fail
        go_roundw
        case rel => exact ⟨pre ++ [m], post, vE, by rw [HL.out]; simp, by simp, by rw [HFL.out]; exact HC, HX.out⟩
        case measure => simp [intOf]; omega
      | false =>
        have HFL := Lib.hid (show (pre ++ [m]).filter (lacks base) = pl ++ [m] by rw [List.filter_append, HPL.out]; simp [lacks, hcv])
        clear hcv
        obtain ⟨hgb, ho0b, ho1b, ho3b, hEb, hRb⟩ := HC.out
        obtain ⟨AE, cE, rfl, -, -⟩ := hEb.form
        go_wp2_with fail
        clear HC
        have hgl := hgb.lt
        have hEl : ∀ b, ownBlk (.slice AE pl.length cE) b → b < Wc.heap.size := fun b hb => (hEb.base_le hb).2
        obtain ⟨xE, hoE⟩ := hEb.own
        have hEg : ¬ ownBlk (.slice AE pl.length cE) g := hoE.apart hgb (by decide)
        have hEAb := HEAc.out
        refine wp_region_facts3 [.early (fun v _ => v = .pointer (some ⟨g, 1, none⟩)), .early (fun v _ => v = .pointer (some ⟨g, 2, none⟩)), .early (fun v _ => v = .slice AE pl.length cE), .early (fun v _ => v = entV m (.slice C1 m.seen.length c1) (.slice C2 m.counts.length c2) (.slice C3 m.items.length c3)),
          .early (fun v W => ∃ u1 u2 u3, v = entV m u1 u2 u3 ∧ EntNew W Wc.heap.size m u1 u2 u3),
          .early (fun v W => ∃ h u1 u2 u3, v = .slice (some ⟨h, 0, none⟩) 1 1 ∧ Wc.heap.size ≤ h ∧ RowIs W h 37 (entL m u1 u2 u3) [] ∧ EntNew W Wc.heap.size m u1 u2 u3),
          .move (fun v W => RowE W (w.heap.size + 2) g v (pl ++ [m])), .late (fun v _ => v = .pointer (some ⟨g, 1, none⟩)), .late (fun v _ => v = .pointer (some ⟨g, 2, none⟩))] 6 (fun W => Ext Wc W) (fun W => Moved (.slice AE pl.length cE) Wc W) Ext (MvR (.slice AE pl.length cE)) rfl (by kernel_rfl) (by kernel_rfl) ?hR ?hRq ?hJ ?hstep ?hend
        case hR =>
          simp only [List.mem_cons, List.not_mem_nil, or_false, forall_eq_or_imp, forall_eq, HF.fact]
          exact ⟨fun v _ _ h _ => h, fun v _ _ h _ => h, fun v _ _ h _ => h, fun v _ _ h _ => h, fun v _ _ h he => by obtain ⟨u1, u2, u3, e, a⟩ := h; exact ⟨u1, u2, u3, e, a.ext he⟩, fun v _ _ h he => by obtain ⟨k, u1, u2, u3, e, a, b, c⟩ := h; exact ⟨k, u1, u2, u3, e, a, b.ext he, c.ext he⟩, fun v _ _ h he => h.ext he, fun v _ _ h _ => h, fun v _ _ h _ => h⟩
        case hRq =>
          simp only [List.mem_cons, List.not_mem_nil, or_false, forall_eq_or_imp, forall_eq, HF.fact, HF.isStore]
          exact ⟨fun _ v _ _ h _ => h, fun _ v _ _ h _ => h, fun _ v _ _ h _ => h, fun _ v _ _ h _ => h, fun _ v _ _ h he => by obtain ⟨u1, u2, u3, e, a⟩ := h; exact ⟨u1, u2, u3, e, a.mvR he hEl⟩,
            fun _ v _ _ h he => by obtain ⟨k, u1, u2, u3, e, a, b, c⟩ := h; exact ⟨k, u1, u2, u3, e, a, b.mvR he (fun ho => by have := hEl k ho; omega), c.mvR he hEl⟩, fun h => (by cases h), fun _ v _ _ h _ => h, fun _ v _ _ h _ => h⟩
        case hJ => exact (Ext.refl Wc).drew
        case hstep =>
          simp only [List.length_cons, List.length_nil, Nat.reduceAdd, List.take_succ_cons, List.take_zero, stepsAll3, and_true]
          refine ⟨?_, ?_, ?_, ?_, ?_, ?_, ?_, ?_, ?_⟩
          · intro x W hj f
            have h : x 5 = .pointer (some ⟨g, 0, none⟩) := f.1
            go_wp
            exact stepQ2_ok rfl ⟨hj, Ext.refl _⟩
          · intro x W hj f
            have h : x 33 = .pointer (some ⟨g, 1, none⟩) := f.1
            go_wp
            exact stepQ2_ok rfl ⟨hj, Ext.refl _⟩
          · intro x W hj f
            have h : x 34 = .pointer (some ⟨g, 2, none⟩) := f.1
            have hc := (hgb.ext hj).cell (j := 2) rfl
            go_wp
            exact stepQ2_ok rfl ⟨hj, Ext.refl _⟩
          · intro x W hj f
            have h : x 7 = .pointer (some ⟨wr.heap.size, 0, none⟩) := f.1
            have q0 := (rc.ext hj).cell (j := 0) rfl
            have q1 := (rc.ext hj).cell (j := 1) rfl
            have q2 := (rc.ext hj).cell (j := 2) rfl
            have q3 := (rc.ext hj).cell (j := 3) rfl
            have q4 := (rc.ext hj).cell (j := 4) rfl
            have q5 := (rc.ext hj).cell (j := 5) rfl
            have q6 := (rc.ext hj).cell (j := 6) rfl
            go_wp
            exact stepQ2_ok rfl ⟨hj, Ext.refl _⟩
          · intro x W hj f
            have h : x 36 = entV m (.slice C1 m.seen.length c1) (.slice C2 m.counts.length c2) (.slice C3 m.items.length c3) := f.1
            have hs := hj.size
            have HC := Lib.hid (copyE_any (hEAb.ext hj) (Nat.le_trans hsm.seen (by decide)) (Nat.le_trans hsm.counts (by decide)) (Nat.le_trans hsm.items (by decide)) (fun it hit => Nat.le_trans (hsm.dots it hit) (by decide)))
            go_wp
            refine HC.out.mono ?_
            rintro r W2 ⟨u1, u2, u3, rfl, hn, hx2⟩
            dsimp only
            go_wp
            exact stepQ2_ok (v := entV m u1 u2 u3) ⟨u1, u2, u3, rfl, hn.lower hs⟩ ⟨hj.trans hx2, hx2⟩
          · intro x W hj f
            obtain ⟨u1, u2, u3, h, hn⟩ : ∃ u1 u2 u3, x 37 = entV m u1 u2 u3 ∧ EntNew W Wc.heap.size m u1 u2 u3 := f.1
            have hs := hj.size
            obtain ⟨D1, d1, rfl, -, -⟩ := hn.seen.form
            obtain ⟨D2, d2, rfl, -, -⟩ := hn.counts.form
            obtain ⟨D3, d3, rfl, -, -⟩ := hn.items.form
            have hrow := rowNew W 37 (entL m (.slice D1 m.seen.length d1) (.slice D2 m.counts.length d2) (.slice D3 m.items.length d3))
            have hxa := (Ext.refl W).alloc (.cells (entL m (.slice D1 m.seen.length d1) (.slice D2 m.counts.length d2) (.slice D3 m.items.length d3)).toArray 37)
            go_wp
            exact stepQ2_ok (v := .slice (some ⟨W.heap.size, 0, none⟩) 1 1) ⟨W.heap.size, _, _, _, rfl, hs, hrow, hn.ext hxa⟩ ⟨hj.trans hxa, hxa⟩
          · intro x W hj f
            have h21 : x 35 = .slice AE pl.length cE := f.1
            obtain ⟨k, u1, u2, u3, h24, hk, hrow, hn⟩ : ∃ h u1 u2 u3, x 38 = .slice (some ⟨h, 0, none⟩) 1 1 ∧ Wc.heap.size ≤ h ∧ RowIs W h 37 (entL m u1 u2 u3) [] ∧ EntNew W Wc.heap.size m u1 u2 u3 := f.2.1
            have hs := hj.size
            have hone := entL_one (hn.rd (S := fun _ => True) (fun _ _ _ => trivial))
            obtain ⟨vss, g1, g2, g3⟩ := hEb.ext hj
            refine wpList_append_Own rfl (.tmp 35) (.tmp 38) 27 rfl (w.heap.size + 2) 37 7 120 zeroEnt Tryz.underlying27 info_entry rfl (by omega) (.slice AE pl.length cE) pl.length vss.flatten (by simp [go_sem, h21]) g3 (some ⟨k, 0, none⟩) 1 1 (entL m u1 u2 u3) (by simp [go_sem, h24])
              ⟨by simp, hone, fun _ => ⟨k, 0, rfl, fun j u hj => by rw [Nat.zero_add]; exact hrow.cell hj⟩⟩ (by omega) (by omega) (by omega) ?_
            intro v' w' hown hgr
            exact stepQ2_ok (RowE.snoc g1 g2 hn hEl hgl (by omega) hown hgr) ⟨Grew.moved hj hgr, hgr.size, hgr.same⟩
          · intro x W b hj f
            have h : x 5 = .pointer (some ⟨g, 0, none⟩) := f.1
            go_wp
            exact stepQ2_ok rfl ⟨hj, Ext.refl _⟩
          · intro x W b hj f
            have h : x 40 = .pointer (some ⟨g, 1, none⟩) := f.1
            go_wp
            exact stepQ2_ok rfl ⟨hj, Ext.refl _⟩
        case hend =>
          intro x W hj f
          have h25 : RowE W (w.heap.size + 2) g (x 39) (pl ++ [m]) := f.2.2.2.2.2.2.1
          have h26 : x 41 = .pointer (some ⟨g, 2, none⟩) := f.2.2.2.2.2.2.2.2.1
          clear f
          obtain ⟨AF, cF, hF, -, -⟩ := h25.form
          rw [show (pl ++ [m]).length = pl.length + 1 by simp] at hF
          simp only [List.length_cons, List.length_nil, Nat.reduceAdd, List.take_succ_cons, List.take_zero, List.filterMap_cons, List.filterMap_nil, List.drop_succ_cons, List.drop_zero, putAll, Act.put, List.setIfInBounds_toArray, List.set_cons_succ, List.set_cons_zero, h26, hF]
          rw [hF] at h25
          have hgW := hgb.mvR hj.mv hEg
          have hRW := hRb.mvR hj.mv (hoE.apart hRb (by decide))
          have ho0W := ho0b.mvR hj.mv (ho0b.apart2 hoE (by decide))
          have ho1W := ho1b.mvR hj.mv (ho1b.apart2 hoE (by decide))
          have ho3W := ho3b.mvR hj.mv (ho3b.apart2 hoE (by decide))
          have hxW := hxwc.moved hj (fun b hb => by have := (hEb.base_le hb).1; omega)
          have hf := hgW.frozen 2
          have hc := hgW.cell (j := 2) rfl
          have hgS := hgW.set (j := 2) (by simp) (.slice AF (pl.length + 1) cF)
          simp only [List.set_cons_succ, List.set_cons_zero] at hgS
          have hkk : ∀ b, b ≠ g → (W.setCell ⟨g, 2, none⟩ (.slice AF (pl.length + 1) cF)).heap[b]? = W.heap[b]? := fun b hb => Below.heap_setCell _ _ _ _ hb
          have HI := Lib.hid (show RowIs (W.setCell ⟨g, 2, none⟩ (.slice AF (pl.length + 1) cF)) g 64 [.slice B0 JB.length m0, .slice B1 sa.length m1, (.slice AF (pl.length + 1) cF), .slice B3 sp.length m3] [] ∧ Own (W.setCell ⟨g, 2, none⟩ (.slice AF (pl.length + 1) cF)) (w.heap.size + 2) 25 2 (.slice B0 JB.length m0) JB.length (JB.flatMap markC) ∧ Own (W.setCell ⟨g, 2, none⟩ (.slice AF (pl.length + 1) cF)) (w.heap.size + 2) 25 2 (.slice B1 sa.length m1) sa.length (sa.flatMap markC) ∧ Own (W.setCell ⟨g, 2, none⟩ (.slice AF (pl.length + 1) cF)) (w.heap.size + 2) 9 1 (.slice B3 sp.length m3) sp.length (sp.flatMap strC) ∧ RowE (W.setCell ⟨g, 2, none⟩ (.slice AF (pl.length + 1) cF)) (w.heap.size + 2) g (.slice AF (pl.length + 1) cF) (pl ++ [m]) ∧ RowIs (W.setCell ⟨g, 2, none⟩ (.slice AF (pl.length + 1) cF)) (w.heap.size + 1) 64 [.slice none 0 0, .slice none 0 0, .slice none 0 0, .slice none 0 0] [] from
            ⟨hgS, ho0W.keep fun b hb _ => hkk b (fun e => by subst e; exact ho0W.apart hgW (by decide) hb), ho1W.keep fun b hb _ => hkk b (fun e => by subst e; exact ho1W.apart hgW (by decide) hb), ho3W.keep fun b hb _ => hkk b (fun e => by subst e; exact ho3W.apart hgW (by decide) hb),
              h25.set hgW (by decide), hRW.other (by simp; omega) _⟩)
          have HXW := Lib.hid (hxW.set (p := ⟨g, 2, none⟩) (by simp; omega) (.slice AF (pl.length + 1) cF))
          clear h25 hgS hgW hRW ho0W ho1W ho3W hxW hgb hRb ho0b ho1b ho3b hEb hoE hEAb rc
          go_wp
          exact ⟨⟨pre ++ [m], post, _, by rw [HL.out]; simp, by simp, by rw [HFL.out]; exact HI, HXW.out⟩, by simp [intOf]; omega⟩
    | nil =>
      rw [List.append_nil] at hl
      subst hl
      generalize hpl : se.filter (lacks base) = pl at *
      have HPL := Lib.hid hpl
      clear hpl
      obtain ⟨hg, ho0, ho1, ho3, hE, hR⟩ := hI.out
      obtain ⟨AE, cE, rfl, -, -⟩ := hE.form
      have k0 := hg.cell (j := 0) rfl
      have k1 := hg.cell (j := 1) rfl
      have k2 := hg.cell (j := 2) rfl
      have k3 := hg.cell (j := 3) rfl
      have r0 := hR.cell (j := 0) rfl
      have r1 := hR.cell (j := 1) rfl
      have r2 := hR.cell (j := 2) rfl
      have r3 := hR.cell (j := 3) rfl
      have f0 := hR.frozen 0
      have f1 := hR.frozen 1
      have f2 := hR.frozen 2
      have f3 := hR.frozen 3
      have HI := hI
      have HX := Lib.hid hx
      clear hI hg ho0 ho1 ho3 hE hR hx
      go_wp2_with fail
      (try simp only [Exit.inBlock, Exit.then])
      refine bodyPost_ret (v := dltV (.slice B0 JB.length m0) (.slice B1 sa.length m1) (.slice AE pl.length cE) (.slice B3 sp.length m3)) (by simp [results, Tryz.f18, go_sem, r0, r1, r2, r3]) rfl ?_
      obtain ⟨hg, ho0, ho1, ho3, hE, hR⟩ := HI.out
      have hk := put4_heap wr (w.heap.size + 1) (.slice B0 JB.length m0) (.slice B1 sa.length m1) (.slice AE pl.length cE) (.slice B3 sp.length m3)
      refine ⟨.slice B0 JB.length m0, .slice B1 sa.length m1, .slice AE pl.length cE, .slice B3 sp.length m3, rfl, ?_, ?_, ?_⟩
      · rw [HJB.out]
        exact (ho0.keep fun b hb _ => hk b (by have := (ho0.base_le hb).1; omega)).lower (by omega)
      · rw [HSI.out]
        refine ⟨?_, ?_, ?_⟩
        · exact (ho1.keep fun b hb _ => hk b (by have := (ho1.base_le hb).1; omega)).lower (by omega)
        · exact (OwnL.lower (OwnL.mono (OwnL.keep (w' := put4 wr (w.heap.size + 1) (.slice B0 JB.length m0) (.slice B1 sa.length m1) (.slice AE pl.length cE) (.slice B3 sp.length m3)) hE (fun b hb _ => hk b (by have := hb.1; omega)) (fun b hb _ => hk b (by have := (hE.base_le hb).1; omega))) (S' := fun b => w.heap.size ≤ b ∧ ¬ ownBlk (.slice AE pl.length cE) b) fun b _ hb => ⟨by have := hb.1; omega, hb.2.2⟩) (by omega))
        · exact (ho3.keep fun b hb _ => hk b (by have := (ho3.base_le hb).1; omega)).lower (by omega)
      · exact put4_ext HX.out (by omega) _ _ _ _
end Go.Proofs.YtdikcgmdmcfpfaaGreat
