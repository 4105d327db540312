/- Contracts of the functions that the statement goes through, with their plain words: Package entry: what updates' maps tell, and what the closure of an update does. Package entry: Update. Printed by gen_update.py. -/
import Derived.Test.YtdikcgmdmcfpfaaGreatSf10
namespace Go.Proofs.YtdikcgmdmcfpfaaGreat
open Go.RowKit Go.Shelf

/-- an update: what it does, its key, number, text -/
abbrev OpD := Nat × Str × Int × Str
abbrev opV (o : OpD) : Value := .agg #[K8 o.1, St o.2.1, I o.2.2.1, St o.2.2.2]

def cloOf (B kk dO : Nat) : Option Value :=
  if kk = 1 then (if dO = 1 then some (clo 159 [B + 4, B + 1]) else if dO = 5 then some (clo 160 [B, B + 4]) else none)
  else if kk = 2 then (if dO = 2 then some (clo 161 [B, B + 1, B + 2, B + 3]) else if dO = 3 then some (clo 163 [B, B + 1]) else if dO = 5 then some (clo 165 [B]) else none)
  else if kk = 3 then (if dO = 4 then some (clo 166 [B + 5, B + 1]) else if dO = 5 then some (clo 167 [B + 5]) else none)
  else none

/-- what the update itself makes of the entry; the error's number -/
def doE (kk : Nat) (e : Entry) (o : OpD) (d : Dot) : Option (Entry × Nat) :=
  if kk = 1 then (if o.1 = 1 then some ({ e with counts := (addC e.counts d.1 o.2.2.1).1 }, (addC e.counts d.1 o.2.2.1).2) else if o.1 = 5 then some ({ e with counts := (delC e.counts d.1).1 }, (delC e.counts d.1).2) else none)
  else if kk = 2 then (if o.1 = 2 then some ({ e with items := (putB e.items o.2.2.2 d).1 }, (putB e.items o.2.2.2 d).2) else if o.1 = 3 then some ({ e with items := takeB e.items o.2.2.2 }, 0) else if o.1 = 5 then some ({ e with items := [] }, 0) else none)
  else if kk = 3 then (if o.1 = 4 then some ({ e with cell := (writeC e.cell o.2.2.2 false).1 }, (writeC e.cell o.2.2.2 false).2) else if o.1 = 5 then some ({ e with cell := (writeC e.cell [] true).1 }, (writeC e.cell [] true).2) else none)
  else none

theorem UpdAt.ext {w w' : World} {B E : Nat} {n : Int} {tx : Str} {d : Dot} {m : Nat} (h : UpdAt w B E n tx d m) (he : Ext w w') : UpdAt w' B E n tx d m := by
  obtain ⟨h1, h2, h3, h4, h5, h6, h7, h8, m1, m2, m3, h9, h10, h11, h12⟩ := h
  exact ⟨he.cell h1, he.cell h2, he.cell h3, he.cell h4, he.cell h5, h6.ext he, he.cell h7, he.cell h8, m1, m2, m3, h9.ext he, h10.ext he, h11.ext he, h12.ext he⟩

theorem zeroM8 (w : World) : (zeroValue 158).run Tryz.prog w = .ok (M8 none) w := Tryz.zeroValue158 w
theorem zeroV8 (w : World) : (zeroValue 156).run Tryz.prog w = .ok (V8 .nilFunc) w := Tryz.zeroValue156 w
theorem look_nil (k : Nat) (w : World) : (Instr.lookup 158 (.map none) (K8 k) true).run Tryz.prog w = .ok (.tuple #[.nilFunc, .bool false]) w := by
  have hz := zeroV8 w
  have hc := keyOk8.check true k w
  have hf := MapIs.find (V := V8) keyOk8 (es := #[]) (L := []) rfl k w
  simp at hf
  simp [Instr.lookup, run_underlying Tryz.underlying158, hz, hc, hf]

/-- the closure of a kind and an update, out of the map of the kind -/
def InnerIs (W : World) (B kk : Nat) (v : Value) : Prop := ∀ W3, Ext W W3 → ∀ dO, (Instr.lookup 158 v (K8 dO) true).run Tryz.prog W3 = .ok (.tuple #[(cloOf B kk dO).getD .nilFunc, .bool (cloOf B kk dO).isSome]) W3
theorem InnerIs.ext {W W' : World} {B kk : Nat} {v : Value} (h : InnerIs W B kk v) (he : Ext W W') : InnerIs W' B kk v := fun W3 h3 => h W3 (he.trans h3)

theorem inner_of {W : World} {B kk b : Nat} {L : List (Nat × Value)} (h : MapIs K8 V8 W b L) (hc : ∀ dO, cloOf B kk dO = lookL L dO) : InnerIs W B kk (.map (some b)) := fun W3 h3 dO => by
  have := (run_lookup_MapIs (P := Tryz.prog) (z := Value.nilFunc) Tryz.underlying158 keyOk8 zeroV8 (h.ext h3) dO).2
  rw [lookL_mem, show getL Value.nilFunc L dO = (lookL L dO).getD .nilFunc from rfl, ← hc] at this
  exact this

theorem upd_look {w : World} {B E : Nat} {n : Int} {tx : Str} {d : Dot} {m : Nat} (h : UpdAt w B E n tx d m) (kk : Nat) :
    ∃ u, (∀ W3, Ext w W3 → (Instr.lookup 159 (.map (some m)) (K8 kk) false).run Tryz.prog W3 = .ok u W3) ∧ InnerIs w B kk u := by
  obtain ⟨m1, m2, m3, h9, h10, h11, h12⟩ := h.maps
  refine ⟨M8 (getL none [(1, some m1), (2, some m2), (3, some m3)] kk), fun W3 h3 => (run_lookup_MapIs (P := Tryz.prog) (z := none) Tryz.underlying159 keyOk8 zeroM8 (h9.ext h3) kk).1, ?_⟩
  rw [show getL none [(1, some m1), (2, some m2), (3, some m3)] kk = (lookL [(1, some m1), (2, some m2), (3, some m3)] kk).getD none from rfl]
  simp only [lookL_cons]
  by_cases k1 : kk = 1
  · subst k1
    simp only [if_true, Option.getD_some]
    exact inner_of h10 fun dO => by simp only [lookL_cons, cloOf, if_true]; rfl
  · by_cases k2 : kk = 2
    · subst k2
      simp only [if_true, if_neg k1, Option.getD_some]
      exact inner_of h11 fun dO => by simp only [lookL_cons, cloOf, if_true, if_neg k1]; rfl
    · by_cases k3 : kk = 3
      · subst k3
        simp only [if_true, if_neg k1, if_neg k2, Option.getD_some]
        exact inner_of h12 fun dO => by simp only [lookL_cons, cloOf, if_true, if_neg k1, if_neg k2]; rfl
      · simp only [if_neg k1, if_neg k2, if_neg k3]
        intro W3 h3 dO
        rw [show cloOf B kk dO = none by simp only [cloOf, if_neg k1, if_neg k2, if_neg k3]]
        exact look_nil dO W3

/-- the closure that is called: what comes of it -/
theorem do_any {S : Nat → Prop} {W : World} {B E m : Nat} {kk : Nat} {o : OpD} {d : Dot} {e : Entry} {v1 v2 v3 : Value} (hU : UpdAt W B E o.2.2.1 o.2.2.2 d m) (hn1 : -9223372036854775808 ≤ o.2.2.1) (hn2 : o.2.2.1 ≤ 9223372036854775807)
    (hl1 : e.counts.length < 1099511627776) (hl2 : (placesL e.items).length < 1099511627776) (hE : RowIs W E 37 (entL e v1 v2 v3) []) (hA : EntAt W S e v1 v2 v3) (hS : ∀ b, S b → b ≠ E ∧ b ≠ B + 3) (hpr : B + 3 ≠ E) :
    match cloOf B kk o.1, doE kk e o d with
    | none, none => True
    | some c, some (e', err) => ∃ f args, c = .func (.func f) #[] args ∧ (∀ xs w, (callFunc f xs).run Tryz.prog w = .ok (.enter f xs) w) ∧ Calls Tryz.prog f args W fun r w' => r = .returned (I err) ∧ Did W w' E (B + 3) S e' v1
    | _, _ => False := by
  obtain ⟨pe, po2, po3, d0, d1, err, c1, c2, -⟩ := hU
  unfold cloOf doE
  by_cases k1 : kk = 1
  · simp only [k1, if_true]
    by_cases q1 : o.1 = 1
    · simp only [q1, if_true]
      exact ⟨_, _, rfl, enters_of Tryz.func159 (by kernel_rfl) rfl, upd3_any o.2.2.1 hn1 hn2 c1 po2 d0 hl1 pe err hE hA hS hpr⟩
    · simp only [if_neg q1]
      by_cases q5 : o.1 = 5
      · simp only [q5, if_true]
        exact ⟨_, _, rfl, enters_of Tryz.func160 (by kernel_rfl) rfl, upd4_any c1 d0 hl1 pe err hE hA hS hpr⟩
      · simp only [if_neg q5]
  · by_cases k2 : kk = 2
    · simp only [k2, if_true, if_neg (by decide : ¬ (2 : Nat) = 1)]
      by_cases q2 : o.1 = 2
      · simp only [q2, if_true]
        exact ⟨_, _, rfl, enters_of Tryz.func161 (by kernel_rfl) rfl, upd5_any po3 d0 d1 hl2 pe err hE hA hS hpr⟩
      · simp only [if_neg q2]
        by_cases q3 : o.1 = 3
        · simp only [q3, if_true]
          exact ⟨_, _, rfl, enters_of Tryz.func163 (by kernel_rfl) rfl, upd6_any po3 (by omega) pe hE hA hS⟩
        · simp only [if_neg q3]
          by_cases q5 : o.1 = 5
          · simp only [q5, if_true]
            exact ⟨_, _, rfl, enters_of Tryz.func165 (by kernel_rfl) rfl, upd7_any pe hE hA hS⟩
          · simp only [if_neg q5]
    · by_cases k3 : kk = 3
      · simp only [k3, if_true, if_neg (by decide : ¬ (3 : Nat) = 1), if_neg (by decide : ¬ (3 : Nat) = 2)]
        by_cases q4 : o.1 = 4
        · simp only [q4, if_true]
          exact ⟨_, _, rfl, enters_of Tryz.func166 (by kernel_rfl) rfl, upd8_any c2 po3 pe err hE hA hS hpr⟩
        · simp only [if_neg q4]
          by_cases q5 : o.1 = 5
          · simp only [q5, if_true]
            exact ⟨_, _, rfl, enters_of Tryz.func167 (by kernel_rfl) rfl, upd9_any c2 pe err hE hA hS hpr⟩
          · simp only [if_neg q5]
      · simp only [if_neg k1, if_neg k2, if_neg k3]
end Go.Proofs.YtdikcgmdmcfpfaaGreat
namespace Go.Proofs.YtdikcgmdmcfpfaaGreat
open Go.RowKit Go.Shelf

/-- an update that may be done -/
def restE (e : Entry) (o : OpD) (d : Dot) : Entry × Nat :=
  match doE (kindS o.2.1) e o d with
  | none => (noneE, 150)
  | some p => if p.2 = 0 then ({ p.1 with seen := setM p.1.seen d.1 d.2 }, 0) else (noneE, p.2)
/-- an entry behind an update, which is the event d; the error's number -/
def updE (e : Entry) (o : OpD) (d : Dot) : Entry × Nat :=
  if keyS o.2.1 = false then (noneE, 10) else if e.key ≠ o.2.1 ∧ sameE e noneE = false then (noneE, 2) else if d.1 = [] ∨ d.2 < 1 ∨ 281474976710656 < d.2 ∨ hasM e.seen d = true then (noneE, 2) else restE { e with key := o.2.1 } o d

theorem put7_heap (w : World) (q : Nat) (e : Entry) (v1 v2 v3 : Value) (b : Nat) (hb : b ≠ q) : (put7 w q e v1 v2 v3).heap[b]? = w.heap[b]? :=
  ((((((Below.heap_setCell _ _ _ b hb).trans (Below.heap_setCell _ _ _ b hb)).trans (Below.heap_setCell _ _ _ b hb)).trans (Below.heap_setCell _ _ _ b hb)).trans (Below.heap_setCell _ _ _ b hb)).trans (Below.heap_setCell _ _ _ b hb)).trans (Below.heap_setCell _ _ _ b hb)
theorem cloOf_some (B kk : Nat) (e : Entry) (o : OpD) (d : Dot) : (cloOf B kk o.1).isSome = (doE kk e o d).isSome := by
  unfold cloOf doE
  repeat' split
  all_goals first | rfl | (exfalso; omega)
theorem EntAt.keep {W w : World} {S : Nat → Prop} {e : Entry} {v1 v2 v3 : Value} (h : EntAt W S e v1 v2 v3) (hs : ∀ b, S b → b < W.heap.size → w.heap[b]? = W.heap[b]?) : EntAt w S e v1 v2 v3 :=
  ⟨h.seen.keep (by decide) hs, h.counts.keep (by decide) hs, h.items.keep (by decide) hs⟩
theorem some_inj2 {e' : Entry} {c : Nat} {e : Entry} {p : Entry × Nat} (h1 : e'.seen = e.seen) (h2 : e'.key = e.key) (h : some (e', c) = some p) : p.1.seen = e.seen ∧ p.1.key = e.key := by
  have := Option.some.inj h
  rw [← this]
  exact ⟨h1, h2⟩
theorem doE_seen {kk : Nat} {e : Entry} {o : OpD} {d : Dot} {p : Entry × Nat} (h : doE kk e o d = some p) : p.1.seen = e.seen ∧ p.1.key = e.key := by
  unfold doE at h
  repeat' split at h
  all_goals first | (refine some_inj2 (e := e) ?_ ?_ h <;> rfl) | cases h


set_option maxRecDepth 100000 in
set_option maxHeartbeats 1000000 in
theorem upd_badkey {S : Nat → Prop} {ek : Str} {es : List Mark} {ec : List Count} {ei : List Item} {x1 : Nat} {x2 : Str} {x3 : Bool} {A1 A2 A3 : Option Addr} {n1 n2 n3 : Nat} {w : World} (dO : Nat) (k : Str) (n : Int) (tx : Str) (d1 : Str) (dn : Nat) (h : EntAt w S ⟨ek, es, ec, ei, (x1, x2, x3)⟩ (.slice A1 es.length n1) (.slice A2 ec.length n2) (.slice A3 ei.length n3)) (hk : keyS k = false) :
    Calls Tryz.prog 42 #[.agg #[St ek, .slice A1 es.length n1, .slice A2 ec.length n2, .slice A3 ei.length n3, U x1, St x2, .bool x3], .agg #[K8 dO, St k, I n, St tx], .agg #[St d1, U dn]] w fun r w' => r = .returned (.tuple #[entV noneE (.slice none 0 0) (.slice none 0 0) (.slice none 0 0), I 10]) ∧ Ext w w' := by
  obtain ⟨W0, hW0⟩ : ∃ W0, W0 = (((w.alloc (.cells #[St ek, .slice A1 es.length n1, .slice A2 ec.length n2, .slice A3 ei.length n3, U x1, St x2, .bool x3] 37)).alloc (.cells #[K8 dO, St k, I n, St tx] 42)).alloc (.cells #[St d1, U dn] 97)).alloc (.cells #[St [], .slice none 0 0, .slice none 0 0, .slice none 0 0, .int .u64 0, St [], .bool false] 37) := ⟨_, rfl⟩
  have hx0 : Ext w W0 := by rw [hW0]; exact ((((Ext.refl w).alloc _).alloc _).alloc _).alloc _
  have hz0 : W0.heap.size = w.heap.size + 1 + 1 + 1 + 1 := by rw [hW0]; simp
  have rE0 : RowIs W0 w.heap.size 37 [St ek, .slice A1 es.length n1, .slice A2 ec.length n2, .slice A3 ei.length n3, U x1, St x2, .bool x3] [] := by rw [hW0]; exact (((rowNew w _ _).alloc _).alloc _).alloc _
  have rO0 : RowIs W0 (w.heap.size + 1) 42 [K8 dO, St k, I n, St tx] [] := by rw [hW0]; have h := rowNew (w.alloc (.cells #[St ek, .slice A1 es.length n1, .slice A2 ec.length n2, .slice A3 ei.length n3, U x1, St x2, .bool x3] 37)) 42 [K8 dO, St k, I n, St tx]; simp only [World.size_alloc] at h; exact (h.alloc _).alloc _
  have rD0 : RowIs W0 (w.heap.size + 1 + 1) 97 [St d1, U dn] [] := by rw [hW0]; have h := rowNew ((w.alloc (.cells #[St ek, .slice A1 es.length n1, .slice A2 ec.length n2, .slice A3 ei.length n3, U x1, St x2, .bool x3] 37)).alloc (.cells #[K8 dO, St k, I n, St tx] 42)) 97 [St d1, U dn]; simp only [World.size_alloc] at h; exact h.alloc _
  have rR0 : RowIs W0 (w.heap.size + 1 + 1 + 1) 37 [St [], .slice none 0 0, .slice none 0 0, .slice none 0 0, .int .u64 0, St [], .bool false] [] := by rw [hW0]; have h := rowNew (((w.alloc (.cells #[St ek, .slice A1 es.length n1, .slice A2 ec.length n2, .slice A3 ei.length n3, U x1, St x2, .bool x3] 37)).alloc (.cells #[K8 dO, St k, I n, St tx] 42)).alloc (.cells #[St d1, U dn] 97)) 37 [St [], .slice none 0 0, .slice none 0 0, .slice none 0 0, .int .u64 0, St [], .bool false]; simp only [World.size_alloc] at h; exact h
  have H1 := Lib.hid (key_any k W0)
  have HE := Lib.hid h
  rw [hW0] at H1
  clear h
  go_enter Tryz.func42, Tryz.ntmps42
  go_wp2_with fail
  refine H1.out.mono ?_
  rintro r V ⟨rfl, hx1⟩
  obtain ⟨hx1, hzz, rE, rO, rD, rR⟩ : Ext w V ∧ w.heap.size + 4 ≤ V.heap.size ∧ RowIs V w.heap.size 37 [St ek, .slice A1 es.length n1, .slice A2 ec.length n2, .slice A3 ei.length n3, U x1, St x2, .bool x3] [] ∧ RowIs V (w.heap.size + 1) 42 [K8 dO, St k, I n, St tx] [] ∧ RowIs V (w.heap.size + 1 + 1) 97 [St d1, U dn] [] ∧ RowIs V (w.heap.size + 1 + 1 + 1) 37 [St [], .slice none 0 0, .slice none 0 0, .slice none 0 0, .int .u64 0, St [], .bool false] [] := by
    have H0 : Ext W0 V := by rw [hW0]; exact hx1
    exact ⟨hx0.trans H0, by have := H0.size; omega, rE0.ext H0, rO0.ext H0, rD0.ext H0, rR0.ext H0⟩
  clear hx0 hz0 rE0 rO0 rD0 rR0 H1 hW0
  rw [hk]
  have r0 := rR.cell (j := 0) rfl
  have r1 := rR.cell (j := 1) rfl
  have r2 := rR.cell (j := 2) rfl
  have r3 := rR.cell (j := 3) rfl
  have r4 := rR.cell (j := 4) rfl
  have r5 := rR.cell (j := 5) rfl
  have r6 := rR.cell (j := 6) rfl
  have f0 := rR.frozen 0
  have f1 := rR.frozen 1
  have f2 := rR.frozen 2
  have f3 := rR.frozen 3
  have f4 := rR.frozen 4
  have f5 := rR.frozen 5
  have f6 := rR.frozen 6
  have HX := Lib.hid hx1
  clear hx1 rR
  go_wp2_with fail
  (try simp only [Exit.inBlock, Exit.then])
  refine bodyPost_ret (v := .tuple #[entV noneE (.slice none 0 0) (.slice none 0 0) (.slice none 0 0), I 10]) (by simp [results, Tryz.f42, go_sem, entV, entC, noneE, r0, r1, r2, r3, r4, r5, r6]) rfl ?_
  have hp := put7_ext (q := w.heap.size + 1 + 1 + 1) HX.out (by omega) noneE (.slice none 0 0) (.slice none 0 0) (.slice none 0 0)
  exact ⟨rfl, hp⟩

set_option maxRecDepth 100000 in
set_option maxHeartbeats 1000000 in
theorem upd_other {S : Nat → Prop} {ek : Str} {es : List Mark} {ec : List Count} {ei : List Item} {x1 : Nat} {x2 : Str} {x3 : Bool} {A1 A2 A3 : Option Addr} {n1 n2 n3 : Nat} {w : World} (dO : Nat) (k : Str) (n : Int) (tx : Str) (d1 : Str) (dn : Nat) (h : EntAt w S ⟨ek, es, ec, ei, (x1, x2, x3)⟩ (.slice A1 es.length n1) (.slice A2 ec.length n2) (.slice A3 ei.length n3)) (hk : keyS k = true) (hne : (ek == k) = false) (hs : sameE ⟨ek, es, ec, ei, (x1, x2, x3)⟩ noneE = false) :
    Calls Tryz.prog 42 #[.agg #[St ek, .slice A1 es.length n1, .slice A2 ec.length n2, .slice A3 ei.length n3, U x1, St x2, .bool x3], .agg #[K8 dO, St k, I n, St tx], .agg #[St d1, U dn]] w fun r w' => r = .returned (.tuple #[entV noneE (.slice none 0 0) (.slice none 0 0) (.slice none 0 0), I 2]) ∧ Ext w w' := by
  obtain ⟨W0, hW0⟩ : ∃ W0, W0 = (((w.alloc (.cells #[St ek, .slice A1 es.length n1, .slice A2 ec.length n2, .slice A3 ei.length n3, U x1, St x2, .bool x3] 37)).alloc (.cells #[K8 dO, St k, I n, St tx] 42)).alloc (.cells #[St d1, U dn] 97)).alloc (.cells #[St [], .slice none 0 0, .slice none 0 0, .slice none 0 0, .int .u64 0, St [], .bool false] 37) := ⟨_, rfl⟩
  have hx0 : Ext w W0 := by rw [hW0]; exact ((((Ext.refl w).alloc _).alloc _).alloc _).alloc _
  have hz0 : W0.heap.size = w.heap.size + 1 + 1 + 1 + 1 := by rw [hW0]; simp
  have rE0 : RowIs W0 w.heap.size 37 [St ek, .slice A1 es.length n1, .slice A2 ec.length n2, .slice A3 ei.length n3, U x1, St x2, .bool x3] [] := by rw [hW0]; exact (((rowNew w _ _).alloc _).alloc _).alloc _
  have rO0 : RowIs W0 (w.heap.size + 1) 42 [K8 dO, St k, I n, St tx] [] := by rw [hW0]; have h := rowNew (w.alloc (.cells #[St ek, .slice A1 es.length n1, .slice A2 ec.length n2, .slice A3 ei.length n3, U x1, St x2, .bool x3] 37)) 42 [K8 dO, St k, I n, St tx]; simp only [World.size_alloc] at h; exact (h.alloc _).alloc _
  have rD0 : RowIs W0 (w.heap.size + 1 + 1) 97 [St d1, U dn] [] := by rw [hW0]; have h := rowNew ((w.alloc (.cells #[St ek, .slice A1 es.length n1, .slice A2 ec.length n2, .slice A3 ei.length n3, U x1, St x2, .bool x3] 37)).alloc (.cells #[K8 dO, St k, I n, St tx] 42)) 97 [St d1, U dn]; simp only [World.size_alloc] at h; exact h.alloc _
  have rR0 : RowIs W0 (w.heap.size + 1 + 1 + 1) 37 [St [], .slice none 0 0, .slice none 0 0, .slice none 0 0, .int .u64 0, St [], .bool false] [] := by rw [hW0]; have h := rowNew (((w.alloc (.cells #[St ek, .slice A1 es.length n1, .slice A2 ec.length n2, .slice A3 ei.length n3, U x1, St x2, .bool x3] 37)).alloc (.cells #[K8 dO, St k, I n, St tx] 42)).alloc (.cells #[St d1, U dn] 97)) 37 [St [], .slice none 0 0, .slice none 0 0, .slice none 0 0, .int .u64 0, St [], .bool false]; simp only [World.size_alloc] at h; exact h
  have H1 := Lib.hid (key_any k W0)
  have HE := Lib.hid h
  rw [hW0] at H1
  clear h
  go_enter Tryz.func42, Tryz.ntmps42
  go_wp2_with fail
  refine H1.out.mono ?_
  rintro r V ⟨rfl, hx1⟩
  obtain ⟨hx1, hzz, rE, rO, rD, rR⟩ : Ext w V ∧ w.heap.size + 4 ≤ V.heap.size ∧ RowIs V w.heap.size 37 [St ek, .slice A1 es.length n1, .slice A2 ec.length n2, .slice A3 ei.length n3, U x1, St x2, .bool x3] [] ∧ RowIs V (w.heap.size + 1) 42 [K8 dO, St k, I n, St tx] [] ∧ RowIs V (w.heap.size + 1 + 1) 97 [St d1, U dn] [] ∧ RowIs V (w.heap.size + 1 + 1 + 1) 37 [St [], .slice none 0 0, .slice none 0 0, .slice none 0 0, .int .u64 0, St [], .bool false] [] := by
    have H0 : Ext W0 V := by rw [hW0]; exact hx1
    exact ⟨hx0.trans H0, by have := H0.size; omega, rE0.ext H0, rO0.ext H0, rD0.ext H0, rR0.ext H0⟩
  clear hx0 hz0 rE0 rO0 rD0 rR0 H1 hW0
  rw [hk]
  have HN := Lib.hid (noneE_any (HE.out.ext hx1))
  have e0 := rE.cell (j := 0) rfl
  have e1 := rE.cell (j := 1) rfl
  have e2 := rE.cell (j := 2) rfl
  have e3 := rE.cell (j := 3) rfl
  have e4 := rE.cell (j := 4) rfl
  have e5 := rE.cell (j := 5) rfl
  have e6 := rE.cell (j := 6) rfl
  have o0 := rO.cell (j := 0) rfl
  have o1 := rO.cell (j := 1) rfl
  have o2 := rO.cell (j := 2) rfl
  have o3 := rO.cell (j := 3) rfl
  go_wp2_with fail
  refine HN.out.mono ?_
  rintro r V2 ⟨rfl, hx2⟩
  rw [hs]
  obtain ⟨hx1, hzz, rE, rO, rD, rR⟩ : Ext w V2 ∧ w.heap.size + 4 ≤ V2.heap.size ∧ RowIs V2 w.heap.size 37 [St ek, .slice A1 es.length n1, .slice A2 ec.length n2, .slice A3 ei.length n3, U x1, St x2, .bool x3] [] ∧ RowIs V2 (w.heap.size + 1) 42 [K8 dO, St k, I n, St tx] [] ∧ RowIs V2 (w.heap.size + 1 + 1) 97 [St d1, U dn] [] ∧ RowIs V2 (w.heap.size + 1 + 1 + 1) 37 [St [], .slice none 0 0, .slice none 0 0, .slice none 0 0, .int .u64 0, St [], .bool false] [] := ⟨hx1.trans hx2, by have := hx2.size; omega, rE.ext hx2, rO.ext hx2, rD.ext hx2, rR.ext hx2⟩
  clear hx2 e0 e1 e2 e3 e4 e5 e6 o0 o1 o2 o3 HN
  have r0 := rR.cell (j := 0) rfl
  have r1 := rR.cell (j := 1) rfl
  have r2 := rR.cell (j := 2) rfl
  have r3 := rR.cell (j := 3) rfl
  have r4 := rR.cell (j := 4) rfl
  have r5 := rR.cell (j := 5) rfl
  have r6 := rR.cell (j := 6) rfl
  have f0 := rR.frozen 0
  have f1 := rR.frozen 1
  have f2 := rR.frozen 2
  have f3 := rR.frozen 3
  have f4 := rR.frozen 4
  have f5 := rR.frozen 5
  have f6 := rR.frozen 6
  have HX := Lib.hid hx1
  clear hx1 rR
  go_wp2_with fail
  (try simp only [Exit.inBlock, Exit.then])
  refine bodyPost_ret (v := .tuple #[entV noneE (.slice none 0 0) (.slice none 0 0) (.slice none 0 0), I 2]) (by simp [results, Tryz.f42, go_sem, entV, entC, noneE, r0, r1, r2, r3, r4, r5, r6]) rfl ?_
  have hp := put7_ext (q := w.heap.size + 1 + 1 + 1) HX.out (by omega) noneE (.slice none 0 0) (.slice none 0 0) (.slice none 0 0)
  exact ⟨rfl, hp⟩

set_option maxRecDepth 100000 in
set_option maxHeartbeats 1000000 in
theorem upd_badD1eq {S : Nat → Prop} {ek : Str} {es : List Mark} {ec : List Count} {ei : List Item} {x1 : Nat} {x2 : Str} {x3 : Bool} {A1 A2 A3 : Option Addr} {n1 n2 n3 : Nat} {w : World} (dO : Nat) (k : Str) (n : Int) (tx : Str) (d1 : Str) (dn : Nat) (h : EntAt w S ⟨ek, es, ec, ei, (x1, x2, x3)⟩ (.slice A1 es.length n1) (.slice A2 ec.length n2) (.slice A3 ei.length n3)) (hk : keyS k = true) (he : ek = k) (hd : d1 = []) :
    Calls Tryz.prog 42 #[.agg #[St ek, .slice A1 es.length n1, .slice A2 ec.length n2, .slice A3 ei.length n3, U x1, St x2, .bool x3], .agg #[K8 dO, St k, I n, St tx], .agg #[St d1, U dn]] w fun r w' => r = .returned (.tuple #[entV noneE (.slice none 0 0) (.slice none 0 0) (.slice none 0 0), I 2]) ∧ Ext w w' := by
  subst he
  subst hd
  obtain ⟨W0, hW0⟩ : ∃ W0, W0 = (((w.alloc (.cells #[St ek, .slice A1 es.length n1, .slice A2 ec.length n2, .slice A3 ei.length n3, U x1, St x2, .bool x3] 37)).alloc (.cells #[K8 dO, St ek, I n, St tx] 42)).alloc (.cells #[St [], U dn] 97)).alloc (.cells #[St [], .slice none 0 0, .slice none 0 0, .slice none 0 0, .int .u64 0, St [], .bool false] 37) := ⟨_, rfl⟩
  have hx0 : Ext w W0 := by rw [hW0]; exact ((((Ext.refl w).alloc _).alloc _).alloc _).alloc _
  have hz0 : W0.heap.size = w.heap.size + 1 + 1 + 1 + 1 := by rw [hW0]; simp
  have rE0 : RowIs W0 w.heap.size 37 [St ek, .slice A1 es.length n1, .slice A2 ec.length n2, .slice A3 ei.length n3, U x1, St x2, .bool x3] [] := by rw [hW0]; exact (((rowNew w _ _).alloc _).alloc _).alloc _
  have rO0 : RowIs W0 (w.heap.size + 1) 42 [K8 dO, St ek, I n, St tx] [] := by rw [hW0]; have h := rowNew (w.alloc (.cells #[St ek, .slice A1 es.length n1, .slice A2 ec.length n2, .slice A3 ei.length n3, U x1, St x2, .bool x3] 37)) 42 [K8 dO, St ek, I n, St tx]; simp only [World.size_alloc] at h; exact (h.alloc _).alloc _
  have rD0 : RowIs W0 (w.heap.size + 1 + 1) 97 [St [], U dn] [] := by rw [hW0]; have h := rowNew ((w.alloc (.cells #[St ek, .slice A1 es.length n1, .slice A2 ec.length n2, .slice A3 ei.length n3, U x1, St x2, .bool x3] 37)).alloc (.cells #[K8 dO, St ek, I n, St tx] 42)) 97 [St [], U dn]; simp only [World.size_alloc] at h; exact h.alloc _
  have rR0 : RowIs W0 (w.heap.size + 1 + 1 + 1) 37 [St [], .slice none 0 0, .slice none 0 0, .slice none 0 0, .int .u64 0, St [], .bool false] [] := by rw [hW0]; have h := rowNew (((w.alloc (.cells #[St ek, .slice A1 es.length n1, .slice A2 ec.length n2, .slice A3 ei.length n3, U x1, St x2, .bool x3] 37)).alloc (.cells #[K8 dO, St ek, I n, St tx] 42)).alloc (.cells #[St [], U dn] 97)) 37 [St [], .slice none 0 0, .slice none 0 0, .slice none 0 0, .int .u64 0, St [], .bool false]; simp only [World.size_alloc] at h; exact h
  have H1 := Lib.hid (key_any ek W0)
  have HE := Lib.hid h
  rw [hW0] at H1
  clear h
  go_enter Tryz.func42, Tryz.ntmps42
  go_wp2_with fail
  refine H1.out.mono ?_
  rintro r V ⟨rfl, hx1⟩
  obtain ⟨hx1, hzz, rE, rO, rD, rR⟩ : Ext w V ∧ w.heap.size + 4 ≤ V.heap.size ∧ RowIs V w.heap.size 37 [St ek, .slice A1 es.length n1, .slice A2 ec.length n2, .slice A3 ei.length n3, U x1, St x2, .bool x3] [] ∧ RowIs V (w.heap.size + 1) 42 [K8 dO, St ek, I n, St tx] [] ∧ RowIs V (w.heap.size + 1 + 1) 97 [St [], U dn] [] ∧ RowIs V (w.heap.size + 1 + 1 + 1) 37 [St [], .slice none 0 0, .slice none 0 0, .slice none 0 0, .int .u64 0, St [], .bool false] [] := by
    have H0 : Ext W0 V := by rw [hW0]; exact hx1
    exact ⟨hx0.trans H0, by have := H0.size; omega, rE0.ext H0, rO0.ext H0, rD0.ext H0, rR0.ext H0⟩
  clear hx0 hz0 rE0 rO0 rD0 rR0 H1 hW0
  rw [hk]
  have e0 := rE.cell (j := 0) rfl
  have e1 := rE.cell (j := 1) rfl
  have e2 := rE.cell (j := 2) rfl
  have e3 := rE.cell (j := 3) rfl
  have e4 := rE.cell (j := 4) rfl
  have e5 := rE.cell (j := 5) rfl
  have e6 := rE.cell (j := 6) rfl
  have o0 := rO.cell (j := 0) rfl
  have o1 := rO.cell (j := 1) rfl
  have o2 := rO.cell (j := 2) rfl
  have o3 := rO.cell (j := 3) rfl
  have dc0 := rD.cell (j := 0) rfl
  have dc1 := rD.cell (j := 1) rfl
  have r0 := rR.cell (j := 0) rfl
  have r1 := rR.cell (j := 1) rfl
  have r2 := rR.cell (j := 2) rfl
  have r3 := rR.cell (j := 3) rfl
  have r4 := rR.cell (j := 4) rfl
  have r5 := rR.cell (j := 5) rfl
  have r6 := rR.cell (j := 6) rfl
  have f0 := rR.frozen 0
  have f1 := rR.frozen 1
  have f2 := rR.frozen 2
  have f3 := rR.frozen 3
  have f4 := rR.frozen 4
  have f5 := rR.frozen 5
  have f6 := rR.frozen 6
  have HX := Lib.hid hx1
  clear hx1 rR
  go_wp2_with fail
  (try simp only [Exit.inBlock, Exit.then])
  refine bodyPost_ret (v := .tuple #[entV noneE (.slice none 0 0) (.slice none 0 0) (.slice none 0 0), I 2]) (by simp [results, Tryz.f42, go_sem, entV, entC, noneE, r0, r1, r2, r3, r4, r5, r6]) rfl ?_
  have hp := put7_ext (q := w.heap.size + 1 + 1 + 1) HX.out (by omega) noneE (.slice none 0 0) (.slice none 0 0) (.slice none 0 0)
  exact ⟨rfl, hp⟩

set_option maxRecDepth 100000 in
set_option maxHeartbeats 1000000 in
theorem upd_badD1none {S : Nat → Prop} {ek : Str} {es : List Mark} {ec : List Count} {ei : List Item} {x1 : Nat} {x2 : Str} {x3 : Bool} {A1 A2 A3 : Option Addr} {n1 n2 n3 : Nat} {w : World} (dO : Nat) (k : Str) (n : Int) (tx : Str) (d1 : Str) (dn : Nat) (h : EntAt w S ⟨ek, es, ec, ei, (x1, x2, x3)⟩ (.slice A1 es.length n1) (.slice A2 ec.length n2) (.slice A3 ei.length n3)) (hk : keyS k = true) (hne : (ek == k) = false) (hs : sameE ⟨ek, es, ec, ei, (x1, x2, x3)⟩ noneE = true) (hd : d1 = []) :
    Calls Tryz.prog 42 #[.agg #[St ek, .slice A1 es.length n1, .slice A2 ec.length n2, .slice A3 ei.length n3, U x1, St x2, .bool x3], .agg #[K8 dO, St k, I n, St tx], .agg #[St d1, U dn]] w fun r w' => r = .returned (.tuple #[entV noneE (.slice none 0 0) (.slice none 0 0) (.slice none 0 0), I 2]) ∧ Ext w w' := by
  subst hd
  obtain ⟨W0, hW0⟩ : ∃ W0, W0 = (((w.alloc (.cells #[St ek, .slice A1 es.length n1, .slice A2 ec.length n2, .slice A3 ei.length n3, U x1, St x2, .bool x3] 37)).alloc (.cells #[K8 dO, St k, I n, St tx] 42)).alloc (.cells #[St [], U dn] 97)).alloc (.cells #[St [], .slice none 0 0, .slice none 0 0, .slice none 0 0, .int .u64 0, St [], .bool false] 37) := ⟨_, rfl⟩
  have hx0 : Ext w W0 := by rw [hW0]; exact ((((Ext.refl w).alloc _).alloc _).alloc _).alloc _
  have hz0 : W0.heap.size = w.heap.size + 1 + 1 + 1 + 1 := by rw [hW0]; simp
  have rE0 : RowIs W0 w.heap.size 37 [St ek, .slice A1 es.length n1, .slice A2 ec.length n2, .slice A3 ei.length n3, U x1, St x2, .bool x3] [] := by rw [hW0]; exact (((rowNew w _ _).alloc _).alloc _).alloc _
  have rO0 : RowIs W0 (w.heap.size + 1) 42 [K8 dO, St k, I n, St tx] [] := by rw [hW0]; have h := rowNew (w.alloc (.cells #[St ek, .slice A1 es.length n1, .slice A2 ec.length n2, .slice A3 ei.length n3, U x1, St x2, .bool x3] 37)) 42 [K8 dO, St k, I n, St tx]; simp only [World.size_alloc] at h; exact (h.alloc _).alloc _
  have rD0 : RowIs W0 (w.heap.size + 1 + 1) 97 [St [], U dn] [] := by rw [hW0]; have h := rowNew ((w.alloc (.cells #[St ek, .slice A1 es.length n1, .slice A2 ec.length n2, .slice A3 ei.length n3, U x1, St x2, .bool x3] 37)).alloc (.cells #[K8 dO, St k, I n, St tx] 42)) 97 [St [], U dn]; simp only [World.size_alloc] at h; exact h.alloc _
  have rR0 : RowIs W0 (w.heap.size + 1 + 1 + 1) 37 [St [], .slice none 0 0, .slice none 0 0, .slice none 0 0, .int .u64 0, St [], .bool false] [] := by rw [hW0]; have h := rowNew (((w.alloc (.cells #[St ek, .slice A1 es.length n1, .slice A2 ec.length n2, .slice A3 ei.length n3, U x1, St x2, .bool x3] 37)).alloc (.cells #[K8 dO, St k, I n, St tx] 42)).alloc (.cells #[St [], U dn] 97)) 37 [St [], .slice none 0 0, .slice none 0 0, .slice none 0 0, .int .u64 0, St [], .bool false]; simp only [World.size_alloc] at h; exact h
  have H1 := Lib.hid (key_any k W0)
  have HE := Lib.hid h
  rw [hW0] at H1
  clear h
  go_enter Tryz.func42, Tryz.ntmps42
  go_wp2_with fail
  refine H1.out.mono ?_
  rintro r V ⟨rfl, hx1⟩
  obtain ⟨hx1, hzz, rE, rO, rD, rR⟩ : Ext w V ∧ w.heap.size + 4 ≤ V.heap.size ∧ RowIs V w.heap.size 37 [St ek, .slice A1 es.length n1, .slice A2 ec.length n2, .slice A3 ei.length n3, U x1, St x2, .bool x3] [] ∧ RowIs V (w.heap.size + 1) 42 [K8 dO, St k, I n, St tx] [] ∧ RowIs V (w.heap.size + 1 + 1) 97 [St [], U dn] [] ∧ RowIs V (w.heap.size + 1 + 1 + 1) 37 [St [], .slice none 0 0, .slice none 0 0, .slice none 0 0, .int .u64 0, St [], .bool false] [] := by
    have H0 : Ext W0 V := by rw [hW0]; exact hx1
    exact ⟨hx0.trans H0, by have := H0.size; omega, rE0.ext H0, rO0.ext H0, rD0.ext H0, rR0.ext H0⟩
  clear hx0 hz0 rE0 rO0 rD0 rR0 H1 hW0
  rw [hk]
  have HN := Lib.hid (noneE_any (HE.out.ext hx1))
  have e0 := rE.cell (j := 0) rfl
  have e1 := rE.cell (j := 1) rfl
  have e2 := rE.cell (j := 2) rfl
  have e3 := rE.cell (j := 3) rfl
  have e4 := rE.cell (j := 4) rfl
  have e5 := rE.cell (j := 5) rfl
  have e6 := rE.cell (j := 6) rfl
  have o0 := rO.cell (j := 0) rfl
  have o1 := rO.cell (j := 1) rfl
  have o2 := rO.cell (j := 2) rfl
  have o3 := rO.cell (j := 3) rfl
  go_wp2_with fail
  refine HN.out.mono ?_
  rintro r V2 ⟨rfl, hx2⟩
  rw [hs]
  obtain ⟨hx1, hzz, rE, rO, rD, rR⟩ : Ext w V2 ∧ w.heap.size + 4 ≤ V2.heap.size ∧ RowIs V2 w.heap.size 37 [St ek, .slice A1 es.length n1, .slice A2 ec.length n2, .slice A3 ei.length n3, U x1, St x2, .bool x3] [] ∧ RowIs V2 (w.heap.size + 1) 42 [K8 dO, St k, I n, St tx] [] ∧ RowIs V2 (w.heap.size + 1 + 1) 97 [St [], U dn] [] ∧ RowIs V2 (w.heap.size + 1 + 1 + 1) 37 [St [], .slice none 0 0, .slice none 0 0, .slice none 0 0, .int .u64 0, St [], .bool false] [] := ⟨hx1.trans hx2, by have := hx2.size; omega, rE.ext hx2, rO.ext hx2, rD.ext hx2, rR.ext hx2⟩
  clear hx2 e0 e1 e2 e3 e4 e5 e6 o0 o1 o2 o3 HN
  have o0 := rO.cell (j := 0) rfl
  have o1 := rO.cell (j := 1) rfl
  have o2 := rO.cell (j := 2) rfl
  have o3 := rO.cell (j := 3) rfl
  have dc0 := rD.cell (j := 0) rfl
  have dc1 := rD.cell (j := 1) rfl
  have r0 := rR.cell (j := 0) rfl
  have r1 := rR.cell (j := 1) rfl
  have r2 := rR.cell (j := 2) rfl
  have r3 := rR.cell (j := 3) rfl
  have r4 := rR.cell (j := 4) rfl
  have r5 := rR.cell (j := 5) rfl
  have r6 := rR.cell (j := 6) rfl
  have f0 := rR.frozen 0
  have f1 := rR.frozen 1
  have f2 := rR.frozen 2
  have f3 := rR.frozen 3
  have f4 := rR.frozen 4
  have f5 := rR.frozen 5
  have f6 := rR.frozen 6
  have HX := Lib.hid hx1
  clear hx1 rR
  go_wp2_with fail
  (try simp only [Exit.inBlock, Exit.then])
  refine bodyPost_ret (v := .tuple #[entV noneE (.slice none 0 0) (.slice none 0 0) (.slice none 0 0), I 2]) (by simp [results, Tryz.f42, go_sem, entV, entC, noneE, r0, r1, r2, r3, r4, r5, r6]) rfl ?_
  have hp := put7_ext (q := w.heap.size + 1 + 1 + 1) HX.out (by omega) noneE (.slice none 0 0) (.slice none 0 0) (.slice none 0 0)
  exact ⟨rfl, hp⟩

set_option maxRecDepth 100000 in
set_option maxHeartbeats 1000000 in
theorem upd_badD2eq {S : Nat → Prop} {ek : Str} {es : List Mark} {ec : List Count} {ei : List Item} {x1 : Nat} {x2 : Str} {x3 : Bool} {A1 A2 A3 : Option Addr} {n1 n2 n3 : Nat} {w : World} (dO : Nat) (k : Str) (n : Int) (tx : Str) (d1 : Str) (dn : Nat) (h : EntAt w S ⟨ek, es, ec, ei, (x1, x2, x3)⟩ (.slice A1 es.length n1) (.slice A2 ec.length n2) (.slice A3 ei.length n3)) (hk : keyS k = true) (he : ek = k) (hd : (d1 == []) = false) (h2 : (dn : Int) < 1) :
    Calls Tryz.prog 42 #[.agg #[St ek, .slice A1 es.length n1, .slice A2 ec.length n2, .slice A3 ei.length n3, U x1, St x2, .bool x3], .agg #[K8 dO, St k, I n, St tx], .agg #[St d1, U dn]] w fun r w' => r = .returned (.tuple #[entV noneE (.slice none 0 0) (.slice none 0 0) (.slice none 0 0), I 2]) ∧ Ext w w' := by
  subst he
  obtain ⟨W0, hW0⟩ : ∃ W0, W0 = (((w.alloc (.cells #[St ek, .slice A1 es.length n1, .slice A2 ec.length n2, .slice A3 ei.length n3, U x1, St x2, .bool x3] 37)).alloc (.cells #[K8 dO, St ek, I n, St tx] 42)).alloc (.cells #[St d1, U dn] 97)).alloc (.cells #[St [], .slice none 0 0, .slice none 0 0, .slice none 0 0, .int .u64 0, St [], .bool false] 37) := ⟨_, rfl⟩
  have hx0 : Ext w W0 := by rw [hW0]; exact ((((Ext.refl w).alloc _).alloc _).alloc _).alloc _
  have hz0 : W0.heap.size = w.heap.size + 1 + 1 + 1 + 1 := by rw [hW0]; simp
  have rE0 : RowIs W0 w.heap.size 37 [St ek, .slice A1 es.length n1, .slice A2 ec.length n2, .slice A3 ei.length n3, U x1, St x2, .bool x3] [] := by rw [hW0]; exact (((rowNew w _ _).alloc _).alloc _).alloc _
  have rO0 : RowIs W0 (w.heap.size + 1) 42 [K8 dO, St ek, I n, St tx] [] := by rw [hW0]; have h := rowNew (w.alloc (.cells #[St ek, .slice A1 es.length n1, .slice A2 ec.length n2, .slice A3 ei.length n3, U x1, St x2, .bool x3] 37)) 42 [K8 dO, St ek, I n, St tx]; simp only [World.size_alloc] at h; exact (h.alloc _).alloc _
  have rD0 : RowIs W0 (w.heap.size + 1 + 1) 97 [St d1, U dn] [] := by rw [hW0]; have h := rowNew ((w.alloc (.cells #[St ek, .slice A1 es.length n1, .slice A2 ec.length n2, .slice A3 ei.length n3, U x1, St x2, .bool x3] 37)).alloc (.cells #[K8 dO, St ek, I n, St tx] 42)) 97 [St d1, U dn]; simp only [World.size_alloc] at h; exact h.alloc _
  have rR0 : RowIs W0 (w.heap.size + 1 + 1 + 1) 37 [St [], .slice none 0 0, .slice none 0 0, .slice none 0 0, .int .u64 0, St [], .bool false] [] := by rw [hW0]; have h := rowNew (((w.alloc (.cells #[St ek, .slice A1 es.length n1, .slice A2 ec.length n2, .slice A3 ei.length n3, U x1, St x2, .bool x3] 37)).alloc (.cells #[K8 dO, St ek, I n, St tx] 42)).alloc (.cells #[St d1, U dn] 97)) 37 [St [], .slice none 0 0, .slice none 0 0, .slice none 0 0, .int .u64 0, St [], .bool false]; simp only [World.size_alloc] at h; exact h
  have H1 := Lib.hid (key_any ek W0)
  have HE := Lib.hid h
  rw [hW0] at H1
  clear h
  go_enter Tryz.func42, Tryz.ntmps42
  go_wp2_with fail
  refine H1.out.mono ?_
  rintro r V ⟨rfl, hx1⟩
  obtain ⟨hx1, hzz, rE, rO, rD, rR⟩ : Ext w V ∧ w.heap.size + 4 ≤ V.heap.size ∧ RowIs V w.heap.size 37 [St ek, .slice A1 es.length n1, .slice A2 ec.length n2, .slice A3 ei.length n3, U x1, St x2, .bool x3] [] ∧ RowIs V (w.heap.size + 1) 42 [K8 dO, St ek, I n, St tx] [] ∧ RowIs V (w.heap.size + 1 + 1) 97 [St d1, U dn] [] ∧ RowIs V (w.heap.size + 1 + 1 + 1) 37 [St [], .slice none 0 0, .slice none 0 0, .slice none 0 0, .int .u64 0, St [], .bool false] [] := by
    have H0 : Ext W0 V := by rw [hW0]; exact hx1
    exact ⟨hx0.trans H0, by have := H0.size; omega, rE0.ext H0, rO0.ext H0, rD0.ext H0, rR0.ext H0⟩
  clear hx0 hz0 rE0 rO0 rD0 rR0 H1 hW0
  rw [hk]
  have e0 := rE.cell (j := 0) rfl
  have e1 := rE.cell (j := 1) rfl
  have e2 := rE.cell (j := 2) rfl
  have e3 := rE.cell (j := 3) rfl
  have e4 := rE.cell (j := 4) rfl
  have e5 := rE.cell (j := 5) rfl
  have e6 := rE.cell (j := 6) rfl
  have o0 := rO.cell (j := 0) rfl
  have o1 := rO.cell (j := 1) rfl
  have o2 := rO.cell (j := 2) rfl
  have o3 := rO.cell (j := 3) rfl
  have dc0 := rD.cell (j := 0) rfl
  have dc1 := rD.cell (j := 1) rfl
  have r0 := rR.cell (j := 0) rfl
  have r1 := rR.cell (j := 1) rfl
  have r2 := rR.cell (j := 2) rfl
  have r3 := rR.cell (j := 3) rfl
  have r4 := rR.cell (j := 4) rfl
  have r5 := rR.cell (j := 5) rfl
  have r6 := rR.cell (j := 6) rfl
  have f0 := rR.frozen 0
  have f1 := rR.frozen 1
  have f2 := rR.frozen 2
  have f3 := rR.frozen 3
  have f4 := rR.frozen 4
  have f5 := rR.frozen 5
  have f6 := rR.frozen 6
  have HX := Lib.hid hx1
  clear hx1 rR
  go_wp2_with fail
  (try simp only [Exit.inBlock, Exit.then])
  refine bodyPost_ret (v := .tuple #[entV noneE (.slice none 0 0) (.slice none 0 0) (.slice none 0 0), I 2]) (by simp [results, Tryz.f42, go_sem, entV, entC, noneE, r0, r1, r2, r3, r4, r5, r6]) rfl ?_
  have hp := put7_ext (q := w.heap.size + 1 + 1 + 1) HX.out (by omega) noneE (.slice none 0 0) (.slice none 0 0) (.slice none 0 0)
  exact ⟨rfl, hp⟩

set_option maxRecDepth 100000 in
set_option maxHeartbeats 1000000 in
theorem upd_badD2none {S : Nat → Prop} {ek : Str} {es : List Mark} {ec : List Count} {ei : List Item} {x1 : Nat} {x2 : Str} {x3 : Bool} {A1 A2 A3 : Option Addr} {n1 n2 n3 : Nat} {w : World} (dO : Nat) (k : Str) (n : Int) (tx : Str) (d1 : Str) (dn : Nat) (h : EntAt w S ⟨ek, es, ec, ei, (x1, x2, x3)⟩ (.slice A1 es.length n1) (.slice A2 ec.length n2) (.slice A3 ei.length n3)) (hk : keyS k = true) (hne : (ek == k) = false) (hs : sameE ⟨ek, es, ec, ei, (x1, x2, x3)⟩ noneE = true) (hd : (d1 == []) = false) (h2 : (dn : Int) < 1) :
    Calls Tryz.prog 42 #[.agg #[St ek, .slice A1 es.length n1, .slice A2 ec.length n2, .slice A3 ei.length n3, U x1, St x2, .bool x3], .agg #[K8 dO, St k, I n, St tx], .agg #[St d1, U dn]] w fun r w' => r = .returned (.tuple #[entV noneE (.slice none 0 0) (.slice none 0 0) (.slice none 0 0), I 2]) ∧ Ext w w' := by
  obtain ⟨W0, hW0⟩ : ∃ W0, W0 = (((w.alloc (.cells #[St ek, .slice A1 es.length n1, .slice A2 ec.length n2, .slice A3 ei.length n3, U x1, St x2, .bool x3] 37)).alloc (.cells #[K8 dO, St k, I n, St tx] 42)).alloc (.cells #[St d1, U dn] 97)).alloc (.cells #[St [], .slice none 0 0, .slice none 0 0, .slice none 0 0, .int .u64 0, St [], .bool false] 37) := ⟨_, rfl⟩
  have hx0 : Ext w W0 := by rw [hW0]; exact ((((Ext.refl w).alloc _).alloc _).alloc _).alloc _
  have hz0 : W0.heap.size = w.heap.size + 1 + 1 + 1 + 1 := by rw [hW0]; simp
  have rE0 : RowIs W0 w.heap.size 37 [St ek, .slice A1 es.length n1, .slice A2 ec.length n2, .slice A3 ei.length n3, U x1, St x2, .bool x3] [] := by rw [hW0]; exact (((rowNew w _ _).alloc _).alloc _).alloc _
  have rO0 : RowIs W0 (w.heap.size + 1) 42 [K8 dO, St k, I n, St tx] [] := by rw [hW0]; have h := rowNew (w.alloc (.cells #[St ek, .slice A1 es.length n1, .slice A2 ec.length n2, .slice A3 ei.length n3, U x1, St x2, .bool x3] 37)) 42 [K8 dO, St k, I n, St tx]; simp only [World.size_alloc] at h; exact (h.alloc _).alloc _
  have rD0 : RowIs W0 (w.heap.size + 1 + 1) 97 [St d1, U dn] [] := by rw [hW0]; have h := rowNew ((w.alloc (.cells #[St ek, .slice A1 es.length n1, .slice A2 ec.length n2, .slice A3 ei.length n3, U x1, St x2, .bool x3] 37)).alloc (.cells #[K8 dO, St k, I n, St tx] 42)) 97 [St d1, U dn]; simp only [World.size_alloc] at h; exact h.alloc _
  have rR0 : RowIs W0 (w.heap.size + 1 + 1 + 1) 37 [St [], .slice none 0 0, .slice none 0 0, .slice none 0 0, .int .u64 0, St [], .bool false] [] := by rw [hW0]; have h := rowNew (((w.alloc (.cells #[St ek, .slice A1 es.length n1, .slice A2 ec.length n2, .slice A3 ei.length n3, U x1, St x2, .bool x3] 37)).alloc (.cells #[K8 dO, St k, I n, St tx] 42)).alloc (.cells #[St d1, U dn] 97)) 37 [St [], .slice none 0 0, .slice none 0 0, .slice none 0 0, .int .u64 0, St [], .bool false]; simp only [World.size_alloc] at h; exact h
  have H1 := Lib.hid (key_any k W0)
  have HE := Lib.hid h
  rw [hW0] at H1
  clear h
  go_enter Tryz.func42, Tryz.ntmps42
  go_wp2_with fail
  refine H1.out.mono ?_
  rintro r V ⟨rfl, hx1⟩
  obtain ⟨hx1, hzz, rE, rO, rD, rR⟩ : Ext w V ∧ w.heap.size + 4 ≤ V.heap.size ∧ RowIs V w.heap.size 37 [St ek, .slice A1 es.length n1, .slice A2 ec.length n2, .slice A3 ei.length n3, U x1, St x2, .bool x3] [] ∧ RowIs V (w.heap.size + 1) 42 [K8 dO, St k, I n, St tx] [] ∧ RowIs V (w.heap.size + 1 + 1) 97 [St d1, U dn] [] ∧ RowIs V (w.heap.size + 1 + 1 + 1) 37 [St [], .slice none 0 0, .slice none 0 0, .slice none 0 0, .int .u64 0, St [], .bool false] [] := by
    have H0 : Ext W0 V := by rw [hW0]; exact hx1
    exact ⟨hx0.trans H0, by have := H0.size; omega, rE0.ext H0, rO0.ext H0, rD0.ext H0, rR0.ext H0⟩
  clear hx0 hz0 rE0 rO0 rD0 rR0 H1 hW0
  rw [hk]
  have HN := Lib.hid (noneE_any (HE.out.ext hx1))
  have e0 := rE.cell (j := 0) rfl
  have e1 := rE.cell (j := 1) rfl
  have e2 := rE.cell (j := 2) rfl
  have e3 := rE.cell (j := 3) rfl
  have e4 := rE.cell (j := 4) rfl
  have e5 := rE.cell (j := 5) rfl
  have e6 := rE.cell (j := 6) rfl
  have o0 := rO.cell (j := 0) rfl
  have o1 := rO.cell (j := 1) rfl
  have o2 := rO.cell (j := 2) rfl
  have o3 := rO.cell (j := 3) rfl
  go_wp2_with fail
  refine HN.out.mono ?_
  rintro r V2 ⟨rfl, hx2⟩
  rw [hs]
  obtain ⟨hx1, hzz, rE, rO, rD, rR⟩ : Ext w V2 ∧ w.heap.size + 4 ≤ V2.heap.size ∧ RowIs V2 w.heap.size 37 [St ek, .slice A1 es.length n1, .slice A2 ec.length n2, .slice A3 ei.length n3, U x1, St x2, .bool x3] [] ∧ RowIs V2 (w.heap.size + 1) 42 [K8 dO, St k, I n, St tx] [] ∧ RowIs V2 (w.heap.size + 1 + 1) 97 [St d1, U dn] [] ∧ RowIs V2 (w.heap.size + 1 + 1 + 1) 37 [St [], .slice none 0 0, .slice none 0 0, .slice none 0 0, .int .u64 0, St [], .bool false] [] := ⟨hx1.trans hx2, by have := hx2.size; omega, rE.ext hx2, rO.ext hx2, rD.ext hx2, rR.ext hx2⟩
  clear hx2 e0 e1 e2 e3 e4 e5 e6 o0 o1 o2 o3 HN
  have o0 := rO.cell (j := 0) rfl
  have o1 := rO.cell (j := 1) rfl
  have o2 := rO.cell (j := 2) rfl
  have o3 := rO.cell (j := 3) rfl
  have dc0 := rD.cell (j := 0) rfl
  have dc1 := rD.cell (j := 1) rfl
  have r0 := rR.cell (j := 0) rfl
  have r1 := rR.cell (j := 1) rfl
  have r2 := rR.cell (j := 2) rfl
  have r3 := rR.cell (j := 3) rfl
  have r4 := rR.cell (j := 4) rfl
  have r5 := rR.cell (j := 5) rfl
  have r6 := rR.cell (j := 6) rfl
  have f0 := rR.frozen 0
  have f1 := rR.frozen 1
  have f2 := rR.frozen 2
  have f3 := rR.frozen 3
  have f4 := rR.frozen 4
  have f5 := rR.frozen 5
  have f6 := rR.frozen 6
  have HX := Lib.hid hx1
  clear hx1 rR
  go_wp2_with fail
  (try simp only [Exit.inBlock, Exit.then])
  refine bodyPost_ret (v := .tuple #[entV noneE (.slice none 0 0) (.slice none 0 0) (.slice none 0 0), I 2]) (by simp [results, Tryz.f42, go_sem, entV, entC, noneE, r0, r1, r2, r3, r4, r5, r6]) rfl ?_
  have hp := put7_ext (q := w.heap.size + 1 + 1 + 1) HX.out (by omega) noneE (.slice none 0 0) (.slice none 0 0) (.slice none 0 0)
  exact ⟨rfl, hp⟩

set_option maxRecDepth 100000 in
set_option maxHeartbeats 1000000 in
theorem upd_badD3eq {S : Nat → Prop} {ek : Str} {es : List Mark} {ec : List Count} {ei : List Item} {x1 : Nat} {x2 : Str} {x3 : Bool} {A1 A2 A3 : Option Addr} {n1 n2 n3 : Nat} {w : World} (dO : Nat) (k : Str) (n : Int) (tx : Str) (d1 : Str) (dn : Nat) (h : EntAt w S ⟨ek, es, ec, ei, (x1, x2, x3)⟩ (.slice A1 es.length n1) (.slice A2 ec.length n2) (.slice A3 ei.length n3)) (hk : keyS k = true) (he : ek = k) (hd : (d1 == []) = false) (h2 : ¬ (dn : Int) < 1) (h3 : (dn : Int) > 281474976710656) :
    Calls Tryz.prog 42 #[.agg #[St ek, .slice A1 es.length n1, .slice A2 ec.length n2, .slice A3 ei.length n3, U x1, St x2, .bool x3], .agg #[K8 dO, St k, I n, St tx], .agg #[St d1, U dn]] w fun r w' => r = .returned (.tuple #[entV noneE (.slice none 0 0) (.slice none 0 0) (.slice none 0 0), I 2]) ∧ Ext w w' := by
  subst he
  obtain ⟨W0, hW0⟩ : ∃ W0, W0 = (((w.alloc (.cells #[St ek, .slice A1 es.length n1, .slice A2 ec.length n2, .slice A3 ei.length n3, U x1, St x2, .bool x3] 37)).alloc (.cells #[K8 dO, St ek, I n, St tx] 42)).alloc (.cells #[St d1, U dn] 97)).alloc (.cells #[St [], .slice none 0 0, .slice none 0 0, .slice none 0 0, .int .u64 0, St [], .bool false] 37) := ⟨_, rfl⟩
  have hx0 : Ext w W0 := by rw [hW0]; exact ((((Ext.refl w).alloc _).alloc _).alloc _).alloc _
  have hz0 : W0.heap.size = w.heap.size + 1 + 1 + 1 + 1 := by rw [hW0]; simp
  have rE0 : RowIs W0 w.heap.size 37 [St ek, .slice A1 es.length n1, .slice A2 ec.length n2, .slice A3 ei.length n3, U x1, St x2, .bool x3] [] := by rw [hW0]; exact (((rowNew w _ _).alloc _).alloc _).alloc _
  have rO0 : RowIs W0 (w.heap.size + 1) 42 [K8 dO, St ek, I n, St tx] [] := by rw [hW0]; have h := rowNew (w.alloc (.cells #[St ek, .slice A1 es.length n1, .slice A2 ec.length n2, .slice A3 ei.length n3, U x1, St x2, .bool x3] 37)) 42 [K8 dO, St ek, I n, St tx]; simp only [World.size_alloc] at h; exact (h.alloc _).alloc _
  have rD0 : RowIs W0 (w.heap.size + 1 + 1) 97 [St d1, U dn] [] := by rw [hW0]; have h := rowNew ((w.alloc (.cells #[St ek, .slice A1 es.length n1, .slice A2 ec.length n2, .slice A3 ei.length n3, U x1, St x2, .bool x3] 37)).alloc (.cells #[K8 dO, St ek, I n, St tx] 42)) 97 [St d1, U dn]; simp only [World.size_alloc] at h; exact h.alloc _
  have rR0 : RowIs W0 (w.heap.size + 1 + 1 + 1) 37 [St [], .slice none 0 0, .slice none 0 0, .slice none 0 0, .int .u64 0, St [], .bool false] [] := by rw [hW0]; have h := rowNew (((w.alloc (.cells #[St ek, .slice A1 es.length n1, .slice A2 ec.length n2, .slice A3 ei.length n3, U x1, St x2, .bool x3] 37)).alloc (.cells #[K8 dO, St ek, I n, St tx] 42)).alloc (.cells #[St d1, U dn] 97)) 37 [St [], .slice none 0 0, .slice none 0 0, .slice none 0 0, .int .u64 0, St [], .bool false]; simp only [World.size_alloc] at h; exact h
  have H1 := Lib.hid (key_any ek W0)
  have HE := Lib.hid h
  rw [hW0] at H1
  clear h
  go_enter Tryz.func42, Tryz.ntmps42
  go_wp2_with fail
  refine H1.out.mono ?_
  rintro r V ⟨rfl, hx1⟩
  obtain ⟨hx1, hzz, rE, rO, rD, rR⟩ : Ext w V ∧ w.heap.size + 4 ≤ V.heap.size ∧ RowIs V w.heap.size 37 [St ek, .slice A1 es.length n1, .slice A2 ec.length n2, .slice A3 ei.length n3, U x1, St x2, .bool x3] [] ∧ RowIs V (w.heap.size + 1) 42 [K8 dO, St ek, I n, St tx] [] ∧ RowIs V (w.heap.size + 1 + 1) 97 [St d1, U dn] [] ∧ RowIs V (w.heap.size + 1 + 1 + 1) 37 [St [], .slice none 0 0, .slice none 0 0, .slice none 0 0, .int .u64 0, St [], .bool false] [] := by
    have H0 : Ext W0 V := by rw [hW0]; exact hx1
    exact ⟨hx0.trans H0, by have := H0.size; omega, rE0.ext H0, rO0.ext H0, rD0.ext H0, rR0.ext H0⟩
  clear hx0 hz0 rE0 rO0 rD0 rR0 H1 hW0
  rw [hk]
  have e0 := rE.cell (j := 0) rfl
  have e1 := rE.cell (j := 1) rfl
  have e2 := rE.cell (j := 2) rfl
  have e3 := rE.cell (j := 3) rfl
  have e4 := rE.cell (j := 4) rfl
  have e5 := rE.cell (j := 5) rfl
  have e6 := rE.cell (j := 6) rfl
  have o0 := rO.cell (j := 0) rfl
  have o1 := rO.cell (j := 1) rfl
  have o2 := rO.cell (j := 2) rfl
  have o3 := rO.cell (j := 3) rfl
  have dc0 := rD.cell (j := 0) rfl
  have dc1 := rD.cell (j := 1) rfl
  have r0 := rR.cell (j := 0) rfl
  have r1 := rR.cell (j := 1) rfl
  have r2 := rR.cell (j := 2) rfl
  have r3 := rR.cell (j := 3) rfl
  have r4 := rR.cell (j := 4) rfl
  have r5 := rR.cell (j := 5) rfl
  have r6 := rR.cell (j := 6) rfl
  have f0 := rR.frozen 0
  have f1 := rR.frozen 1
  have f2 := rR.frozen 2
  have f3 := rR.frozen 3
  have f4 := rR.frozen 4
  have f5 := rR.frozen 5
  have f6 := rR.frozen 6
  have HX := Lib.hid hx1
  clear hx1 rR
  go_wp2_with fail
  (try simp only [Exit.inBlock, Exit.then])
  refine bodyPost_ret (v := .tuple #[entV noneE (.slice none 0 0) (.slice none 0 0) (.slice none 0 0), I 2]) (by simp [results, Tryz.f42, go_sem, entV, entC, noneE, r0, r1, r2, r3, r4, r5, r6]) rfl ?_
  have hp := put7_ext (q := w.heap.size + 1 + 1 + 1) HX.out (by omega) noneE (.slice none 0 0) (.slice none 0 0) (.slice none 0 0)
  exact ⟨rfl, hp⟩

set_option maxRecDepth 100000 in
set_option maxHeartbeats 1000000 in
theorem upd_badD3none {S : Nat → Prop} {ek : Str} {es : List Mark} {ec : List Count} {ei : List Item} {x1 : Nat} {x2 : Str} {x3 : Bool} {A1 A2 A3 : Option Addr} {n1 n2 n3 : Nat} {w : World} (dO : Nat) (k : Str) (n : Int) (tx : Str) (d1 : Str) (dn : Nat) (h : EntAt w S ⟨ek, es, ec, ei, (x1, x2, x3)⟩ (.slice A1 es.length n1) (.slice A2 ec.length n2) (.slice A3 ei.length n3)) (hk : keyS k = true) (hne : (ek == k) = false) (hs : sameE ⟨ek, es, ec, ei, (x1, x2, x3)⟩ noneE = true) (hd : (d1 == []) = false) (h2 : ¬ (dn : Int) < 1) (h3 : (dn : Int) > 281474976710656) :
    Calls Tryz.prog 42 #[.agg #[St ek, .slice A1 es.length n1, .slice A2 ec.length n2, .slice A3 ei.length n3, U x1, St x2, .bool x3], .agg #[K8 dO, St k, I n, St tx], .agg #[St d1, U dn]] w fun r w' => r = .returned (.tuple #[entV noneE (.slice none 0 0) (.slice none 0 0) (.slice none 0 0), I 2]) ∧ Ext w w' := by
  obtain ⟨W0, hW0⟩ : ∃ W0, W0 = (((w.alloc (.cells #[St ek, .slice A1 es.length n1, .slice A2 ec.length n2, .slice A3 ei.length n3, U x1, St x2, .bool x3] 37)).alloc (.cells #[K8 dO, St k, I n, St tx] 42)).alloc (.cells #[St d1, U dn] 97)).alloc (.cells #[St [], .slice none 0 0, .slice none 0 0, .slice none 0 0, .int .u64 0, St [], .bool false] 37) := ⟨_, rfl⟩
  have hx0 : Ext w W0 := by rw [hW0]; exact ((((Ext.refl w).alloc _).alloc _).alloc _).alloc _
  have hz0 : W0.heap.size = w.heap.size + 1 + 1 + 1 + 1 := by rw [hW0]; simp
  have rE0 : RowIs W0 w.heap.size 37 [St ek, .slice A1 es.length n1, .slice A2 ec.length n2, .slice A3 ei.length n3, U x1, St x2, .bool x3] [] := by rw [hW0]; exact (((rowNew w _ _).alloc _).alloc _).alloc _
  have rO0 : RowIs W0 (w.heap.size + 1) 42 [K8 dO, St k, I n, St tx] [] := by rw [hW0]; have h := rowNew (w.alloc (.cells #[St ek, .slice A1 es.length n1, .slice A2 ec.length n2, .slice A3 ei.length n3, U x1, St x2, .bool x3] 37)) 42 [K8 dO, St k, I n, St tx]; simp only [World.size_alloc] at h; exact (h.alloc _).alloc _
  have rD0 : RowIs W0 (w.heap.size + 1 + 1) 97 [St d1, U dn] [] := by rw [hW0]; have h := rowNew ((w.alloc (.cells #[St ek, .slice A1 es.length n1, .slice A2 ec.length n2, .slice A3 ei.length n3, U x1, St x2, .bool x3] 37)).alloc (.cells #[K8 dO, St k, I n, St tx] 42)) 97 [St d1, U dn]; simp only [World.size_alloc] at h; exact h.alloc _
  have rR0 : RowIs W0 (w.heap.size + 1 + 1 + 1) 37 [St [], .slice none 0 0, .slice none 0 0, .slice none 0 0, .int .u64 0, St [], .bool false] [] := by rw [hW0]; have h := rowNew (((w.alloc (.cells #[St ek, .slice A1 es.length n1, .slice A2 ec.length n2, .slice A3 ei.length n3, U x1, St x2, .bool x3] 37)).alloc (.cells #[K8 dO, St k, I n, St tx] 42)).alloc (.cells #[St d1, U dn] 97)) 37 [St [], .slice none 0 0, .slice none 0 0, .slice none 0 0, .int .u64 0, St [], .bool false]; simp only [World.size_alloc] at h; exact h
  have H1 := Lib.hid (key_any k W0)
  have HE := Lib.hid h
  rw [hW0] at H1
  clear h
  go_enter Tryz.func42, Tryz.ntmps42
  go_wp2_with fail
  refine H1.out.mono ?_
  rintro r V ⟨rfl, hx1⟩
  obtain ⟨hx1, hzz, rE, rO, rD, rR⟩ : Ext w V ∧ w.heap.size + 4 ≤ V.heap.size ∧ RowIs V w.heap.size 37 [St ek, .slice A1 es.length n1, .slice A2 ec.length n2, .slice A3 ei.length n3, U x1, St x2, .bool x3] [] ∧ RowIs V (w.heap.size + 1) 42 [K8 dO, St k, I n, St tx] [] ∧ RowIs V (w.heap.size + 1 + 1) 97 [St d1, U dn] [] ∧ RowIs V (w.heap.size + 1 + 1 + 1) 37 [St [], .slice none 0 0, .slice none 0 0, .slice none 0 0, .int .u64 0, St [], .bool false] [] := by
    have H0 : Ext W0 V := by rw [hW0]; exact hx1
    exact ⟨hx0.trans H0, by have := H0.size; omega, rE0.ext H0, rO0.ext H0, rD0.ext H0, rR0.ext H0⟩
  clear hx0 hz0 rE0 rO0 rD0 rR0 H1 hW0
  rw [hk]
  have HN := Lib.hid (noneE_any (HE.out.ext hx1))
  have e0 := rE.cell (j := 0) rfl
  have e1 := rE.cell (j := 1) rfl
  have e2 := rE.cell (j := 2) rfl
  have e3 := rE.cell (j := 3) rfl
  have e4 := rE.cell (j := 4) rfl
  have e5 := rE.cell (j := 5) rfl
  have e6 := rE.cell (j := 6) rfl
  have o0 := rO.cell (j := 0) rfl
  have o1 := rO.cell (j := 1) rfl
  have o2 := rO.cell (j := 2) rfl
  have o3 := rO.cell (j := 3) rfl
  go_wp2_with fail
  refine HN.out.mono ?_
  rintro r V2 ⟨rfl, hx2⟩
  rw [hs]
  obtain ⟨hx1, hzz, rE, rO, rD, rR⟩ : Ext w V2 ∧ w.heap.size + 4 ≤ V2.heap.size ∧ RowIs V2 w.heap.size 37 [St ek, .slice A1 es.length n1, .slice A2 ec.length n2, .slice A3 ei.length n3, U x1, St x2, .bool x3] [] ∧ RowIs V2 (w.heap.size + 1) 42 [K8 dO, St k, I n, St tx] [] ∧ RowIs V2 (w.heap.size + 1 + 1) 97 [St d1, U dn] [] ∧ RowIs V2 (w.heap.size + 1 + 1 + 1) 37 [St [], .slice none 0 0, .slice none 0 0, .slice none 0 0, .int .u64 0, St [], .bool false] [] := ⟨hx1.trans hx2, by have := hx2.size; omega, rE.ext hx2, rO.ext hx2, rD.ext hx2, rR.ext hx2⟩
  clear hx2 e0 e1 e2 e3 e4 e5 e6 o0 o1 o2 o3 HN
  have o0 := rO.cell (j := 0) rfl
  have o1 := rO.cell (j := 1) rfl
  have o2 := rO.cell (j := 2) rfl
  have o3 := rO.cell (j := 3) rfl
  have dc0 := rD.cell (j := 0) rfl
  have dc1 := rD.cell (j := 1) rfl
  have r0 := rR.cell (j := 0) rfl
  have r1 := rR.cell (j := 1) rfl
  have r2 := rR.cell (j := 2) rfl
  have r3 := rR.cell (j := 3) rfl
  have r4 := rR.cell (j := 4) rfl
  have r5 := rR.cell (j := 5) rfl
  have r6 := rR.cell (j := 6) rfl
  have f0 := rR.frozen 0
  have f1 := rR.frozen 1
  have f2 := rR.frozen 2
  have f3 := rR.frozen 3
  have f4 := rR.frozen 4
  have f5 := rR.frozen 5
  have f6 := rR.frozen 6
  have HX := Lib.hid hx1
  clear hx1 rR
  go_wp2_with fail
  (try simp only [Exit.inBlock, Exit.then])
  refine bodyPost_ret (v := .tuple #[entV noneE (.slice none 0 0) (.slice none 0 0) (.slice none 0 0), I 2]) (by simp [results, Tryz.f42, go_sem, entV, entC, noneE, r0, r1, r2, r3, r4, r5, r6]) rfl ?_
  have hp := put7_ext (q := w.heap.size + 1 + 1 + 1) HX.out (by omega) noneE (.slice none 0 0) (.slice none 0 0) (.slice none 0 0)
  exact ⟨rfl, hp⟩

end Go.Proofs.YtdikcgmdmcfpfaaGreat
