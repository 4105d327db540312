/- gossamerlaw16.StateCopies: the walk. Printed by gen_copies.py. -/
import Derived.Test.YtdikcgmdmcfpfaaGreatSc36
import Derived.Test.YtdikcgmdmcfpfaaGreatSc26
import Derived.Test.YtdikcgmdmcfpfaaGreatSc32
import Derived.Test.YtdikcgmdmcfpfaaGreatSc31
set_option linter.unusedVariables false
set_option linter.unusedSimpArgs false
set_option linter.unusedSectionVars false
namespace Go.Proofs.YtdikcgmdmcfpfaaGreat
open Go.RowKit Go.Shelf
structure Arg3 (W : World) (N q : Nat) (a b : State) (op : OpD) (a1 a2 a3 b1 b2 b3 : Value) : Prop where
 ra : RowIs W q 30 [a1, a2, a3] []
 rb : RowIs W (q + 1) 30 [b1, b2, b3] []
 ro : RowIs W (q + 1 + 1) 42 [K8 op.1, St op.2.1, I op.2.2.1, St op.2.2.2] []
 sa : StAt W (fun x => x < N) a a1 a2 a3
 sb : StAt W (fun x => x < N) b b1 b2 b3
theorem Arg3.ext {W W' : World} {N q : Nat} {a b : State} {op : OpD} {a1 a2 a3 b1 b2 b3 : Value} (h : Arg3 W N q a b op a1 a2 a3 b1 b2 b3) (he : Ext W W') : Arg3 W' N q a b op a1 a2 a3 b1 b2 b3 :=
 ⟨h.ra.ext he, h.rb.ext he, h.ro.ext he, h.sa.ext he, h.sb.ext he⟩
theorem Arg3.keep {W W' : World} {N q M : Nat} {a b : State} {op : OpD} {a1 a2 a3 b1 b2 b3 : Value} (h : Arg3 W N q a b op a1 a2 a3 b1 b2 b3) (hN : N ≤ M) (hq : q + 3 ≤ M) (hs : ∀ x, x < M → W'.heap[x]? = W.heap[x]?) : Arg3 W' N q a b op a1 a2 a3 b1 b2 b3 :=
 ⟨h.ra.keep (hs _ (by omega)), h.rb.keep (hs _ (by omega)), h.ro.keep (hs _ (by omega)), h.sa.keep fun x hx _ => hs x (by omega), h.sb.keep fun x hx _ => hs x (by omega)⟩
structure Cop3 (W : World) (lo g1 g2 g3 : Nat) (I J K : Nat × Nat) (a b : State) (u1 u2 u3 v1 v2 v3 c1 c2 c3 : Value) : Prop where
 r1 : RowIs W g1 30 [u1, u2, u3] []
 r2 : RowIs W g2 30 [v1, v2, v3] []
 r3 : RowIs W g3 30 [c1, c2, c3] []
 was : StAt W (fun x => I.1 ≤ x ∧ x < I.2) a u1 u2 u3
 also : StAt W (fun x => J.1 ≤ x ∧ x < J.2) b v1 v2 v3
 cop : CopyAt W K a c1 c2 c3
 lo : lo ≤ K.1
 k1 : ¬ (K.1 ≤ g1 ∧ g1 < K.2)
 k2 : ¬ (K.1 ≤ g2 ∧ g2 < K.2)
 k3 : ¬ (K.1 ≤ g3 ∧ g3 < K.2)
 far1 : farG I K
 far2 : farG J K
theorem Cop3.ext {W W' : World} {lo g1 g2 g3 : Nat} {I J K : Nat × Nat} {a b : State} {u1 u2 u3 v1 v2 v3 c1 c2 c3 : Value} (h : Cop3 W lo g1 g2 g3 I J K a b u1 u2 u3 v1 v2 v3 c1 c2 c3) (he : Ext W W') : Cop3 W' lo g1 g2 g3 I J K a b u1 u2 u3 v1 v2 v3 c1 c2 c3 :=
 ⟨h.r1.ext he, h.r2.ext he, h.r3.ext he, h.was.ext he, h.also.ext he, h.cop.ext he, h.lo, h.k1, h.k2, h.k3, h.far1, h.far2⟩
def GCopy (lo : Nat) (s : State) (v : Value) (p : Nat × Nat) (W : World) : Prop := lo ≤ p.1 ∧ ∃ A1 n1 A2 n2 A3 n3, v = stV (.slice A1 s.all.length n1) (.slice A2 s.entries.length n2) (.slice A3 s.pruned.length n3) ∧
 CopyAt W p s (.slice A1 s.all.length n1) (.slice A2 s.entries.length n2) (.slice A3 s.pruned.length n3) ∧ StAt W (fun x => p.1 ≤ x ∧ x < p.2) s (.slice A1 s.all.length n1) (.slice A2 s.entries.length n2) (.slice A3 s.pruned.length n3)
def GRow (lo : Nat) (v : Value) (p : Nat × Nat) (W : World) : Prop := lo ≤ p.1 ∧ ∃ g, v = .pointer (some ⟨g, 0, none⟩) ∧ (p.1 ≤ g ∧ g < p.2) ∧ RowIs W g 30 [.slice none 0 0, .slice none 0 0, .slice none 0 0] []
def G6 (lo : Nat) (a b : State) (d : Nat) (v : Value) (p : Nat × Nat) (W : World) : Prop :=
 if d = 50 then GCopy lo a v p W else if d = 52 then GCopy lo b v p W else if d = 54 then GCopy lo a v p W else GRow lo v p W
theorem g6_50 {lo : Nat} {a b : State} {v : Value} {q : Nat × Nat} {W : World} (h : G6 lo a b 50 v q W) : GCopy lo a v q W := by unfold G6 at h; rwa [if_pos rfl] at h
theorem g6_52 {lo : Nat} {a b : State} {v : Value} {q : Nat × Nat} {W : World} (h : G6 lo a b 52 v q W) : GCopy lo b v q W := by unfold G6 at h; rwa [if_neg (by decide), if_pos rfl] at h
theorem g6_54 {lo : Nat} {a b : State} {v : Value} {q : Nat × Nat} {W : World} (h : G6 lo a b 54 v q W) : GCopy lo a v q W := by unfold G6 at h; rwa [if_neg (by decide), if_neg (by decide), if_pos rfl] at h
theorem g6_row {lo d : Nat} {a b : State} {v : Value} {q : Nat × Nat} {W : World} (h1 : d ≠ 50) (h2 : d ≠ 52) (h3 : d ≠ 54) (h : G6 lo a b d v q W) : GRow lo v q W := by unfold G6 at h; rwa [if_neg h1, if_neg h2, if_neg h3] at h
theorem GCopy.ext {lo : Nat} {s : State} {v : Value} {p : Nat × Nat} {W W' : World} (h : GCopy lo s v p W) (he : Ext W W') : GCopy lo s v p W' := by
 obtain ⟨h0, A1, n1, A2, n2, A3, n3, e, h1, h2⟩ := h
 exact ⟨h0, A1, n1, A2, n2, A3, n3, e, h1.ext he, h2.ext he⟩
theorem GRow.ext {lo : Nat} {v : Value} {p : Nat × Nat} {W W' : World} (h : GRow lo v p W) (he : Ext W W') : GRow lo v p W' := by
 obtain ⟨h0, g, e, h1, h2⟩ := h
 exact ⟨h0, g, e, h1, h2.ext he⟩
theorem G6.ext {lo : Nat} {a b : State} {d : Nat} {v : Value} {p : Nat × Nat} {W W' : World} (h : G6 lo a b d v p W) (he : Ext W W') : G6 lo a b d v p W' := by
 unfold G6 at h ⊢
 split
 · rename_i h1; rw [if_pos h1] at h; exact h.ext he
 · rename_i h1
   rw [if_neg h1] at h
   split
   · rename_i h2; rw [if_pos h2] at h; exact h.ext he
   · rename_i h2
     rw [if_neg h2] at h
     split
     · rename_i h3; rw [if_pos h3] at h; exact h.ext he
     · rename_i h3; rw [if_neg h3] at h; exact h.ext he
theorem StNewF.gcopy {W : World} {lo l0 : Nat} {s : State} {u1 u2 u3 : Value} (h : StNewF W l0 s u1 u2 u3) (hl : lo ≤ l0) : GCopy lo s (stV u1 u2 u3) (l0, W.heap.size) W := by
 have hc := h.copyAt
 have hs := h.new.at.mono (S' := fun x => l0 ≤ x ∧ x < W.heap.size) (fun x hx h => ⟨h, hx⟩)
 obtain ⟨A1, n1, rfl, -, -⟩ := hs.all.form
 obtain ⟨A2, n2, rfl, -, -⟩ := hs.entries.form
 obtain ⟨A3, n3, rfl, -, -⟩ := hs.pruned.form
 exact ⟨hl, A1, n1, A2, n2, A3, n3, rfl, hc, hs⟩
theorem put3_row {w : World} {q T : Nat} {x y z v1 v2 v3 : Value} (h : RowIs w q T [x, y, z] []) : RowIs (put3 w q v1 v2 v3) q T [v1, v2, v3] [] := by
 have h1 := ((h.set (j := 0) (by simp) v1).set (j := 1) (by simp) v2).set (j := 2) (by simp) v3
 simpa using h1
theorem farG.symm {p q : Nat × Nat} (h : farG p q) : farG q p := h.elim .inr .inl
theorem farG.out {p q : Nat × Nat} (h : farG p q) {g : Nat} (hg : p.1 ≤ g ∧ g < p.2) : ¬ (q.1 ≤ g ∧ g < q.2) := by
 rcases h with h | h <;> omega
theorem farG.ne {p q : Nat × Nat} (h : farG p q) {g g' : Nat} (hg : p.1 ≤ g ∧ g < p.2) (hg' : q.1 ≤ g' ∧ g' < q.2) : g ≠ g' := by
 rcases h with h | h <;> omega
theorem small_since {s : State} (h : SmallS s) (base : List Mark) : SmallS (sinceS s base) :=
 ⟨h.all, Nat.le_trans (List.length_filter_le _ _) h.entries, h.pruned, fun e he => h.each e (List.mem_filter.1 he).1⟩
set_option maxRecDepth 100000 in
set_option maxHeartbeats 4000000 in
theorem copies_walk {S1 S2 : Nat → Prop} {a b : State} {a1 a2 a3 b1 b2 b3 : Value} {w : World} (p : Str) (op : OpD) (hn1 : -9223372036854775808 ≤ op.2.2.1) (hn2 : op.2.2.1 ≤ 9223372036854775807) (ha : StAt w S1 a a1 a2 a3) (hb : StAt w S2 b b1 b2 b3) (ra : ∀ e ∈ a.entries, RoomE e) (rb : ∀ e ∈ b.entries, RoomE e) :
   Calls Tryz.prog 8 #[stV a1 a2 a3, stV b1 b2 b3, St p, opV op] w fun r w' => r = .returned (.bool true) ∧ Ext w w' := by
 obtain ⟨sa, se, sp⟩ := a
 obtain ⟨ta, te, tp⟩ := b
 obtain ⟨dO, k, n, tx⟩ := op
 simp only at hn1 hn2
 obtain ⟨A1, n1, rfl, -, -⟩ := ha.all.form
 obtain ⟨A2, n2, rfl, -, -⟩ := ha.entries.form
 obtain ⟨A3, n3, rfl, -, -⟩ := ha.pruned.form
 obtain ⟨B1, m1, rfl, -, -⟩ := hb.all.form
 obtain ⟨B2, m2, rfl, -, -⟩ := hb.entries.form
 obtain ⟨B3, m3, rfl, -, -⟩ := hb.pruned.form
 have hx0 : Ext w (((w.alloc (.cells #[.slice A1 sa.length n1, .slice A2 se.length n2, .slice A3 sp.length n3] 30)).alloc (.cells #[.slice B1 ta.length m1, .slice B2 te.length m2, .slice B3 tp.length m3] 30)).alloc (.cells #[K8 dO, St k, I n, St tx] 42)) := (((Ext.refl w).alloc _).alloc _).alloc _
 have hA0 : Arg3 (((w.alloc (.cells #[.slice A1 sa.length n1, .slice A2 se.length n2, .slice A3 sp.length n3] 30)).alloc (.cells #[.slice B1 ta.length m1, .slice B2 te.length m2, .slice B3 tp.length m3] 30)).alloc (.cells #[K8 dO, St k, I n, St tx] 42)) w.heap.size w.heap.size ⟨sa, se, sp⟩ ⟨ta, te, tp⟩ (dO, k, n, tx) (.slice A1 sa.length n1) (.slice A2 se.length n2) (.slice A3 sp.length n3) (.slice B1 ta.length m1) (.slice B2 te.length m2) (.slice B3 tp.length m3) :=
   ⟨((rowNew w 30 [.slice A1 sa.length n1, .slice A2 se.length n2, .slice A3 sp.length n3]).alloc _).alloc _, by have h := rowNew (w.alloc (.cells #[.slice A1 sa.length n1, .slice A2 se.length n2, .slice A3 sp.length n3] 30)) 30 [.slice B1 ta.length m1, .slice B2 te.length m2, .slice B3 tp.length m3]; simp only [World.size_alloc] at h; exact h.alloc _,
     by have h := rowNew ((w.alloc (.cells #[.slice A1 sa.length n1, .slice A2 se.length n2, .slice A3 sp.length n3] 30)).alloc (.cells #[.slice B1 ta.length m1, .slice B2 te.length m2, .slice B3 tp.length m3] 30)) 42 [K8 dO, St k, I n, St tx]; simp only [World.size_alloc] at h; exact h,
     (ha.mono (S' := fun x => x < w.heap.size) (fun x hx _ => hx)).ext hx0, (hb.mono (S' := fun x => x < w.heap.size) (fun x hx _ => hx)).ext hx0⟩
 have hz0 : w.heap.size + 3 ≤ (((w.alloc (.cells #[.slice A1 sa.length n1, .slice A2 se.length n2, .slice A3 sp.length n3] 30)).alloc (.cells #[.slice B1 ta.length m1, .slice B2 te.length m2, .slice B3 tp.length m3] 30)).alloc (.cells #[K8 dO, St k, I n, St tx] 42)).heap.size := by simp
 have RA := Lib.hid ra
 have RB := Lib.hid rb
 clear ha hb ra rb
 have HL1 := Lib.hid (large16_any hA0.sa RA.out)
 have c0 := hA0.ra.cell (j := 0) rfl
 have c1 := hA0.ra.cell (j := 1) rfl
 have c2 := hA0.ra.cell (j := 2) rfl
 have HA := Lib.hid hA0
 have HX := Lib.hid hx0
 clear hx0 hA0
 go_enter Tryz.func8, Tryz.ntmps8
 go_wp2_with fail
 generalize (((w.alloc (.cells #[.slice A1 sa.length n1, .slice A2 se.length n2, .slice A3 sp.length n3] 30)).alloc (.cells #[.slice B1 ta.length m1, .slice B2 te.length m2, .slice B3 tp.length m3] 30)).alloc (.cells #[K8 dO, St k, I n, St tx] 42)) = W0 at *
 refine HL1.out.mono ?_
 rintro r W1 ⟨rfl, hx1⟩
 clear c0 c1 c2 HL1
 have HA := Lib.hid (HA.out.ext hx1)
 have HX := Lib.hid (HX.out.trans hx1)
 have hz0 := Nat.le_trans hz0 hx1.size
 clear hx1
 cases hl1 : largeS ⟨sa, se, sp⟩ with
 | true =>
   go_wp2_with fail
   refine (alive_any _).mono ?_
   rintro r Z ⟨rfl, hxz⟩
   go_wp2_with fail
   go_ret
   exact ⟨rfl, HX.out.trans hxz⟩
 | false =>
   have SMA := Lib.hid (smallS_of_large hl1)
   clear hl1
   have HL2 := Lib.hid (large16_any HA.out.sb RB.out)
   have d0 := HA.out.rb.cell (j := 0) rfl
   have d1 := HA.out.rb.cell (j := 1) rfl
   have d2 := HA.out.rb.cell (j := 2) rfl
   go_wp2_with fail
   refine HL2.out.mono ?_
   rintro r W2 ⟨rfl, hx1⟩
   clear HL2 d0 d1 d2
   have HA := Lib.hid (HA.out.ext hx1)
   have HX := Lib.hid (HX.out.trans hx1)
   have hz0 := Nat.le_trans hz0 hx1.size
   clear hx1
   cases hl2 : largeS ⟨ta, te, tp⟩ with
   | true =>
     go_wp2_with fail
     refine (alive_any _).mono ?_
     rintro r Z ⟨rfl, hxz⟩
     go_wp2_with fail
     go_ret
     exact ⟨rfl, HX.out.trans hxz⟩
   | false =>
     have SMB := Lib.hid (smallS_of_large hl2)
     clear hl2
     by_cases h256 : 256 < p.length
     · have q1 : decide ((256 : Int) < (p.length : Int)) = true := decide_eq_true (by omega)
       have q2 : (p.length : Int) > 256 := by omega
       clear h256
       go_wp2_with fail
       refine (alive_any _).mono ?_
       rintro r Z ⟨rfl, hxz⟩
       go_wp2_with fail
       go_ret
       exact ⟨rfl, HX.out.trans hxz⟩
     · have q1 : decide ((256 : Int) < (p.length : Int)) = false := decide_eq_false (by omega)
       have q2 : ¬ (p.length : Int) > 256 := by omega
       clear h256
       have o1 := HA.out.ro.cell (j := 1) rfl
       have o3 := HA.out.ro.cell (j := 3) rfl
       by_cases h1024 : 1024 < k.length
       · have q3 : decide ((1024 : Int) < (k.length : Int)) = true := decide_eq_true (by omega)
         have q4 : (k.length : Int) > 1024 := by omega
         clear h1024
         go_wp2_with fail
         refine (alive_any _).mono ?_
         rintro r Z ⟨rfl, hxz⟩
         go_wp2_with fail
         go_ret
         exact ⟨rfl, HX.out.trans hxz⟩
       · have q3 : decide ((1024 : Int) < (k.length : Int)) = false := decide_eq_false (by omega)
         have q4 : ¬ (k.length : Int) > 1024 := by omega
         clear h1024
         by_cases h4096 : 4096 < tx.length
         · have q5 : decide ((4096 : Int) < (tx.length : Int)) = true := decide_eq_true (by omega)
           have q6 : (tx.length : Int) > 4096 := by omega
           clear h4096
           go_wp2_with fail
           refine (alive_any _).mono ?_
           rintro r Z ⟨rfl, hxz⟩
           go_wp2_with fail
           go_ret
           exact ⟨rfl, HX.out.trans hxz⟩
         · have q5 : decide ((4096 : Int) < (tx.length : Int)) = false := decide_eq_false (by omega)
           have q6 : ¬ (tx.length : Int) > 4096 := by omega
           clear h4096
           have HM1 := Lib.hid (mayS_any HA.out.sa SMA.out)
           have c0 := HA.out.ra.cell (j := 0) rfl
           have c1 := HA.out.ra.cell (j := 1) rfl
           have c2 := HA.out.ra.cell (j := 2) rfl
           go_wp2_with fail
           refine HM1.out.mono ?_
           rintro r W3 ⟨rfl, hx1⟩
           clear HM1 c0 c1 c2 o1 o3 q1 q2 q3 q4 q5 q6
           have HA := Lib.hid (HA.out.ext hx1)
           have HX := Lib.hid (HX.out.trans hx1)
           have hz0 := Nat.le_trans hz0 hx1.size
           clear hx1
           cases hm1 : mayS ⟨sa, se, sp⟩ with
           | false =>
             go_wp2_with fail
             refine (alive_any _).mono ?_
             rintro r Z ⟨rfl, hxz⟩
             go_wp2_with fail
             go_ret
             exact ⟨rfl, HX.out.trans hxz⟩
           | true =>
             have MYA := Lib.hid hm1
             clear hm1
             have HM2 := Lib.hid (mayS_any HA.out.sb SMB.out)
             have d0 := HA.out.rb.cell (j := 0) rfl
             have d1 := HA.out.rb.cell (j := 1) rfl
             have d2 := HA.out.rb.cell (j := 2) rfl
             go_wp2_with fail
             refine HM2.out.mono ?_
             rintro r W4 ⟨rfl, hx1⟩
             clear HM2 d0 d1 d2
             have HA := Lib.hid (HA.out.ext hx1)
             have HX := Lib.hid (HX.out.trans hx1)
             have hz0 := Nat.le_trans hz0 hx1.size
             clear hx1
             cases hm2 : mayS ⟨ta, te, tp⟩ with
             | false =>
               go_wp2_with fail
               refine (alive_any _).mono ?_
               rintro r Z ⟨rfl, hxz⟩
               go_wp2_with fail
               go_ret
               exact ⟨rfl, HX.out.trans hxz⟩
             | true =>
               clear hm2
               go_wp2_with fail
               have hzl : w.heap.size + 3 ≤ W4.heap.size := hz0
               refine wp_region_factsG [fun v _ => v = stV (.slice A1 sa.length n1) (.slice A2 se.length n2) (.slice A3 sp.length n3), fun _ _ => True, fun v _ => v = stV (.slice B1 ta.length m1) (.slice B2 te.length m2) (.slice B3 tp.length m3), fun _ _ => True, fun v _ => v = stV (.slice A1 sa.length n1) (.slice A2 se.length n2) (.slice A3 sp.length n3), fun _ _ => True, fun _ _ => True, fun _ _ => True, fun _ _ => True] [50, 52, 54, 9, 10, 11] (RG := G6 W4.heap.size ⟨sa, se, sp⟩ ⟨ta, te, tp⟩) rfl (by kernel_rfl) (by kernel_rfl) ?hR ?hG ?hstep ?hend
               case hR =>
                 simp only [List.mem_cons, List.not_mem_nil, or_false, forall_eq_or_imp, forall_eq]
                 exact ⟨fun v _ _ h _ => h, fun _ _ _ _ _ => trivial, fun v _ _ h _ => h, fun _ _ _ _ _ => trivial, fun v _ _ h _ => h, fun _ _ _ _ _ => trivial, fun _ _ _ _ _ => trivial, fun _ _ _ _ _ => trivial, fun _ _ _ _ _ => trivial⟩
               case hG => exact fun d v p w w' _ h he => h.ext he
               case hstep =>
                 simp only [List.length_cons, List.length_nil, Nat.reduceAdd, List.take_succ_cons, List.take_zero, stepsAllG, and_true]
                 refine ⟨?_, ?_, ?_, ?_, ?_, ?_, ?_, ?_, ?_⟩
                 · intro x W he f
                   have h : x 4 = .pointer (some ⟨w.heap.size, 0, none⟩) := f.1
                   have c0 := (HA.out.ra.ext he).cell (j := 0) rfl
                   have c1 := (HA.out.ra.ext he).cell (j := 1) rfl
                   have c2 := (HA.out.ra.ext he).cell (j := 2) rfl
                   go_wp
                   exact stepQ_ok (r := ghostQ _ _ _ _ _) ⟨rfl, fun h => by simp at h⟩ (Ext.refl _)
                 · intro x W he f
                   have h : x 49 = stV (.slice A1 sa.length n1) (.slice A2 se.length n2) (.slice A3 sp.length n3) := f.1
                   have HC := Lib.hid (copySF_any (HA.out.sa.ext he) SMA.out)
                   have hs := he.size
                   go_wp
                   refine HC.out.mono ?_
                   rintro r V ⟨u1, u2, u3, rfl, hn, hx2⟩
                   have hg := hn.gcopy hs
                   dsimp only
                   obtain ⟨C1, q1, rfl, -, -⟩ := hn.all.form
                   obtain ⟨C2, q2, rfl, -, -⟩ := hn.entries.form
                   obtain ⟨C3, q3, rfl, -, -⟩ := hn.pruned.form
                   clear hn
                   have HG := Lib.hid hg
                   clear hg
                   go_wp
                   exact stepQ_ok (r := ghostQ _ _ _ _ _) ⟨trivial, fun _ => by simp only [G6]; exact HG.out⟩ hx2
                 · intro x W he f
                   have h : x 5 = .pointer (some ⟨w.heap.size + 1, 0, none⟩) := f.1
                   have d0 := (HA.out.rb.ext he).cell (j := 0) rfl
                   have d1 := (HA.out.rb.ext he).cell (j := 1) rfl
                   have d2 := (HA.out.rb.ext he).cell (j := 2) rfl
                   go_wp
                   exact stepQ_ok (r := ghostQ _ _ _ _ _) ⟨rfl, fun h => by simp at h⟩ (Ext.refl _)
                 · intro x W he f
                   have h : x 51 = stV (.slice B1 ta.length m1) (.slice B2 te.length m2) (.slice B3 tp.length m3) := f.1
                   have HC := Lib.hid (copySF_any (HA.out.sb.ext he) SMB.out)
                   have hs := he.size
                   go_wp
                   refine HC.out.mono ?_
                   rintro r V ⟨u1, u2, u3, rfl, hn, hx2⟩
                   have hg := hn.gcopy hs
                   dsimp only
                   obtain ⟨C1, q1, rfl, -, -⟩ := hn.all.form
                   obtain ⟨C2, q2, rfl, -, -⟩ := hn.entries.form
                   obtain ⟨C3, q3, rfl, -, -⟩ := hn.pruned.form
                   clear hn
                   have HG := Lib.hid hg
                   clear hg
                   go_wp
                   exact stepQ_ok (r := ghostQ _ _ _ _ _) ⟨trivial, fun _ => by simp only [G6]; exact HG.out⟩ hx2
                 · intro x W he f
                   have h : x 4 = .pointer (some ⟨w.heap.size, 0, none⟩) := f.1
                   have c0 := (HA.out.ra.ext he).cell (j := 0) rfl
                   have c1 := (HA.out.ra.ext he).cell (j := 1) rfl
                   have c2 := (HA.out.ra.ext he).cell (j := 2) rfl
                   go_wp
                   exact stepQ_ok (r := ghostQ _ _ _ _ _) ⟨rfl, fun h => by simp at h⟩ (Ext.refl _)
                 · intro x W he f
                   have h : x 53 = stV (.slice A1 sa.length n1) (.slice A2 se.length n2) (.slice A3 sp.length n3) := f.1
                   have HC := Lib.hid (copySF_any (HA.out.sa.ext he) SMA.out)
                   have hs := he.size
                   go_wp
                   refine HC.out.mono ?_
                   rintro r V ⟨u1, u2, u3, rfl, hn, hx2⟩
                   have hg := hn.gcopy hs
                   dsimp only
                   obtain ⟨C1, q1, rfl, -, -⟩ := hn.all.form
                   obtain ⟨C2, q2, rfl, -, -⟩ := hn.entries.form
                   obtain ⟨C3, q3, rfl, -, -⟩ := hn.pruned.form
                   clear hn
                   have HG := Lib.hid hg
                   clear hg
                   go_wp
                   exact stepQ_ok (r := ghostQ _ _ _ _ _) ⟨trivial, fun _ => by simp only [G6]; exact HG.out⟩ hx2
                 · intro x W he f
                   have hs := he.size
                   have hrow := rowNew W 30 [.slice none 0 0, .slice none 0 0, .slice none 0 0]
                   go_wp
                   exact stepQ_ok (r := ghostQ _ _ _ _ _) ⟨trivial, fun _ => by simp only [G6]; exact ⟨hs, W.heap.size, rfl, ⟨Nat.le_refl _, by simp⟩, hrow⟩⟩ ((Ext.refl W).alloc _)
                 · intro x W he f
                   have hs := he.size
                   have hrow := rowNew W 30 [.slice none 0 0, .slice none 0 0, .slice none 0 0]
                   go_wp
                   exact stepQ_ok (r := ghostQ _ _ _ _ _) ⟨trivial, fun _ => by simp only [G6]; exact ⟨hs, W.heap.size, rfl, ⟨Nat.le_refl _, by simp⟩, hrow⟩⟩ ((Ext.refl W).alloc _)
                 · intro x W he f
                   have hs := he.size
                   have hrow := rowNew W 30 [.slice none 0 0, .slice none 0 0, .slice none 0 0]
                   go_wp
                   exact stepQ_ok (r := ghostQ _ _ _ _ _) ⟨trivial, fun _ => by simp only [G6]; exact ⟨hs, W.heap.size, rfl, ⟨Nat.le_refl _, by simp⟩, hrow⟩⟩ ((Ext.refl W).alloc _)
               case hend =>
                 intro x W he gh hgh hfar f
                 clear f
                 have G50 : GCopy W4.heap.size ⟨sa, se, sp⟩ (x 50) (gh 50) W := g6_50 (hgh 50 (by simp)).1
                 obtain ⟨k50, U1, un1, U2, un2, U3, un3, h50, cc50, cs50⟩ := G50
                 simp only at h50 cc50 cs50
                 have G52 : GCopy W4.heap.size ⟨ta, te, tp⟩ (x 52) (gh 52) W := g6_52 (hgh 52 (by simp)).1
                 obtain ⟨k52, V1, vn1, V2, vn2, V3, vn3, h52, cc52, cs52⟩ := G52
                 simp only at h52 cc52 cs52
                 have G54 : GCopy W4.heap.size ⟨sa, se, sp⟩ (x 54) (gh 54) W := g6_54 (hgh 54 (by simp)).1
                 obtain ⟨k54, C1, cn1, C2, cn2, C3, cn3, h54, cc54, cs54⟩ := G54
                 simp only at h54 cc54 cs54
                 have G9 : GRow W4.heap.size (x 9) (gh 9) W := g6_row (by decide) (by decide) (by decide) (hgh 9 (by simp)).1
                 obtain ⟨k9, g9, h9, i9, r9⟩ := G9
                 have G10 : GRow W4.heap.size (x 10) (gh 10) W := g6_row (by decide) (by decide) (by decide) (hgh 10 (by simp)).1
                 obtain ⟨k10, g10, h10, i10, r10⟩ := G10
                 have G11 : GRow W4.heap.size (x 11) (gh 11) W := g6_row (by decide) (by decide) (by decide) (hgh 11 (by simp)).1
                 obtain ⟨k11, g11, h11, i11, r11⟩ := G11
                 have f5054 : farG (gh 50) (gh 54) := hfar.1 54 (by simp)
                 have f5254 : farG (gh 52) (gh 54) := hfar.2.1 54 (by simp)
                 have f50_9 : farG (gh 50) (gh 9) := hfar.1 9 (by simp)
                 have f50_10 : farG (gh 50) (gh 10) := hfar.1 10 (by simp)
                 have f50_11 : farG (gh 50) (gh 11) := hfar.1 11 (by simp)
                 have f52_9 : farG (gh 52) (gh 9) := hfar.2.1 9 (by simp)
                 have f52_10 : farG (gh 52) (gh 10) := hfar.2.1 10 (by simp)
                 have f52_11 : farG (gh 52) (gh 11) := hfar.2.1 11 (by simp)
                 have f54_9 : farG (gh 54) (gh 9) := hfar.2.2.1 9 (by simp)
                 have f54_10 : farG (gh 54) (gh 10) := hfar.2.2.1 10 (by simp)
                 have f54_11 : farG (gh 54) (gh 11) := hfar.2.2.1 11 (by simp)
                 have f9_10 : farG (gh 9) (gh 10) := hfar.2.2.2.1 10 (by simp)
                 have f9_11 : farG (gh 9) (gh 11) := hfar.2.2.2.1 11 (by simp)
                 have f10_11 : farG (gh 10) (gh 11) := hfar.2.2.2.2.1 11 (by simp)
                 have e1 : g9 ≠ g10 := f9_10.ne i9 i10
                 have e2 : g9 ≠ g11 := f9_11.ne i9 i11
                 have e3 : g10 ≠ g11 := f10_11.ne i10 i11
                 have q9_0 := r9.cell (j := 0) rfl
                 have z9_0 := r9.frozen 0
                 have q9_1 := r9.cell (j := 1) rfl
                 have z9_1 := r9.frozen 1
                 have q9_2 := r9.cell (j := 2) rfl
                 have z9_2 := r9.frozen 2
                 have q10_0 := r10.cell (j := 0) rfl
                 have z10_0 := r10.frozen 0
                 have q10_1 := r10.cell (j := 1) rfl
                 have z10_1 := r10.frozen 1
                 have q10_2 := r10.cell (j := 2) rfl
                 have z10_2 := r10.frozen 2
                 have q11_0 := r11.cell (j := 0) rfl
                 have z11_0 := r11.frozen 0
                 have q11_1 := r11.cell (j := 1) rfl
                 have z11_1 := r11.frozen 1
                 have q11_2 := r11.cell (j := 2) rfl
                 have z11_2 := r11.frozen 2
                 have hk : ∀ y, y ≠ g9 → y ≠ g10 → y ≠ g11 → ((((((((((((W).setCell ⟨g9, 0, none⟩ (.slice U1 sa.length un1)).setCell ⟨g9, 1, none⟩ (.slice U2 se.length un2)).setCell ⟨g9, 2, none⟩ (.slice U3 sp.length un3))).setCell ⟨g10, 0, none⟩ (.slice V1 ta.length vn1)).setCell ⟨g10, 1, none⟩ (.slice V2 te.length vn2)).setCell ⟨g10, 2, none⟩ (.slice V3 tp.length vn3))).setCell ⟨g11, 0, none⟩ (.slice C1 sa.length cn1)).setCell ⟨g11, 1, none⟩ (.slice C2 se.length cn2)).setCell ⟨g11, 2, none⟩ (.slice C3 sp.length cn3)).heap[y]? = W.heap[y]? := fun y y1 y2 y3 => ((put3_heap _ _ _ _ _ y y3).trans (put3_heap _ _ _ _ _ y y2)).trans (put3_heap _ _ _ _ _ y y1)
                 have R9 : RowIs ((((((((((((W).setCell ⟨g9, 0, none⟩ (.slice U1 sa.length un1)).setCell ⟨g9, 1, none⟩ (.slice U2 se.length un2)).setCell ⟨g9, 2, none⟩ (.slice U3 sp.length un3))).setCell ⟨g10, 0, none⟩ (.slice V1 ta.length vn1)).setCell ⟨g10, 1, none⟩ (.slice V2 te.length vn2)).setCell ⟨g10, 2, none⟩ (.slice V3 tp.length vn3))).setCell ⟨g11, 0, none⟩ (.slice C1 sa.length cn1)).setCell ⟨g11, 1, none⟩ (.slice C2 se.length cn2)).setCell ⟨g11, 2, none⟩ (.slice C3 sp.length cn3)) g9 30 [.slice U1 sa.length un1, .slice U2 se.length un2, .slice U3 sp.length un3] [] := (put3_row r9).keep ((put3_heap _ _ _ _ _ g9 e2).trans (put3_heap _ _ _ _ _ g9 e1))
                 have R10 : RowIs ((((((((((((W).setCell ⟨g9, 0, none⟩ (.slice U1 sa.length un1)).setCell ⟨g9, 1, none⟩ (.slice U2 se.length un2)).setCell ⟨g9, 2, none⟩ (.slice U3 sp.length un3))).setCell ⟨g10, 0, none⟩ (.slice V1 ta.length vn1)).setCell ⟨g10, 1, none⟩ (.slice V2 te.length vn2)).setCell ⟨g10, 2, none⟩ (.slice V3 tp.length vn3))).setCell ⟨g11, 0, none⟩ (.slice C1 sa.length cn1)).setCell ⟨g11, 1, none⟩ (.slice C2 se.length cn2)).setCell ⟨g11, 2, none⟩ (.slice C3 sp.length cn3)) g10 30 [.slice V1 ta.length vn1, .slice V2 te.length vn2, .slice V3 tp.length vn3] [] := (put3_row (r10.keep (put3_heap _ _ _ _ _ g10 e1.symm))).keep (put3_heap _ _ _ _ _ g10 e3)
                 have R11 : RowIs ((((((((((((W).setCell ⟨g9, 0, none⟩ (.slice U1 sa.length un1)).setCell ⟨g9, 1, none⟩ (.slice U2 se.length un2)).setCell ⟨g9, 2, none⟩ (.slice U3 sp.length un3))).setCell ⟨g10, 0, none⟩ (.slice V1 ta.length vn1)).setCell ⟨g10, 1, none⟩ (.slice V2 te.length vn2)).setCell ⟨g10, 2, none⟩ (.slice V3 tp.length vn3))).setCell ⟨g11, 0, none⟩ (.slice C1 sa.length cn1)).setCell ⟨g11, 1, none⟩ (.slice C2 se.length cn2)).setCell ⟨g11, 2, none⟩ (.slice C3 sp.length cn3)) g11 30 [.slice C1 sa.length cn1, .slice C2 se.length cn2, .slice C3 sp.length cn3] [] := put3_row (r11.keep ((put3_heap _ _ _ _ _ g11 e3.symm).trans (put3_heap _ _ _ _ _ g11 e2.symm)))
                 have hC : Cop3 ((((((((((((W).setCell ⟨g9, 0, none⟩ (.slice U1 sa.length un1)).setCell ⟨g9, 1, none⟩ (.slice U2 se.length un2)).setCell ⟨g9, 2, none⟩ (.slice U3 sp.length un3))).setCell ⟨g10, 0, none⟩ (.slice V1 ta.length vn1)).setCell ⟨g10, 1, none⟩ (.slice V2 te.length vn2)).setCell ⟨g10, 2, none⟩ (.slice V3 tp.length vn3))).setCell ⟨g11, 0, none⟩ (.slice C1 sa.length cn1)).setCell ⟨g11, 1, none⟩ (.slice C2 se.length cn2)).setCell ⟨g11, 2, none⟩ (.slice C3 sp.length cn3)) W4.heap.size g9 g10 g11 (gh 50) (gh 52) (gh 54) ⟨sa, se, sp⟩ ⟨ta, te, tp⟩ (.slice U1 sa.length un1) (.slice U2 se.length un2) (.slice U3 sp.length un3) (.slice V1 ta.length vn1) (.slice V2 te.length vn2) (.slice V3 tp.length vn3) (.slice C1 sa.length cn1) (.slice C2 se.length cn2) (.slice C3 sp.length cn3) :=
                   ⟨R9, R10, R11, cs50.keep fun y hy _ => hk y (f50_9.ne hy i9) (f50_10.ne hy i10) (f50_11.ne hy i11), cs52.keep fun y hy _ => hk y (f52_9.ne hy i9) (f52_10.ne hy i10) (f52_11.ne hy i11), cc54.keep fun y hy1 hy2 => hk y (f54_9.ne ⟨hy1, hy2⟩ i9) (f54_10.ne ⟨hy1, hy2⟩ i10) (f54_11.ne ⟨hy1, hy2⟩ i11),
                     k54, f54_9.symm.out i9, f54_10.symm.out i10, f54_11.symm.out i11, f5054, f5254⟩
                 have hxp : Ext W4 ((((((((((((W).setCell ⟨g9, 0, none⟩ (.slice U1 sa.length un1)).setCell ⟨g9, 1, none⟩ (.slice U2 se.length un2)).setCell ⟨g9, 2, none⟩ (.slice U3 sp.length un3))).setCell ⟨g10, 0, none⟩ (.slice V1 ta.length vn1)).setCell ⟨g10, 1, none⟩ (.slice V2 te.length vn2)).setCell ⟨g10, 2, none⟩ (.slice V3 tp.length vn3))).setCell ⟨g11, 0, none⟩ (.slice C1 sa.length cn1)).setCell ⟨g11, 1, none⟩ (.slice C2 se.length cn2)).setCell ⟨g11, 2, none⟩ (.slice C3 sp.length cn3)) := put3_ext (put3_ext (put3_ext he (by omega) _ _ _) (by omega) _ _ _) (by omega) _ _ _
                 have HC := Lib.hid hC
                 have HXP := Lib.hid hxp
                 clear hC hxp R9 R10 R11 hk cs50 cs52 cs54 cc50 cc52 cc54 r9 r10 r11 hgh hfar he
                 have HA := Lib.hid (HA.out.ext HXP.out)
                 have HX := Lib.hid (HX.out.trans HXP.out)
                 have hz4 := Nat.le_trans hz0 HXP.out.size
                 have HU := Lib.hid (updS_any p (dO, k, n, tx) hn1 hn2 HA.out.sa SMA.out)
                 have c0 := HA.out.ra.cell (j := 0) rfl
                 have c1 := HA.out.ra.cell (j := 1) rfl
                 have c2 := HA.out.ra.cell (j := 2) rfl
                 have o0 := HA.out.ro.cell (j := 0) rfl
                 have o1 := HA.out.ro.cell (j := 1) rfl
                 have o2 := HA.out.ro.cell (j := 2) rfl
                 have o3 := HA.out.ro.cell (j := 3) rfl
                 simp only [List.length_cons, List.length_nil, Nat.reduceAdd, List.take_succ_cons, List.take_zero, List.filterMap_cons, List.filterMap_nil, List.drop_succ_cons, List.drop_zero, putAll, Act.put, List.setIfInBounds_toArray, List.set_cons_succ, List.set_cons_zero, h50, h52, h54, h9, h10, h11]
                 go_wp
                 clear h50 h52 h54 h9 h10 h11 f5054 f5254 f50_9 f50_10 f50_11 f52_9 f52_10 f52_11 f54_9 f54_10 f54_11 f9_10 f9_11 f10_11
                 clear q9_0 z9_0 q9_1 z9_1 q9_2 z9_2
                 clear q10_0 z10_0 q10_1 z10_1 q10_2 z10_2
                 clear q11_0 z11_0 q11_1 z11_1 q11_2 z11_2
                 go_wp2_with fail
                 generalize ((((((((((((W).setCell ⟨g9, 0, none⟩ (.slice U1 sa.length un1)).setCell ⟨g9, 1, none⟩ (.slice U2 se.length un2)).setCell ⟨g9, 2, none⟩ (.slice U3 sp.length un3))).setCell ⟨g10, 0, none⟩ (.slice V1 ta.length vn1)).setCell ⟨g10, 1, none⟩ (.slice V2 te.length vn2)).setCell ⟨g10, 2, none⟩ (.slice V3 tp.length vn3))).setCell ⟨g11, 0, none⟩ (.slice C1 sa.length cn1)).setCell ⟨g11, 1, none⟩ (.slice C2 se.length cn2)).setCell ⟨g11, 2, none⟩ (.slice C3 sp.length cn3)) = W5 at *
                 clear hz0 HXP e1 e2 e3 k50 k52 k54 k9 k10 k11 i9 i10 i11
                 have hz0 := hz4
                 clear hz4
                 refine HU.out.mono ?_
                 rintro r Y ⟨u1, u2, u3, rfl, -, hx1⟩
                 clear c0 c1 c2 o0 o1 o2 o3
                 clear HU
                 have HA := Lib.hid (HA.out.ext hx1)
                 have HC := Lib.hid (HC.out.ext hx1)
                 have HX := Lib.hid (HX.out.trans hx1)
                 have hz0 := Nat.le_trans hz0 hx1.size
                 clear hx1
                 have HU := Lib.hid (reserveS_any p 3 (by decide) HA.out.sa SMA.out)
                 have c0 := HA.out.ra.cell (j := 0) rfl
                 have c1 := HA.out.ra.cell (j := 1) rfl
                 have c2 := HA.out.ra.cell (j := 2) rfl
                 go_wp2_with fail
                 refine HU.out.mono ?_
                 rintro r Y ⟨u1, u2, u3, rfl, -, hx1⟩
                 clear c0 c1 c2
                 clear HU
                 have HA := Lib.hid (HA.out.ext hx1)
                 have HC := Lib.hid (HC.out.ext hx1)
                 have HX := Lib.hid (HX.out.trans hx1)
                 have hz0 := Nat.le_trans hz0 hx1.size
                 clear hx1
                 have HU := Lib.hid (joinS_any HA.out.sa HA.out.sb SMA.out SMB.out)
                 have c0 := HA.out.ra.cell (j := 0) rfl
                 have c1 := HA.out.ra.cell (j := 1) rfl
                 have c2 := HA.out.ra.cell (j := 2) rfl
                 have d0 := HA.out.rb.cell (j := 0) rfl
                 have d1 := HA.out.rb.cell (j := 1) rfl
                 have d2 := HA.out.rb.cell (j := 2) rfl
                 go_wp2_with fail
                 refine HU.out.mono ?_
                 rintro r Y6 ⟨u1, u2, u3, rfl, -, hx1⟩
                 clear c0 c1 c2 d0 d1 d2
                 clear HU
                 have HA := Lib.hid (HA.out.ext hx1)
                 have HC := Lib.hid (HC.out.ext hx1)
                 have HX := Lib.hid (HX.out.trans hx1)
                 have hz0 := Nat.le_trans hz0 hx1.size
                 clear hx1
                 have hbl : (joinM sa []).length ≤ 549755813888 := by rw [joinM_nil (mayM_iff.1 (mayS_iff.1 MYA.out).all).2.1]; exact SMA.out.all
                 go_wp2_with fail
                 refine wp_region_facts [fun v _ => v = stV (.slice A1 sa.length n1) (.slice A2 se.length n2) (.slice A3 sp.length n3), fun v _ => v = stV (.slice B1 ta.length m1) (.slice B2 te.length m2) (.slice B3 tp.length m3), fun v _ => v = .pointer (some ⟨w.heap.size, 0, none⟩), fun v _ => v = .slice A1 sa.length n1, fun v W => ∃ D0 w0 D1 w1 D2 w2 D3 w3, v = dltV (.slice D0 (joinM sa []).length w0) (.slice D1 ta.length w1) (.slice D2 (sinceS ⟨ta, te, tp⟩ sa).entries.length w2) (.slice D3 tp.length w3) ∧ Sl markT W (fun _ => True) (.slice D0 (joinM sa []).length w0) (joinM sa []) ∧ StAt W (fun _ => True) (sinceS ⟨ta, te, tp⟩ sa) (.slice D1 ta.length w1) (.slice D2 (sinceS ⟨ta, te, tp⟩ sa).entries.length w2) (.slice D3 tp.length w3)] rfl (by kernel_rfl) ?hR ?hstep ?hend
                 case hR =>
                   simp only [List.mem_cons, List.not_mem_nil, or_false, forall_eq_or_imp, forall_eq]
                   exact ⟨fun v _ _ h _ => h, fun v _ _ h _ => h, fun v _ _ h _ => h, fun v _ _ h _ => h, fun v _ _ h he => by obtain ⟨D0, w0, D1, w1, D2, w2, D3, w3, e, h1, h2⟩ := h; exact ⟨D0, w0, D1, w1, D2, w2, D3, w3, e, h1.ext (by decide) he, h2.ext he⟩⟩
                 case hstep =>
                   simp only [List.length_cons, List.length_nil, Nat.reduceAdd, List.take_succ_cons, List.take_zero, stepsAll, and_true]
                   refine ⟨?_, ?_, ?_, ?_, ?_⟩
                   · intro x W he f
                     have h : x 4 = .pointer (some ⟨w.heap.size, 0, none⟩) := f.1
                     have c0 := (HA.out.ra.ext he).cell (j := 0) rfl
                     have c1 := (HA.out.ra.ext he).cell (j := 1) rfl
                     have c2 := (HA.out.ra.ext he).cell (j := 2) rfl
                     go_wp
                     exact stepQ_ok rfl (Ext.refl _)
                   · intro x W he f
                     have h : x 5 = .pointer (some ⟨w.heap.size + 1, 0, none⟩) := f.1
                     have d0 := (HA.out.rb.ext he).cell (j := 0) rfl
                     have d1 := (HA.out.rb.ext he).cell (j := 1) rfl
                     have d2 := (HA.out.rb.ext he).cell (j := 2) rfl
                     go_wp
                     exact stepQ_ok rfl (Ext.refl _)
                   · intro x W he f
                     have h : x 4 = .pointer (some ⟨w.heap.size, 0, none⟩) := f.1
                     go_wp
                     exact stepQ_ok rfl (Ext.refl _)
                   · intro x W he f
                     have h : x 67 = .pointer (some ⟨w.heap.size, 0, none⟩) := f.1
                     have c0 := (HA.out.ra.ext he).cell (j := 0) rfl
                     go_wp
                     exact stepQ_ok rfl (Ext.refl _)
                   · intro x W he f
                     have h0 : x 66 = stV (.slice B1 ta.length m1) (.slice B2 te.length m2) (.slice B3 tp.length m3) := f.1
                     have h1 : x 68 = .slice A1 sa.length n1 := f.2.1
                     have HU := Lib.hid (sinceS_any (HA.out.sb.ext he) (HA.out.sa.ext he).all SMB.out SMA.out.all)
                     go_wp
                     refine HU.out.mono ?_
                     rintro r V ⟨u0, u1, u2, u3, rfl, hb, hn, hx2⟩
                     have hb2 := (own_slMark hb).mono (S' := fun _ => True) (by decide) (fun _ _ _ => trivial)
                     have hn2 := hn.at.mono (S' := fun _ => True) (fun _ _ _ => trivial)
                     obtain ⟨D0, w0, rfl, -, -⟩ := hb2.form
                     obtain ⟨D1, w1, rfl, -, -⟩ := hn2.all.form
                     obtain ⟨D2, w2, rfl, -, -⟩ := hn2.entries.form
                     obtain ⟨D3, w3, rfl, -, -⟩ := hn2.pruned.form
                     have HB2 := Lib.hid hb2
                     have HN2 := Lib.hid hn2
                     clear hb hn hb2 hn2
                     dsimp only
                     go_wp
                     exact stepQ_ok ⟨D0, w0, D1, w1, D2, w2, D3, w3, rfl, HB2.out, HN2.out⟩ hx2
                 case hend =>
                   intro x Y7 hx1 f
                   have h0 : x 65 = stV (.slice A1 sa.length n1) (.slice A2 se.length n2) (.slice A3 sp.length n3) := f.1
                   obtain ⟨D0, w0, D1, w1, D2, w2, D3, w3, h1, hb2, hs2⟩ : ∃ D0 w0 D1 w1 D2 w2 D3 w3, x 69 = dltV (.slice D0 (joinM sa []).length w0) (.slice D1 ta.length w1) (.slice D2 (sinceS ⟨ta, te, tp⟩ sa).entries.length w2) (.slice D3 tp.length w3) ∧ Sl markT Y7 (fun _ => True) (.slice D0 (joinM sa []).length w0) (joinM sa []) ∧ StAt Y7 (fun _ => True) (sinceS ⟨ta, te, tp⟩ sa) (.slice D1 ta.length w1) (.slice D2 (sinceS ⟨ta, te, tp⟩ sa).entries.length w2) (.slice D3 tp.length w3) := f.2.2.2.2.1
                   clear f
                   have HA := Lib.hid (HA.out.ext hx1)
                   have HC := Lib.hid (HC.out.ext hx1)
                   have HX := Lib.hid (HX.out.trans hx1)
                   have hz0 := Nat.le_trans hz0 hx1.size
                   clear hx1
                   have HU := Lib.hid (applyS_any HA.out.sa hs2 hb2 SMA.out (small_since SMB.out sa) hbl)
                   clear hb2 hs2 hbl
                   simp only [List.length_cons, List.length_nil, Nat.reduceAdd, List.take_succ_cons, List.take_zero, List.filterMap_cons, List.filterMap_nil, List.drop_succ_cons, List.drop_zero, putAll, Act.put, List.setIfInBounds_toArray, List.set_cons_succ, List.set_cons_zero, h0, h1]
                   go_wp
                   refine HU.out.mono ?_
                   rintro r W6 ⟨u1, u2, u3, rfl, -, hx1⟩
                   clear HU h0 h1
                   have HA := Lib.hid (HA.out.ext hx1)
                   have HC := Lib.hid (HC.out.ext hx1)
                   have HX := Lib.hid (HX.out.trans hx1)
                   have hz0 := Nat.le_trans hz0 hx1.size
                   clear hx1
                   dsimp only
                   go_wp
                   go_wp2_with fail
                   have HE0 := Lib.hid HC.out.cop.ents
                   have HM0 := Lib.hid HC.out.cop.marks
                   have hq1 : se.length ≤ 549755813888 := SMA.out.entries
                   have hq2 : sa.length ≤ 549755813888 := SMA.out.all
                   have HR3 := Lib.hid (fun (W : World) (hk : KeepO (gh 54) W6 W) => HC.out.r3.keep (hk.same _ HC.out.k3))
                   go_loopw [12] (fun i wr => ∃ j : Nat, j ≤ se.length ∧ i = I j ∧ KeepO (gh 54) W6 wr ∧ Hid (EntsOk wr (gh 54) C2 se ∧ MarksOk wr (gh 54) C1 sa.length)) (fun i _ => se.length - (intOf i).toNat)
                   case atStart => exact ⟨0, Nat.zero_le _, rfl, KeepO.refl _ _, Lib.hid ⟨HE0.out, HM0.out⟩⟩
                   case round =>
                     obtain ⟨j, hj, rfl, hkp, hok⟩ := hrel
                     have r3 := HR3.out wr hkp
                     have c1 := r3.cell (j := 1) rfl
                     by_cases hlt : j < se.length
                     · obtain ⟨e, he⟩ : ∃ e, se[j]? = some e := ⟨se[j], List.getElem?_eq_getElem hlt⟩
                       have HEJ := Lib.hid he
                       obtain ⟨gE, v, rfl, hKE, hw0, hc1, A, c, rfl, hmc, hcm, hsn⟩ := hok.out.1 j e he
                       obtain ⟨u0, hu0⟩ := hw0.cell
                       have hf0 := hw0.frozen
                       have hkp2 := hkp.set (off := j * 7) hKE (St [])
                       have hok2 := Lib.hid (show EntsOk (wr.setCell ⟨gE, j * 7, none⟩ (St [])) (gh 54) (some ⟨gE, 0, none⟩) se ∧ MarksOk (wr.setCell ⟨gE, j * 7, none⟩ (St [])) (gh 54) C1 sa.length from ⟨hok.out.1.setKey j _, hok.out.2.set _ _ _⟩)
                       have HKP2 := Lib.hid hkp2
                       clear hw0 hkp hkp2 hok he hc1 hsn r3
                       go_wp2_with fail
                       generalize wr.setCell ⟨gE, j * 7, none⟩ (St []) = wo at *
                       clear c1 hu0 hf0
                       go_loopw [13] (fun i wr2 => ∃ q : Nat, q ≤ e.seen.length ∧ i = I q ∧ KeepO (gh 54) W6 wr2 ∧ Hid (EntsOk wr2 (gh 54) (some ⟨gE, 0, none⟩) se ∧ MarksOk wr2 (gh 54) C1 sa.length)) (fun i _ => e.seen.length - (intOf i).toNat)
                       case atStart => exact ⟨0, Nat.zero_le _, rfl, HKP2.out, hok2⟩
                       case round =>
                         obtain ⟨q, hq, rfl, hkp, hok⟩ := hrel
                         have r3 := HR3.out wr hkp
                         have c1 := r3.cell (j := 1) rfl
                         obtain ⟨gE2, v2, e2, -, -, hc2, A2, c2, rfl, hmc2, hcm2, hsn2⟩ := hok.out.1 j e HEJ.out
                         cases e2
                         by_cases hlt2 : q < e.seen.length
                         · obtain ⟨g, o, rfl, hne, hKg, hwq⟩ := hsn2 q hlt2
                           obtain ⟨u0, hu0⟩ := hwq.cell
                           have hf0 := hwq.frozen
                           have hkp2 := hkp.set (off := o + q * 2 + 1) hKg (U 0)
                           have hok3 := Lib.hid (show EntsOk (wr.setCell ⟨g, o + q * 2 + 1, none⟩ (U 0)) (gh 54) (some ⟨gE, 0, none⟩) se ∧ MarksOk (wr.setCell ⟨g, o + q * 2 + 1, none⟩ (U 0)) (gh 54) C1 sa.length from ⟨hok.out.1.setSeen hne _, hok.out.2.set _ _ _⟩)
                           have HKP3 := Lib.hid hkp2
                           clear hwq hkp hkp2 hok hsn2 r3
                           go_wp2_with fail
                           go_roundw
                           case rel => exact ⟨q + 1, by omega, by simp, HKP3.out, hok3⟩
                           case measure => simp [intOf]; omega
                         · have hqe : ¬ (q : Int) < (e.seen.length : Int) := by omega
                           have HOK := hok
                           have HKP3 := Lib.hid hkp
                           clear hkp hok hsn2 r3 hq
                           go_wp2_with fail
                           go_roundw
                           case rel => exact ⟨j + 1, by omega, by simp, HKP3.out, HOK⟩
                           case measure => simp [intOf]; omega
                     · have hje : ¬ (j : Int) < (se.length : Int) := by omega
                       have HM := Lib.hid hok.out.2
                       have HKP := Lib.hid hkp
                       clear hok hkp hj r3 HE0 HM0
                       go_wp2_with fail
                       clear c1
                       go_loopw [14] (fun i wr => ∃ q : Nat, q ≤ sa.length ∧ i = I q ∧ KeepO (gh 54) W6 wr ∧ Hid (MarksOk wr (gh 54) C1 sa.length)) (fun i _ => sa.length - (intOf i).toNat)
                       case atStart => exact ⟨0, Nat.zero_le _, rfl, HKP.out, HM⟩
                       case round =>
                         clear HKP HM
                         obtain ⟨q, hq, rfl, hkp, hok⟩ := hrel
                         have r3 := HR3.out wr hkp
                         have c0 := r3.cell (j := 0) rfl
                         by_cases hlt2 : q < sa.length
                         · obtain ⟨gA, rfl, hKg, hwq⟩ := hok.out q hlt2
                           obtain ⟨u0, hu0⟩ := hwq.cell
                           have hf0 := hwq.frozen
                           have hkp2 := hkp.set (off := q * 2 + 1) hKg (U 0)
                           have hok3 := Lib.hid (hok.out.set gA (q * 2 + 1) (U 0))
                           have HKP3 := Lib.hid hkp2
                           clear hwq hkp hkp2 hok r3
                           go_wp2_with fail
                           go_roundw
                           case rel => exact ⟨q + 1, by omega, by simp, HKP3.out, hok3⟩
                           case measure => simp [intOf]; omega
                         · have hqe : ¬ (q : Int) < (sa.length : Int) := by omega
                           clear hq
                           have hsm : ∀ y, y < W4.heap.size → wr.heap[y]? = W6.heap[y]? := fun y hy => hkp.same y (by have h := HC.out.lo; omega)
                           have HA := Lib.hid (HA.out.keep (by omega) hzl hsm)
                           have R1 := Lib.hid (HC.out.r1.keep (hkp.same _ HC.out.k1))
                           have R2 := Lib.hid (HC.out.r2.keep (hkp.same _ HC.out.k2))
                           have WAS := Lib.hid (HC.out.was.keep fun y hy _ => hkp.same y (HC.out.far1.out hy))
                           have ALS := Lib.hid (HC.out.also.keep fun y hy _ => hkp.same y (HC.out.far2.out hy))
                           have HX := Lib.hid (hkp.ext HX.out (by have h := HC.out.lo; omega))
                           clear hkp hok r3 HC HR3 hsm
                           have HS1 := Lib.hid (refSame_st HA.out.sa WAS.out)
                           rw [show sameSt ⟨sa, se, sp⟩ ⟨sa, se, sp⟩ = true from sameSt_iff.2 rfl] at HS1
                           have d0 := HA.out.ra.cell (j := 0) rfl
                           have d1 := HA.out.ra.cell (j := 1) rfl
                           have d2 := HA.out.ra.cell (j := 2) rfl
                           have k0 := R1.out.cell (j := 0) rfl
                           have k1 := R1.out.cell (j := 1) rfl
                           have k2 := R1.out.cell (j := 2) rfl
                           go_wp2_with fail
                           refine HS1.out.mono ?_
                           rintro r Y8 ⟨rfl, hx1⟩
                           clear HS1 c0 d0 d1 d2 k0 k1 k2
                           have HA := Lib.hid (HA.out.ext hx1)
                           have HS2 := Lib.hid (refSame_st HA.out.sb (ALS.out.ext hx1))
                           rw [show sameSt ⟨ta, te, tp⟩ ⟨ta, te, tp⟩ = true from sameSt_iff.2 rfl] at HS2
                           have d0 := HA.out.rb.cell (j := 0) rfl
                           have d1 := HA.out.rb.cell (j := 1) rfl
                           have d2 := HA.out.rb.cell (j := 2) rfl
                           have k0 := (R2.out.ext hx1).cell (j := 0) rfl
                           have k1 := (R2.out.ext hx1).cell (j := 1) rfl
                           have k2 := (R2.out.ext hx1).cell (j := 2) rfl
                           have HX := Lib.hid (HX.out.trans hx1)
                           clear hx1
                           go_wp2_with fail
                           refine HS2.out.mono ?_
                           rintro r Y9 ⟨rfl, hx1⟩
                           clear HS2 d0 d1 d2 k0 k1 k2
                           have HX := Lib.hid (HX.out.trans hx1)
                           clear hx1
                           go_wp2_with fail
                           refine (alive_any _).mono ?_
                           rintro r Z ⟨rfl, hxz⟩
                           go_wp2_with fail
                           go_ret
                           exact ⟨rfl, HX.out.trans hxz⟩
end Go.Proofs.YtdikcgmdmcfpfaaGreat
