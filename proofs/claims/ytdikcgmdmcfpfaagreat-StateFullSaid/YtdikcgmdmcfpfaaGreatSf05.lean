/- Contracts of the functions that the statement goes through, with their plain words: Package bag: Put. Package bag: May. Package counter: greatest: lists put into two maps. Package counter: value: a sum over a map; Value. DERIVED: THE SHELF's CONTRACTS AT THIS DUMP, IN PLAIN WORDS (tools/lay-plain.mjs out of 'YtdikcgmdmcfpfaaGreatShelfY.lean', which tools/lay-shelf.mjs wrote): THE SAME DECLARATIONS UNDER THE SAME NAMES: 'import', 'namespace', 'open', 'def', 'theorem' AND NOTHING ELSE: no command of the shelf's: FOR A HAND-IN. Each laying: the table of numbers ('.._ren') and one theorem, a field a fact of the dump's own or the kernel's comparison; each contract: ONE APPLICATION. slices.Sort at []string: a row of the call's own, sorted. slices.Sorted(maps.Keys(m)) at a map of numbers by paths. The sorted list of strings hangs on the elements alone; its order is 'less, byte by byte'. Package counter: list: the counts by rising paths; Join. Package counter: Join. Package counter: May. -/
import Derived.Test.YtdikcgmdmcfpfaaGreatSf04
import Derived.Shelf.Sort.Plain
import Derived.Shelf.Slices.In.SortNone
import Derived.Ground.NamesProg
import Derived.Test.YtdikcgmdmcfpfaaGreatProg
namespace Go.Proofs.YtdikcgmdmcfpfaaGreat
open Go.RowKit Go.Shelf

theorem zeroI (w : World) : (zeroValue 3).run Tryz.prog w = .ok (I 0) w := Tryz.zeroValue3 w
def namesL (ks : List Place) : List Str := setL (ks.map (·.1))
theorem namesL_perm {a b : List Place} (h : a.Perm b) : (namesL a).length = (namesL b).length :=
  (perm_of_mem (setL_nodup _) (setL_nodup _) fun x => by rw [mem_setL, mem_setL]; exact (h.map _).mem_iff).length_eq
theorem run_len_MapIs {κ ν : Type} {K : κ → Value} {V : ν → Value} {w : World} {b : Nat} {L : List (κ × ν)} {P : Program} {t kt et : TypeId} (ht : P.underlying t = some (.map kt et)) (h : MapIs K V w b L) (ty : TypeId) :
    (Builtin.len_ #[t] ty #[.map (some b)]).run P w = .ok (.int .i64 (L.length : Int)) w := by
  obtain ⟨es, c, h1, h2, -⟩ := h
  have hlen : es.size = L.length := by
    have := congrArg List.length h2
    simpa using this
  simp [Builtin.len_, run_underlying ht, MapKept.run_getObj_map h1, hlen, goInt]
/-- the set behind a put, and the error's number -/
def putB (l : List Item) (s : Str) (d : Dot) : List Item × Nat :=
  if 4096 < s.length then ([], 4) else if 256 ≤ (namesL (othersL l s)).length then ([], 6) else (itemsL (addK (othersL l s) (s, d)), 0)

set_option maxRecDepth 100000 in
set_option maxHeartbeats 1000000 in
theorem putB_any {S : Nat → Prop} {v : Value} {l : List Item} {w : World} (s : Str) (d : Dot) (hv : Sl itemT w S v l) (hl : (placesL l).length < 1099511627776) :
    Calls Tryz.prog 162 #[v, St s, dotV d] w fun e w' => ∃ v', e = .returned (.tuple #[v', I (putB l s d).2]) ∧ OwnL itemT 96 w' w.heap.size (fun b => w.heap.size ≤ b) v' (putB l s d).1 ∧ Ext w w' := by
  have hx0 := ((Ext.refl w).alloc (.cells #[St s] 9)).alloc (.cells #[St d.1, U d.2] 97)
  by_cases hlong : 4096 < s.length
  · have HP := Lib.hid (show putB l s d = ([], 4) by simp [putB, hlong])
    have hs : (s.length : Int) > 4096 := by omega
    obtain ⟨A, c, rfl, -, -⟩ := hv.form
    clear hv
    go_enter Tryz.func162, Tryz.ntmps162
    go_wp2_with fail
    go_ret2
    exact ⟨_, by rw [HP.out]; rfl, by rw [HP.out]; exact OwnL.nil _ _, hx0⟩
  · have hs : ¬ (s.length : Int) > 4096 := by omega
    have HP := Lib.hid (show putB l s d = if 256 ≤ (namesL (othersL l s)).length then ([], 6) else (itemsL (addK (othersL l s) (s, d)), 0) by simp [putB, hlong])
    have hb0 : ((w.alloc (.cells #[St s] 9)).alloc (.cells #[St d.1, U d.2] 97)).cell? ⟨w.heap.size, 0, none⟩ = some (St s) := by simp [go_sem]
    have hb1 : ((w.alloc (.cells #[St s] 9)).alloc (.cells #[St d.1, U d.2] 97)).cell? ⟨w.heap.size + 1, 0, none⟩ = some (St d.1) := by simp [go_sem]
    have hb2 : ((w.alloc (.cells #[St s] 9)).alloc (.cells #[St d.1, U d.2] 97)).cell? ⟨w.heap.size + 1, 1, none⟩ = some (U d.2) := by simp [go_sem]
    have H1 := Lib.hid (of_bag (hv.ext (by decide) hx0))
    have hmm := @run_makeMap Tryz.prog
    have hz0 : ((w.alloc (.cells #[St s] 9)).alloc (.cells #[St d.1, U d.2] 97)).heap.size = w.heap.size + 1 + 1 := by simp
    have HZ0 := Lib.hid hz0
    have hlen := othersL_len l s
    have hnd := othersL_nodup l s
    obtain ⟨A, c, rfl, -, -⟩ := hv.form
    clear hv hz0
    go_enter Tryz.func162, Tryz.ntmps162
    go_wp2_with fail
    generalize (w.alloc (.cells #[St s] 9)).alloc (.cells #[St d.1, U d.2] 97) = W0 at *
    refine H1.out.mono ?_
    rintro e W1 ⟨p, rfl, hp1, hp2, hx1⟩
    have hx01 := hx0.trans hx1
    have hc0 := hx1.cell hb0
    have hlt := blk_of_cell hc0
    have H2 := Lib.hid (that_any hp2 (pred_put1 s w.heap.size W1.heap.size (by omega)) hc0 (Nat.le_refl _))
    clear hp2
    go_wp2_with fail
    refine H2.out.mono ?_
    rintro e W2 ⟨q, ks, rfl, hq1, hpm, hq2, hx2⟩
    rw [← othersL] at hpm
    have hx02 := hx01.trans hx2
    have d0 := (hx1.trans hx2).cell hb0
    have d1 := (hx1.trans hx2).cell hb1
    have d2 := (hx1.trans hx2).cell hb2
    have hxm := (Ext.refl W2).alloc (.map #[] 0)
    obtain ⟨W3, hr, hR, hx3, hsz⟩ := run_range_MapIs (P := Tryz.prog) Tryz.underlying229 (hq2.ext hxm)
    have HR := Lib.hid hR
    have HN := Lib.hid (MapIs.new (κ := Str) (ν := Int) (K := St) (V := I) W2 |>.ext hx3)
    have HQ := Lib.hid ((hq2.ext hxm).ext hx3)
    have HND := Lib.hid hq2.nodup
    have hqw := hq2.lt
    rw [World.size_alloc] at hr hsz
    have hx23 := hxm.trans hx3
    have hx03 := hx02.trans hx23
    have f0 := hx23.cell d0
    have f1 := hx23.cell d1
    have f2 := hx23.cell d2
    have hb0l := blk_of_cell d0
    have hb1l := blk_of_cell d1
    have HPM := Lib.hid hpm
    have HX03 := Lib.hid hx03
    have hqb : w.heap.size ≤ q := Nat.le_trans hx01.size hq1
    have hs2 := hx02.size
    have hklen : ks.length = (othersL l s).length := hpm.length_eq
    have hklen2 : ks.length < 1099511627776 := by omega
    clear hR hq2 hpm hxm hx3 hx23 hx03 hx0 hx1 hx2 hklen d0 d1 d2 hb0 hb1 hb2
    go_wp2_with fail
    go_loopw [21] (fun u wr => ∃ done rest L, (done ++ rest.map Prod.fst).Perm ks ∧ RangeIs placeV unitV wr q (W2.heap.size + 1) (ks.map fun k => (k, ())) rest ∧ Hid (MapIs St I wr W2.heap.size L ∧ L.map Prod.fst = namesL done) ∧
      (wr.cell? ⟨w.heap.size, 0, none⟩ = some (St s) ∧ wr.cell? ⟨w.heap.size + 1, 0, none⟩ = some (St d.1) ∧ wr.cell? ⟨w.heap.size + 1, 1, none⟩ = some (U d.2)) ∧ SetOf placeV wr q ks ∧ Ext w wr) (fun _ wr => wr.rangeLeft q (W2.heap.size + 1))
    case atStart => exact ⟨[], _, [], by rw [unit_keys]; exact .refl _, by have := HR.out; rwa [World.size_alloc] at this, Lib.hid ⟨HN.out, rfl⟩, ⟨f0, f1, f2⟩, HQ.out, HX03.out⟩
    case round =>
      obtain ⟨done, rest, L, hperm, hR, hML, ⟨g0, g1, g2⟩, hS, hx⟩ := hrel
      rcases run_next_MapIs (P := Tryz.prog) 0 hR with ⟨rfl, hrun⟩ | ⟨r1, k, r2, wn, rfl, hrun, hR2, ht, hent⟩
      · have hnx : ∀ ty, (Instr.next (.pointer (some ⟨W2.heap.size + 1, 0, none⟩)) false ty).run Tryz.prog wr = .ok (.tuple #[.bool false]) wr := fun ty => hrun
        have hd : done.Perm ks := by simpa using hperm
        have hdo := hd.trans HPM.out
        obtain ⟨hMap, hkeys⟩ := hML.out
        have hln := run_len_MapIs (P := Tryz.prog) Tryz.underlying112 hMap 3
        have hN : L.length = (namesL (othersL l s)).length := by
          have h2 := congrArg List.length hkeys
          simp at h2
          rw [h2]
          exact namesL_perm hdo
        rw [hN] at hln
        obtain ⟨N, hNN⟩ : ∃ N, (namesL (othersL l s)).length = N := ⟨_, rfl⟩
        rw [hNN] at HP hln
        have HX := Lib.hid hx
        clear hML hR hperm hrun hkeys hNN hx hMap hN
        by_cases h256 : 256 ≤ N
        · have HP2 := Lib.hid (show putB l s d = ([], 6) by rw [HP.out, if_pos h256])
          have hz : (N : Int) ≥ 256 := by omega
          clear hd hdo hS
          go_wp2_with fail
          go_ret2
          exact ⟨_, by rw [HP2.out]; rfl, by rw [HP2.out]; exact OwnL.nil _ _, HX.out⟩
        · have HP2 := Lib.hid (show putB l s d = (itemsL (addK (othersL l s) (s, d)), 0) by rw [HP.out, if_neg h256])
          have hz : ¬ (N : Int) ≥ 256 := by omega
          obtain ⟨w4, hup, hs4, ht4⟩ := run_add_SetOf (P := Tryz.prog) Tryz.underlying229 keyOkP hS (s, d)
          have hx4 := HX.out.turned ht4 hqb
          have hpm4 : (addK ks (s, d)).Perm (addK (othersL l s) (s, d)) := perm_of_mem (addK_nodup HND.out _) (addK_nodup hnd _) fun x => by rw [mem_addK, mem_addK, HPM.out.mem_iff]
          have h5 := addK_len ks (s, d)
          have H5 := Lib.hid (items_any hs4 (by omega))
          have HI := Lib.hid (itemsL_perm hpm4)
          have HX4 := Lib.hid hx4
          clear hd hdo hS hs4 ht4 hx4 hpm4 hnd
          go_wp2_with fail
          refine H5.out.mono ?_
          rintro e w5 ⟨v', rfl, hv, hx5⟩
          rw [HI.out] at hv
          have hs9 := HX4.out.size
          have HV := Lib.hid ((hv.lower hs9).mono (fun b _ hb => Nat.le_trans hs9 hb))
          have hff := hv.form
          obtain ⟨Az, cz, rfl, -, -⟩ := hff
          clear hv
          go_wp2_with fail
          go_ret2
          exact ⟨_, by rw [HP2.out]; rfl, by rw [HP2.out]; exact HV.out, HX4.out.trans hx5⟩
      · have hnx : ∀ ty, (Instr.next (.pointer (some ⟨W2.heap.size + 1, 0, none⟩)) false ty).run Tryz.prog wr = .ok (.tuple #[.bool true, placeV k.1, unitV k.2]) wn := fun ty => hrun
        have hxn := hx.turned ht (by omega)
        have hx1 := (Ext.refl wn).alloc (.cells #[St k.1.1, St k.1.2.1, U k.1.2.2] 234)
        have hMn : MapIs St I (wn.alloc (.cells #[St k.1.1, St k.1.2.1, U k.1.2.2] 234)) W2.heap.size L := (hML.out.1.keep (ht.other _ (by omega))).ext hx1
        have hlk := (run_lookup_MapIs (P := Tryz.prog) (z := 0) Tryz.underlying112 keyOkS zeroI hMn k.1.1).1
        obtain ⟨z, hz⟩ : ∃ z, getL 0 L k.1.1 = z := ⟨_, rfl⟩
        rw [hz] at hlk
        obtain ⟨w3, hup, hm3, ht3⟩ := run_update_MapIs (P := Tryz.prog) Tryz.underlying112 keyOkS hMn k.1.1 (wrap64 (z + 1))
        have g0n := ht3.cell (hx1.cell (ht.cell g0 (by omega))) (by omega)
        have g1n := ht3.cell (hx1.cell (ht.cell g1 (by omega))) (by omega)
        have g2n := ht3.cell (hx1.cell (ht.cell g2 (by omega))) (by omega)
        have HR2 := Lib.hid ((hR2.ext hx1).keep (ht3.other q (by omega)) (ht3.other _ (by omega)))
        have HS2 := Lib.hid (((hS.keep (ht.other q (by omega))).ext hx1).keep (ht3.other q (by omega)))
        have HX2 := Lib.hid ((hxn.trans hx1).turned ht3 (by omega))
        have HM3 := Lib.hid hm3
        have HKEY := Lib.hid (show (putL L k.1.1 (wrap64 (z + 1))).map Prod.fst = namesL (done ++ [k.1]) by
          rw [putL_keys, hML.out.2]
          unfold namesL
          rw [List.map_append, List.map_singleton, setL_snoc]
          rfl)
        have HML := Lib.hid hR.left_eq
        have HPM3 := Lib.hid hperm
        clear hperm hR hrun hR2 hx ht hxn hS hx1 hm3 ht3 hMn hz hML
        go_wp2_with fail
        go_roundw
        case rel => exact ⟨done ++ [k.1], r1 ++ r2, _, by
          have h1 := HPM3.out
          simp only [List.map_append, List.map_cons] at h1 ⊢
          rw [List.append_assoc]
          exact ((List.perm_middle (l₁ := r1.map Prod.fst) (a := k.1) (l₂ := r2.map Prod.fst)).symm.append_left done).trans h1, HR2.out, Lib.hid ⟨HM3.out, HKEY.out⟩, ⟨g0n, g1n, g2n⟩, HS2.out, HX2.out⟩
        case measure => rw [HML.out, HR2.out.left_eq]; simp
end Go.Proofs.YtdikcgmdmcfpfaaGreat
namespace Go.Proofs.YtdikcgmdmcfpfaaGreat
open Go.RowKit Go.Shelf

def okDot (prev : Option Dot) (all : List Dot) (d : Dot) : Bool :=
  !d.1.isEmpty && decide (1 ≤ d.2) && decide (d.2 ≤ 281474976710656) && (match prev with | none => true | some q => decide (cmpD q d < 0)) && !decide (d ∈ all)
def runDots : Option Dot → List Dot → List Dot → Option (List Dot)
  | _, all, [] => some all
  | prev, all, d :: r => if okDot prev all d then runDots (some d) (all ++ [d]) r else none
def okText (prev : Option Str) (it : Item) : Bool := (match prev with | none => true | some s => ltS s it.1) && decide (it.1.length ≤ 4096) && !it.2.isEmpty
def mayItems : Option Str → List Dot → List Item → Bool
  | _, _, [] => true
  | prev, all, it :: r => if okText prev it then (match runDots none all it.2 with | none => false | some a => mayItems (some it.1) a r) else false
def mayB (l : List Item) : Bool := mayItems none [] l

theorem getLast_at {α : Type} {l : List α} (h : 0 < l.length) : ∃ pre q, l = pre ++ [q] ∧ l.getLast? = some q ∧ pre.length = l.length - 1 := by
  rcases List.eq_nil_or_concat l with rfl | ⟨pre, q, rfl⟩
  · simp at h
  · exact ⟨pre, q, by simp, by simp, by simp⟩
theorem pred_index {n : Nat} (h : 0 < n) (h2 : n ≤ 9223372036854775807) : IntKind.i64.wrap ((n : Int) - 1) = ((n - 1 : Nat) : Int) := by
  rw [show (n : Int) - 1 = ((n - 1 : Nat) : Int) by omega]
  exact IntWalk.i64_in _ (by omega)

set_option maxRecDepth 100000 in
set_option maxHeartbeats 2000000 in
theorem mayB_any {S : Nat → Prop} {v : Value} {l : List Item} {w : World} (hv : Sl itemT w S v l) (hl40 : l.length ≤ 1099511627776) :
    Calls Tryz.prog 122 #[v] w fun e w' => e = .returned (.bool (mayB l)) ∧ Ext w w' := by
  have hv' := hv
  obtain ⟨A, c, rfl, hc1, hc2⟩ := hv.form
  have HAT := Lib.hid (fun (pre post : List Item) (m : Item) (wr : World) (h : Ext w wr) (hl : l = pre ++ m :: post) => item_at hv' h hl)
  have HCMP := Lib.hid compare_any
  have hmm := @run_makeMap Tryz.prog
  clear hv hv'
  go_enter Tryz.func122, Tryz.ntmps122
  go_wp2_with fail
  go_loopw [13] (fun i wr => ∃ pre post all, l = pre ++ post ∧ i = I pre.length ∧ Hid (mayB l = mayItems (pre.getLast?.map (·.1)) all post) ∧ SetOf dotV wr w.heap.size all ∧ Ext w wr) (fun i _ => l.length - (intOf i).toNat)
  case atStart => exact ⟨[], l, [], rfl, rfl, Lib.hid rfl, SetOf.new w, (Ext.refl w).alloc _⟩
  case round =>
    obtain ⟨pre, post, all, hl, rfl, hm, hS, hx⟩ := hrel
    cases post with
    | cons it post =>
      obtain ⟨b, o, vd, rfl, hd0, hd1, hsl⟩ := HAT.out pre post it wr hx hl
      have hlt : pre.length < l.length := by rw [hl]; simp
      have hsl' := hsl
      have hff := hsl.form
      obtain ⟨A2, c2, rfl, hc3, hc4⟩ := hff
      have hx1 := (Ext.refl wr).alloc (.cells #[St it.1, .slice A2 it.2.length c2] 96)
      have t0 : (wr.alloc (.cells #[St it.1, .slice A2 it.2.length c2] 96)).cell? ⟨wr.heap.size, 0, none⟩ = some (St it.1) := by simp [go_sem]
      have t1 : (wr.alloc (.cells #[St it.1, .slice A2 it.2.length c2] 96)).cell? ⟨wr.heap.size, 1, none⟩ = some (.slice A2 it.2.length c2) := by simp [go_sem]
      have hws := hS.lt
      have HIN := Lib.hid (fun (p2 q2 : List Dot) (x : Dot) (wr' : World) (h : Ext w wr') (hl : it.2 = p2 ++ x :: q2) => dot_at hsl' h hl)
      have HM := Lib.hid (show mayB l = if okText (pre.getLast?.map (·.1)) it then (match runDots none all it.2 with | none => false | some a => mayItems (some it.1) a post) else false by rw [hm.out]; rfl)
      have HL := Lib.hid hl
      have HS := Lib.hid (hS.ext hx1)
      have HX := Lib.hid (hx.trans hx1)
      -- what the way to the inner loop wants, and the ways that end here
      have hprev : (pre.length = 0 ∧ pre.getLast?.map (·.1) = none) ∨ (0 < pre.length ∧ ∃ q : Item, pre.getLast?.map (·.1) = some q.1 ∧ (wr.alloc (.cells #[St it.1, .slice A2 it.2.length c2] 96)).cell? ⟨b, o + (pre.length - 1) * 2, none⟩ = some (St q.1)) := by
        rcases Nat.eq_zero_or_pos pre.length with h0 | h0
        · exact .inl ⟨h0, by rw [List.eq_nil_of_length_eq_zero h0]; rfl⟩
        · obtain ⟨p', q, e1, e2, e3⟩ := getLast_at h0
          obtain ⟨b', o', v', e, q0, -, -⟩ := HAT.out p' (it :: post) q wr hx (by rw [hl, e1]; simp)
          cases e
          rw [e3] at q0
          exact .inr ⟨h0, q, by rw [e2]; rfl, hx1.cell q0⟩
      clear hl hS hsl hsl' hx hx1 hm
      by_cases hok : okText (pre.getLast?.map (·.1)) it = true
      · have HM2 := Lib.hid (show mayB l = (match runDots none all it.2 with | none => false | some a => mayItems (some it.1) a post) by rw [HM.out, if_pos hok])
        unfold okText at hok
        simp only [Bool.and_eq_true, decide_eq_true_eq, Bool.not_eq_true'] at hok
        obtain ⟨⟨hok1, hok2⟩, hok3⟩ := hok
        have hne : 0 < it.2.length := by
          cases h2 : it.2 with
          | nil => rw [h2] at hok3; cases hok3
          | cons a r => simp
        have k1d : decide ((4096 : Int) < (List.length it.1 : Int)) = false := decide_eq_false (by omega)
        have k2 : ((it.2.length : Int) == 0) = false := by rw [beq_eq_false_iff_ne]; omega
        have k2d : decide (it.2.length = 0) = false := decide_eq_false (by omega)
        clear HM hok2 hok3
        rcases hprev with ⟨h0, hp⟩ | ⟨h0, q, hp, q0⟩
        case' inl =>
          have k0 : ¬ (pre.length : Int) > 0 := by omega
          have k0n : ¬ 0 < pre.length := by omega
          clear hp h0 hok1
          go_wp2_with fail
          generalize wr.alloc (.cells #[St it.1, .slice A2 it.2.length c2] 96) = W1 at *
          go_quiet (fail)
          clear k0 k0n k1d k2 k2d
          go_wp2_with fail
        case' inr =>
          rw [hp] at hok1
          have k0 : (pre.length : Int) > 0 := by omega
          have k4 := pred_index h0 (by omega)
          have k5 : ((pre.length - 1 : Nat) : Int) < (l.length : Int) := by omega
          have k6 : (0 : Int) ≤ ((pre.length - 1 : Nat) : Int) := by omega
          have k7 : (((pre.length - 1 : Nat) : Int)).toNat = pre.length - 1 := by omega
          clear hp
          go_wp2_with fail
          generalize wr.alloc (.cells #[St it.1, .slice A2 it.2.length c2] 96) = W1 at *
          go_quiet (fail)
          clear k0 k4 k5 k6 k7 q0 hok1 k1d k2 k2d
          go_wp2_with fail
        all_goals
          have hxn : Ext W1 (W1.drewN nq) := (Ext.refl W1).drewN nq
          obtain ⟨wo, rfl⟩ : ∃ wo : World, wo = wr := ⟨_, rfl⟩
          go_loopw [46] (fun j wr2 => ∃ p2 q2 all2, it.2 = p2 ++ q2 ∧ j = I p2.length ∧ Hid (mayB l = (match runDots p2.getLast? all2 q2 with | none => false | some a => mayItems (some it.1) a post)) ∧ SetOf dotV wr2 w.heap.size all2 ∧
            (wr2.cell? ⟨wo.heap.size, 0, none⟩ = some (St it.1) ∧ wr2.cell? ⟨wo.heap.size, 1, none⟩ = some (.slice A2 it.2.length c2)) ∧ Ext w wr2) (fun j _ => it.2.length - (intOf j).toNat)
          case atStart => exact ⟨[], it.2, all, rfl, rfl, HM2, HS.out.ext hxn, ⟨hxn.cell t0, hxn.cell t1⟩, HX.out.trans hxn⟩
          case round =>
            obtain ⟨p2, q2, all2, hl2, rfl, hm2, hS2, ⟨s0, s1⟩, hx2⟩ := hrel
            clear t0 t1
            cases q2 with
            | cons x q2 =>
              obtain ⟨b2, o2, rfl, e0, e1⟩ := HIN.out p2 q2 x wr hx2 hl2
              have hlt2 : p2.length < it.2.length := by rw [hl2]; simp
              have hxa := (Ext.refl wr).alloc (.cells #[St x.1, U x.2] 97)
              have u0 : (wr.alloc (.cells #[St x.1, U x.2] 97)).cell? ⟨wr.heap.size, 0, none⟩ = some (St x.1) := by simp [go_sem]
              have u1 : (wr.alloc (.cells #[St x.1, U x.2] 97)).cell? ⟨wr.heap.size, 1, none⟩ = some (U x.2) := by simp [go_sem]
              have r0 := hxa.cell s0
              have r1 := hxa.cell s1
              have HS2 := Lib.hid (hS2.ext hxa)
              have HX2 := Lib.hid (hx2.trans hxa)
              have HL2 := Lib.hid hl2
              have HMM := Lib.hid (show mayB l = (match (if okDot p2.getLast? all2 x then runDots (some x) (all2 ++ [x]) q2 else none) with | none => false | some a => mayItems (some it.1) a post) by rw [hm2.out]; rfl)
              have hpd : (p2.length = 0 ∧ p2.getLast? = none) ∨ (0 < p2.length ∧ ∃ q : Dot, p2.getLast? = some q ∧ (wr.alloc (.cells #[St x.1, U x.2] 97)).cell? ⟨b2, o2 + (p2.length - 1) * 2, none⟩ = some (St q.1) ∧ (wr.alloc (.cells #[St x.1, U x.2] 97)).cell? ⟨b2, o2 + (p2.length - 1) * 2 + 1, none⟩ = some (U q.2)) := by
                rcases Nat.eq_zero_or_pos p2.length with h0 | h0
                · exact .inl ⟨h0, by rw [List.eq_nil_of_length_eq_zero h0]; rfl⟩
                · obtain ⟨p', q, e1, e2, e3⟩ := getLast_at h0
                  obtain ⟨b', o', e, q0, q1⟩ := HIN.out p' (x :: q2) q wr hx2 (by rw [hl2, e1]; simp)
                  cases e
                  rw [e3] at q0 q1
                  exact .inr ⟨h0, q, e2, hxa.cell q0, hxa.cell q1⟩
              clear hl2 hS2 hx2 hm2 s0 s1 hxa
              by_cases hd : !x.1.isEmpty && decide (1 ≤ x.2) && decide (x.2 ≤ 281474976710656)
              · obtain ⟨xs, xn⟩ := x
                cases xs with
                | nil => simp at hd
                | cons a r =>
                  simp only [Bool.and_eq_true, decide_eq_true_eq] at hd
                  obtain ⟨⟨-, h1⟩, h2⟩ := hd
                  have kA : decide ((xn : Int) < 1) = false := decide_eq_false (by omega)
                  have kB : decide ((281474976710656 : Int) < (xn : Int)) = false := decide_eq_false (by omega)
                  have kC : ¬ (xn : Int) < 1 := by omega
                  have kD : ¬ (xn : Int) > 281474976710656 := by omega
                  have hwb := wr
                  rcases hpd with ⟨h0, hp⟩ | ⟨h0, q, hp, q0, q1⟩
                  case' inl =>
                    have HOK := Lib.hid (show okDot p2.getLast? all2 (a :: r, xn) = !decide ((a :: r, xn) ∈ all2) by rw [hp]; simp [okDot]; omega)
                    have k0 : ¬ (p2.length : Int) > 0 := by omega
                    have k0n : ¬ 0 < p2.length := by omega
                    clear hp h0
                    go_wp2_with fail
                    generalize wr.alloc (.cells #[St (a :: r), U xn] 97) = W2 at *
                    go_quiet (fail)
                    have hx3 : Ext W2 (W2.drewN nq) := (Ext.refl W2).drewN nq
                    generalize W2.drewN nq = W3 at *
                  case' inr =>
                    have k0 : (p2.length : Int) > 0 := by omega
                    have k4 := pred_index h0 (by omega)
                    have k5 : ((p2.length - 1 : Nat) : Int) < (it.2.length : Int) := by omega
                    have k6 : (0 : Int) ≤ ((p2.length - 1 : Nat) : Int) := by omega
                    have k7 : (((p2.length - 1 : Nat) : Int)).toNat = p2.length - 1 := by omega
                    go_wp2_with fail
                    generalize wr.alloc (.cells #[St (a :: r), U xn] 97) = W2 at *
                    obtain ⟨Wd, hWd⟩ : ∃ Wd, W2.drew = Wd := ⟨_, rfl⟩
                    have hxd : Ext W2 Wd := by rw [← hWd]; exact (Ext.refl W2).drew
                    have u0d := hxd.cell u0
                    have u1d := hxd.cell u1
                    have r1d := hxd.cell r1
                    have q0d := hxd.cell q0
                    have q1d := hxd.cell q1
                    refine wp_region_still_tail 24 (by kernel_rfl) (by kernel_rfl) ?_
                    simp only [List.take_succ_cons, List.take_zero, List.drop_succ_cons, List.drop_zero]
                    change wpStill _ _ W2.drew (fun a' => wpList _ _ _ _ a' W2.drew) _ _
                    rw [hWd]
                    repeat still_step
                    refine wpStill_nil ?_
                    go_wp2_with fail
                    refine (HCMP.out q (a :: r, xn) Wd).mono ?_
                    rintro e W3 ⟨rfl, nq2, os, hgrow⟩
                    have hx3 : Ext W2 W3 := hxd.trans (by rw [hgrow]; exact grow_ext _ _ _)
                    clear hgrow hWd hxd u0d u1d r1d q0d q1d q0 q1 k0 k4 k5 k6 k7
                    obtain ⟨z, hz⟩ : ∃ z, cmpD q (a :: r, xn) = z := ⟨_, rfl⟩
                    rw [hz]
                    by_cases hzn : z < 0
                    case neg =>
                      have HF := Lib.hid (show mayB l = false by
                        rw [HMM.out]
                        have : okDot p2.getLast? all2 (a :: r, xn) = false := by rw [hp]; simp [okDot]; intro _ _ hlt; rw [hz] at hlt; exact absurd hlt hzn
                        rw [this]; rfl)
                      have kz : z ≥ 0 := by omega
                      clear hp hz h0
                      go_wp2_with fail
                      go_ret
                      exact ⟨by rw [HF.out]; rfl, HX2.out.trans hx3⟩
                    case' pos =>
                      have HOK := Lib.hid (show okDot p2.getLast? all2 (a :: r, xn) = !decide ((a :: r, xn) ∈ all2) by rw [hp]; simp [okDot, hz, hzn]; omega)
                      have kz : ¬ z ≥ 0 := by omega
                      clear hp hz h0
                  all_goals
                    have v0 := hx3.cell u0
                    have v1 := hx3.cell u1
                    have w0 := hx3.cell r0
                    have w1 := hx3.cell r1
                    have hS3 := HS2.out.ext hx3
                    have hlk := run_has_SetOf (P := Tryz.prog) Tryz.underlying251 keyOkD zeroUnit hS3 (a :: r, xn)
                    have hx4 := (Ext.refl W3).alloc (.cells #[] 124)
                    by_cases hmem : (a :: r, xn) ∈ all2
                    · have HF := Lib.hid (show mayB l = false by rw [HMM.out, HOK.out]; simp [hmem])
                      simp only [hmem, decide_true] at hlk
                      clear hmem hS3
                      go_wp2_with fail
                      go_ret
                      exact ⟨by rw [HF.out]; rfl, (HX2.out.trans hx3).alloc _⟩
                    · have HF := Lib.hid (show mayB l = (match runDots (p2 ++ [(a :: r, xn)]).getLast? (addK all2 (a :: r, xn)) q2 with | none => false | some a => mayItems (some it.1) a post) by
                        rw [HMM.out, HOK.out]
                        have : addK all2 (a :: r, xn) = all2 ++ [(a :: r, xn)] := by unfold addK; rw [if_neg hmem]
                        rw [this]
                        simp [hmem])
                      simp only [hmem, decide_false] at hlk
                      obtain ⟨w5, hup, hs5, ht5⟩ := run_add_SetOf (P := Tryz.prog) Tryz.underlying251 keyOkD (hS3.ext hx4) (a :: r, xn)
                      have hwa := hS3.lt
                      have HS5 := Lib.hid hs5
                      have v0a := hx4.cell v0
                      have v1a := hx4.cell v1
                      have y0 := ht5.cell (hx4.cell w0) (by omega)
                      have y1 := ht5.cell (hx4.cell w1) (by omega)
                      have HX5 := Lib.hid (((HX2.out.trans hx3).trans hx4).turned ht5 (Nat.le_refl _))
                      clear hmem hS3 hs5 ht5 hx3 hx4
                      go_wp2_with fail
                      go_roundw
                      case rel => exact ⟨p2 ++ [(a :: r, xn)], q2, _, by rw [HL2.out]; simp, by simp, HF, HS5.out, ⟨y0, y1⟩, HX5.out⟩
                      case measure => simp [intOf]; omega
              · have HF := Lib.hid (show mayB l = false by rw [HMM.out]; simp only [okDot, Bool.eq_false_iff.2 hd]; rfl)
                clear HMM hpd HIN HS2
                obtain ⟨xs, xn⟩ := x
                cases xs with
                | nil =>
                  go_wp2_with fail
                  generalize wr.alloc (.cells #[St [], U xn] 97) = W2 at *
                  go_quiet (fail)
                  go_wp2_with fail
                  go_ret
                  exact ⟨by rw [HF.out]; rfl, HX2.out.drewN _⟩
                | cons a r =>
                  by_cases h1 : 1 ≤ xn
                  · have h2 : 281474976710656 < xn := by
                      simp at hd
                      omega
                    have kA : decide ((xn : Int) < 1) = false := decide_eq_false (by omega)
                    have kB : decide ((281474976710656 : Int) < (xn : Int)) = true := decide_eq_true (by omega)
                    clear hd
                    go_wp2_with fail
                    generalize wr.alloc (.cells #[St (a :: r), U xn] 97) = W2 at *
                    go_quiet (fail)
                    go_wp2_with fail
                    go_ret
                    exact ⟨by rw [HF.out]; rfl, HX2.out.drewN _⟩
                  · obtain rfl : xn = 0 := by omega
                    clear hd h1
                    go_wp2_with fail
                    generalize wr.alloc (.cells #[St (a :: r), U 0] 97) = W2 at *
                    go_quiet (fail)
                    go_wp2_with fail
                    go_ret
                    exact ⟨by rw [HF.out]; rfl, HX2.out.drewN _⟩
            | nil =>
              rw [List.append_nil] at hl2
              have hlen2 : it.2.length = p2.length := by rw [hl2]
              have HF := Lib.hid (show mayB l = mayItems ((pre ++ [it]).getLast?.map (·.1)) all2 post by rw [hm2.out]; simp [runDots])
              have HS2 := Lib.hid hS2
              have HX2 := Lib.hid hx2
              clear hl2 hm2 hS2 hx2 s0 s1
              go_wp2_with fail
              go_roundw
              case rel => exact ⟨pre ++ [it], post, all2, by rw [HL.out]; simp, by simp, HF, HS2.out, HX2.out⟩
              case measure => simp [intOf]; omega
      · have HF := Lib.hid (show mayB l = false by rw [HM.out, if_neg hok])
        rcases hprev with ⟨h0, hp⟩ | ⟨h0, q, hp, q0⟩
        · rw [hp] at hok
          have k0 : ¬ (pre.length : Int) > 0 := by omega
          have k0n : ¬ 0 < pre.length := by omega
          by_cases hL : 4096 < it.1.length
          · have k1 : (it.1.length : Int) > 4096 := by omega
            clear hp hok h0
            go_wp2_with fail
            generalize wr.alloc (.cells #[St it.1, .slice A2 it.2.length c2] 96) = W1 at *
            go_quiet (fail)
            go_wp2_with fail
            go_ret
            exact ⟨by rw [HF.out]; rfl, HX.out.drewN _⟩
          · have k1 : ¬ (it.1.length : Int) > 4096 := by omega
            have hE : it.2.length = 0 := by
              unfold okText at hok
              cases h2 : it.2 with
              | nil => rfl
              | cons a r => exact absurd (by simp [h2]; omega) hok
            clear hp hok HIN HM HS h0
            obtain ⟨ts, ds⟩ := it
            obtain rfl : ds = [] := List.eq_nil_of_length_eq_zero hE
            clear hE
            simp only [List.length_nil] at t0 t1 hd1 hc3 HX ⊢
            have k1e : ¬ (ts.length : Int) > 4096 := k1
            have k1d : decide ((4096 : Int) < (List.length ts : Int)) = false := decide_eq_false (by omega)
            clear k1
            go_wp2_with fail
            generalize wr.alloc (.cells #[St ts, .slice A2 0 c2] 96) = W1 at *
            go_quiet (fail)
            go_wp2_with fail
            go_ret
            exact ⟨by rw [HF.out]; rfl, HX.out.drewN _⟩
        · rw [hp] at hok
          have k0 : (pre.length : Int) > 0 := by omega
          have k4 := pred_index h0 (by omega)
          have k5 : ((pre.length - 1 : Nat) : Int) < (l.length : Int) := by omega
          have k6 : (0 : Int) ≤ ((pre.length - 1 : Nat) : Int) := by omega
          have k7 : (((pre.length - 1 : Nat) : Int)).toNat = pre.length - 1 := by omega
          cases hq : ltS q.1 it.1
          · clear hp hok
            go_wp2_with fail
            generalize wr.alloc (.cells #[St it.1, .slice A2 it.2.length c2] 96) = W1 at *
            go_quiet (fail)
            go_wp2_with fail
            go_ret
            exact ⟨by rw [HF.out]; rfl, HX.out.drewN _⟩
          · by_cases hL : 4096 < it.1.length
            · have k1 : (it.1.length : Int) > 4096 := by omega
              clear hp hok
              go_wp2_with fail
              generalize wr.alloc (.cells #[St it.1, .slice A2 it.2.length c2] 96) = W1 at *
              go_quiet (fail)
              go_wp2_with fail
              go_ret
              exact ⟨by rw [HF.out]; rfl, HX.out.drewN _⟩
            · have k1 : ¬ (it.1.length : Int) > 4096 := by omega
              have hE : it.2.length = 0 := by
                unfold okText at hok
                cases h2 : it.2 with
                | nil => rfl
                | cons a r => exact absurd (by simp [h2, hq]; omega) hok
              clear hp hok HIN HM HS
              obtain ⟨ts, ds⟩ := it
              obtain rfl : ds = [] := List.eq_nil_of_length_eq_zero hE
              clear hE
              simp only [List.length_nil] at t0 t1 hd1 hc3 HX ⊢
              have k1e : ¬ (ts.length : Int) > 4096 := k1
              have k1d : decide ((4096 : Int) < (List.length ts : Int)) = false := decide_eq_false (by omega)
              clear k1
              go_wp2_with fail
              generalize wr.alloc (.cells #[St ts, .slice A2 0 c2] 96) = W1 at *
              go_quiet (fail)
              go_wp2_with fail
              go_ret
              exact ⟨by rw [HF.out]; rfl, HX.out.drewN _⟩
    | nil =>
      rw [List.append_nil] at hl
      have hlen : l.length = pre.length := by rw [hl]
      have HF := Lib.hid (show mayB l = true by rw [hm.out]; rfl)
      have HX := Lib.hid hx
      clear hl hm hS hx
      go_wp2_with fail
      go_ret
      exact ⟨by rw [HF.out]; rfl, HX.out⟩
end Go.Proofs.YtdikcgmdmcfpfaaGreat
namespace Go.Proofs.YtdikcgmdmcfpfaaGreat
open Go.RowKit

set_option maxRecDepth 100000 in
set_option maxHeartbeats 400000 in
theorem how_max : HowOk Tryz.prog 227 max where
  enters := enters_of Tryz.func227 (by kernel_rfl) rfl
  does a b W := by
    go_enter Tryz.func227, Tryz.ntmps227
    go_wp2
    go_ret
    exact ⟨by simp [U]; omega, rfl⟩

def addU (a b : Nat) : Nat := (a + b) % 18446744073709551616
set_option maxRecDepth 100000 in
set_option maxHeartbeats 400000 in
theorem how_add : HowOk Tryz.prog 247 addU where
  enters := enters_of Tryz.func247 (by kernel_rfl) rfl
  does a b W := by
    go_enter Tryz.func247, Tryz.ntmps247
    go_wp2
    go_ret
    exact ⟨by simp [U, addU, IntKind.wrap, IntKind.signed, IntKind.bits], rfl⟩
theorem together_any (W : World) : Calls Tryz.prog 214 #[] W fun e w' => e = .returned (.func (.func 247) #[] #[]) ∧ W = w' := by
  go_enter Tryz.func214, Tryz.ntmps214
  go_wp2
  go_ret
  exact ⟨rfl, rfl⟩

def putP (f : Nat → Nat → Nat) (L : List (Str × Nat)) (c : Count) : List (Str × Nat) := putL L c.1 (f (getL 0 L c.1) c.2.1)
def putM (f : Nat → Nat → Nat) (L : List (Str × Nat)) (c : Count) : List (Str × Nat) := putL L c.1 (f (getL 0 L c.1) c.2.2)
def plusOf (cs : List Count) : List (Str × Nat) := cs.foldl (putP max) []
def minusOf (cs : List Count) : List (Str × Nat) := cs.foldl (putM max) []

theorem count_at {w wr : World} {S : Nat → Prop} {A : Option Addr} {n c : Nat} {l pre post : List Count} {m : Count} (h : Sl countT w S (.slice A n c) l) (hb : Ext w wr) (hl : l = pre ++ m :: post) :
    ∃ b o, A = some ⟨b, o, none⟩ ∧ wr.cell? ⟨b, o + pre.length * 3, none⟩ = some (St m.1) ∧ wr.cell? ⟨b, o + pre.length * 3 + 1, none⟩ = some (U m.2.1) ∧ wr.cell? ⟨b, o + pre.length * 3 + 2, none⟩ = some (U m.2.2) := by
  obtain ⟨b, o, vs, c', hv, hS, rfl, hc⟩ := h.at_ hl
  injection hv with e1 e2 e3
  subst e1
  exact ⟨b, o, rfl, hb.cell (hc 0 _ rfl), hb.cell (hc 1 _ rfl), hb.cell (hc 2 _ rfl)⟩
theorem sl_at {α : Type} {T : Shape α} {hk : 0 < T.k} {w wr : World} {S : Nat → Prop} {A : Option Addr} {n c : Nat} {ls pre post : List (List α)} {l : List α} (h : Sl (slT T hk) w S (.slice A n c) ls) (hb : Ext w wr) (hl : ls = pre ++ l :: post) :
    ∃ b o v, A = some ⟨b, o, none⟩ ∧ wr.cell? ⟨b, o + pre.length, none⟩ = some v ∧ Sl T w S v l := by
  obtain ⟨b, o, vs, c', hv, hS, ⟨v, rfl, hv1⟩, hc⟩ := h.at_ hl
  injection hv with e1 e2 e3
  subst e1
  have h0 := hc 0 _ rfl
  simp only [slT, Nat.mul_one, Nat.add_zero] at h0
  exact ⟨b, o, v, rfl, hb.cell h0, hv1⟩

theorem Ext.kept2 {w w1 w2 : World} {p m : Nat} (h : Ext w w1) (k : Kept2 w1 w2 p m) (hp : w.heap.size ≤ p) (hm : w.heap.size ≤ m) : Ext w w2 :=
  ⟨k.os.trans h.os, k.tape.trans h.tape, k.output.trans h.output, Nat.le_trans h.size k.size, fun j hj => (k.other j (Nat.lt_of_lt_of_le hj h.size) (by omega) (by omega)).trans (h.block j hj)⟩
theorem Kept2.cell {w w' : World} {p m b o : Nat} {v : Value} (k : Kept2 w w' p m) (h : w.cell? ⟨b, o, none⟩ = some v) (hp : b ≠ p) (hm : b ≠ m) : w'.cell? ⟨b, o, none⟩ = some v :=
  (World.cell?_of_block (a := ⟨b, o, none⟩) (k.other b (blk_of_cell h) hp hm)).trans h
theorem Kept2.frozen {w w' : World} {p m b o : Nat} (k : Kept2 w w' p m) (hb : b < w.heap.size) (hp : b ≠ p) (hm : b ≠ m) : w'.frozen? ⟨b, o, none⟩ = w.frozen? ⟨b, o, none⟩ := by
  unfold World.frozen?
  simp only []
  rw [k.other b hb hp hm]

/-- the call's two boxes and its two maps, the counts cs having been put -/
structure SumsAt (w W : World) (cs : List Count) : Prop where
  s0 : W.cell? ⟨w.heap.size + 3, 0, none⟩ = some (.map (some (w.heap.size + 1)))
  s1 : W.cell? ⟨w.heap.size + 3, 1, none⟩ = some (.map (some (w.heap.size + 2)))
  r0 : W.cell? ⟨w.heap.size, 0, none⟩ = some (.map none)
  r1 : W.cell? ⟨w.heap.size, 1, none⟩ = some (.map none)
  f0 : W.frozen? ⟨w.heap.size, 0, none⟩ = false
  f1 : W.frozen? ⟨w.heap.size, 1, none⟩ = false
  plus : MapIs St U W (w.heap.size + 1) (plusOf cs)
  minus : MapIs St U W (w.heap.size + 2) (minusOf cs)
  ext : Ext w W
theorem SumsAt.next {w W W' : World} {cs : List Count} (h : SumsAt w W cs) (k : Ext W W') : SumsAt w W' cs :=
  ⟨k.cell h.s0, k.cell h.s1, k.cell h.r0, k.cell h.r1, (k.frozen (blk_of_cell h.r0)).trans h.f0, (k.frozen (blk_of_cell h.r1)).trans h.f1, h.plus.ext k, h.minus.ext k, h.ext.trans k⟩
theorem SumsAt.put {w W W' : World} {cs : List Count} {c : Count} (h : SumsAt w W cs) (hp : MapIs St U W' (w.heap.size + 1) (putP max (plusOf cs) c)) (hm : MapIs St U W' (w.heap.size + 2) (putM max (minusOf cs) c)) (k : Kept2 W W' (w.heap.size + 1) (w.heap.size + 2)) : SumsAt w W' (cs ++ [c]) :=
  ⟨k.cell h.s0 (by omega) (by omega), k.cell h.s1 (by omega) (by omega), k.cell h.r0 (by omega) (by omega), k.cell h.r1 (by omega) (by omega), (k.frozen (blk_of_cell h.r0) (by omega) (by omega)).trans h.f0, (k.frozen (blk_of_cell h.r1) (by omega) (by omega)).trans h.f1,
    by unfold plusOf; rw [List.foldl_append]; exact hp, by unfold minusOf; rw [List.foldl_append]; exact hm, h.ext.kept2 k (by omega) (by omega)⟩

set_option maxRecDepth 100000 in
set_option maxHeartbeats 1000000 in
theorem greatest_any {S : Nat → Prop} {v : Value} {ls : List (List Count)} {w : World} (hv : Sl (slT countT (by decide)) w S v ls) :
    Calls Tryz.prog 185 #[v] w fun e w' => ∃ p m, e = .returned (.agg #[.map (some p), .map (some m)]) ∧ w.heap.size ≤ p ∧ w.heap.size ≤ m ∧ p ≠ m ∧ MapIs St U w' p (plusOf ls.flatten) ∧ MapIs St U w' m (minusOf ls.flatten) ∧ Ext w w' := by
  have hv' := hv
  obtain ⟨A, c, rfl, hc1, hc2⟩ := hv.form
  have HAT := Lib.hid (fun (pre post : List (List Count)) (l : List Count) (wr : World) (h : Ext w wr) (hl : ls = pre ++ l :: post) => sl_at hv' h hl)
  have HP := Lib.hid (fun (c : Count) (W : World) (Lp Lm : List (Str × Nat)) (h1 : MapIs St U W (w.heap.size + 1) Lp) (h2 : MapIs St U W (w.heap.size + 2) Lm) => put_any how_max c h1 h2 (by omega))
  have hmm := @run_makeMap Tryz.prog
  clear hv hv'
  go_enter Tryz.func185, Tryz.ntmps185
  go_wp2_with fail
  go_loopw [14] (fun i wr => ∃ pre post, ls = pre ++ post ∧ i = I pre.length ∧ SumsAt w wr pre.flatten) (fun i _ => ls.length - (intOf i).toNat)
  case atStart =>
    refine ⟨[], ls, rfl, rfl, ?_⟩
    have h1 := MapIs.new (κ := Str) (ν := Nat) (K := St) (V := U) (w.alloc (.cells #[.map none, .map none] 225))
    have h2 := MapIs.new (κ := Str) (ν := Nat) (K := St) (V := U) ((w.alloc (.cells #[.map none, .map none] 225)).alloc (.map #[] 0))
    simp only [World.size_alloc] at h1 h2
    exact ⟨by simp [go_sem], by simp [go_sem], by simp [go_sem], by simp [go_sem], by simp [go_sem], by simp [go_sem], (h1.ext ((Ext.refl _).alloc _)).ext ((Ext.refl _).alloc _), h2.ext ((Ext.refl _).alloc _), ((((Ext.refl w).alloc _).alloc _).alloc _).alloc _⟩
  case round =>
    obtain ⟨pre, post, hl, rfl, hS⟩ := hrel
    cases post with
    | cons l post =>
      obtain ⟨b, o, vl, rfl, hd, hsl⟩ := HAT.out pre post l wr hS.ext hl
      have hlt : pre.length < ls.length := by rw [hl]; simp
      have hsl' := hsl
      obtain ⟨A2, c2, rfl, hc3, hc4⟩ := hsl.form
      have HL := Lib.hid hl
      have HS := Lib.hid hS
      have HIN := Lib.hid (fun (pre post : List Count) (x : Count) (wr' : World) (h : Ext w wr') (hl : l = pre ++ x :: post) => count_at hsl' h hl)
      clear hl hS hsl hsl'
      go_wp2_with fail
      go_loopw [20] (fun j wr2 => ∃ p2 q2, l = p2 ++ q2 ∧ j = I p2.length ∧ SumsAt w wr2 (pre.flatten ++ p2)) (fun j _ => l.length - (intOf j).toNat)
      case atStart => exact ⟨[], l, rfl, rfl, by simpa using HS.out⟩
      case round =>
        obtain ⟨p2, q2, hl2, rfl, hS2⟩ := hrel
        cases q2 with
        | cons x q2 =>
          obtain ⟨b2, o2, rfl, e0, e1, e2⟩ := HIN.out p2 q2 x wr hS2.ext hl2
          have hlt2 : p2.length < l.length := by rw [hl2]; simp
          have hx2 := (Ext.refl wr).alloc (.cells #[St x.1, U x.2.1, U x.2.2] 93)
          have HS2 := Lib.hid (hS2.next hx2)
          obtain ⟨s0, s1, r0, r1, f0, f1, hp, hm, hx⟩ := hS2.next hx2
          have HPX := Lib.hid (HP.out x _ _ _ hp hm)
          have t0 := s0
          have t1 := s1
          obtain ⟨s0, s1, r0, r1, f0, f1, hp', hm', hx'⟩ := hS2
          have HL2 := Lib.hid hl2
          clear hl2 hp hm hx hp' hm' hx'
          go_wp2_with fail
          refine HPX.out.mono ?_
          rintro e wp ⟨rfl, hpp, hpm, hpk⟩
          have HS3 := Lib.hid (HS2.out.put hpp hpm hpk)
          go_wp2
          go_roundw
          case rel => exact ⟨p2 ++ [x], q2, by rw [HL2.out]; simp, by simp, by rw [← List.append_assoc]; exact HS3.out⟩
          case measure => simp [intOf]; omega
        | nil =>
          rw [List.append_nil] at hl2
          subst hl2
          have HS2 := Lib.hid hS2
          clear hS2
          go_wp2_with fail
          go_roundw
          case rel => exact ⟨pre ++ [l], post, by rw [HL.out]; simp, by simp, by simpa using HS2.out⟩
          case measure => simp [intOf]; omega
    | nil =>
      rw [List.append_nil] at hl
      subst hl
      obtain ⟨s0, s1, r0, r1, f0, f1, hp, hm, hx⟩ := hS
      have HP2 := Lib.hid hp
      have HM2 := Lib.hid hm
      have HX := Lib.hid hx
      clear hp hm hx
      go_wp2_with fail
      (try simp only [Exit.inBlock, Exit.then])
      refine bodyPost_ret (v := .agg #[.map (some (w.heap.size + 1)), .map (some (w.heap.size + 2))]) (by simp [results, Tryz.f185, go_sem, r0, r1]) rfl ?_
      refine ⟨w.heap.size + 1, w.heap.size + 2, rfl, by omega, by omega, by omega, ?_, ?_, (HX.out.set (by simp) _).set (by simp) _⟩
      · exact HP2.out.keep (by rw [Below.heap_setCell _ _ _ _ (by simp), Below.heap_setCell _ _ _ _ (by simp)])
      · exact HM2.out.keep (by rw [Below.heap_setCell _ _ _ _ (by simp), Below.heap_setCell _ _ _ _ (by simp)])
end Go.Proofs.YtdikcgmdmcfpfaaGreat
namespace Go.Proofs.YtdikcgmdmcfpfaaGreat
open Go.RowKit

def subU (a b : Nat) : Nat := (a + (18446744073709551616 - b % 18446744073709551616)) % 18446744073709551616
theorem wrap_u64 (x : Int) : IntKind.u64.wrap x = x % 18446744073709551616 := by simp [IntKind.wrap, IntKind.signed, IntKind.bits]
theorem wrap_add_sub (t a b : Nat) : Value.int .u64 (IntKind.u64.wrap ((t : Int) + IntKind.u64.wrap ((a : Int) - b))) = U (addU t (subU a b)) := by
  unfold U addU subU
  rw [wrap_u64, wrap_u64]
  congr 1
  omega
def sumStep (Lm : List (Str × Nat)) (t : Nat) (p : Str × Nat) : Nat := addU t (subU p.2 (getL 0 Lm p.1))
def sumL (Lp Lm : List (Str × Nat)) : Nat := Lp.foldl (sumStep Lm) 0
theorem sumL_perm {A B Lm : List (Str × Nat)} (h : A.Perm B) : sumL A Lm = sumL B Lm := by
  unfold sumL
  refine h.foldl_eq' (fun x _ y _ z => ?_) 0
  unfold sumStep addU
  omega
theorem sumL_snoc (A Lm : List (Str × Nat)) (p : Str × Nat) : sumL (A ++ [p]) Lm = sumStep Lm (sumL A Lm) p := by simp [sumL]

set_option maxRecDepth 100000 in
set_option maxHeartbeats 1000000 in
theorem value_any {p m : Nat} {Lp Lm : List (Str × Nat)} {w : World} (hp : MapIs St U w p Lp) (hm : MapIs St U w m Lm) :
    Calls Tryz.prog 217 #[.agg #[.map (some p), .map (some m)]] w fun e w' => e = .returned (I (wrap64 (sumL Lp Lm))) ∧ Ext w w' := by
  have hx0 := (Ext.refl w).alloc (.cells #[.map (some p), .map (some m)] 225)
  obtain ⟨W1, hr, hR, hx1, hsz⟩ := run_range_MapIs (P := Tryz.prog) Tryz.underlying223 (hp.ext hx0)
  have HR := Lib.hid hR
  have HX := Lib.hid (hx0.trans hx1)
  have HM := Lib.hid hm
  have HP := Lib.hid hp
  have c0 : W1.cell? ⟨w.heap.size, 0, none⟩ = some (.map (some p)) := hx1.cell (by simp [go_sem])
  have c1 : W1.cell? ⟨w.heap.size, 1, none⟩ = some (.map (some m)) := hx1.cell (by simp [go_sem])
  clear hR hx1 hm hp
  rw [World.size_alloc] at hr
  go_enter Tryz.func217, Tryz.ntmps217
  go_wp2_with fail
  go_loopw [3] (fun t wr => ∃ done rest, t = U (sumL done Lm) ∧ (done ++ rest).Perm Lp ∧ RangeIs St U wr p (w.heap.size + 1) Lp rest ∧ (wr.cell? ⟨w.heap.size, 0, none⟩ = some (.map (some p)) ∧ wr.cell? ⟨w.heap.size, 1, none⟩ = some (.map (some m))) ∧ Ext w wr) (fun _ wr => wr.rangeLeft p (w.heap.size + 1))
  case atStart => exact ⟨[], Lp, rfl, .refl _, by have := HR.out; rwa [World.size_alloc] at this, ⟨c0, c1⟩, HX.out⟩
  case round =>
    obtain ⟨done, rest, rfl, hperm, hR, ⟨b0, b1⟩, hx⟩ := hrel
    have hm1 := HM.out.ext hx
    have hmr : m ≠ w.heap.size + 1 := by have := HM.out.lt; omega
    rcases run_next_MapIs (P := Tryz.prog) 0 hR with ⟨rfl, hrun⟩ | ⟨r1, q, r2, wn, rfl, hrun, hR2, ht, hent⟩
    · have hnx : ∀ ty, (Instr.next (.pointer (some ⟨w.heap.size + 1, 0, none⟩)) false ty).run Tryz.prog wr = .ok (.tuple #[.bool false]) wr := fun ty => hrun
      have HV := Lib.hid (sumL_perm (Lm := Lm) hperm)
      clear hperm hR hrun
      rw [List.append_nil] at HV
      go_wp2_with fail
      go_ret
      exact ⟨by rw [← HV.out]; rfl, hx⟩
    · have hnx : ∀ ty, (Instr.next (.pointer (some ⟨w.heap.size + 1, 0, none⟩)) false ty).run Tryz.prog wr = .ok (.tuple #[.bool true, St q.1, U q.2]) wn := fun ty => hrun
      have b0n := ht.cell b0 (by omega)
      have b1n := ht.cell b1 (by omega)
      have hlk := look_str (hm1.turned ht hmr) q.1
      have HML := Lib.hid hR.left_eq
      have HMR := Lib.hid hR2.left_eq
      have HR2 := Lib.hid hR2
      have HPM := Lib.hid hperm
      have HT := Lib.hid (hx.turned ht (by omega))
      clear hperm hR hrun hR2 hm1 hx ht
      go_wp2_with fail
      go_roundw
      case rel => exact ⟨done ++ [q], r1 ++ r2, (by rw [sumL_snoc, sumStep]; exact wrap_add_sub _ _ _), (by rw [List.append_assoc]; exact ((List.perm_middle (l₁ := r1) (a := q) (l₂ := r2)).symm.append_left done).trans HPM.out), HR2.out, ⟨b0n, b1n⟩, HT.out⟩
      case measure => rw [HML.out, HMR.out]; simp

def valueL (cs : List Count) : Int := wrap64 (sumL (plusOf cs) (minusOf cs))

theorem sl_one {α : Type} {T : Shape α} {hk : 0 < T.k} {w : World} {S : Nat → Prop} {v : Value} {l : List α} (t : TypeId) (h : Sl T w S v l) : Sl (slT T hk) (w.alloc (.cells #[v] t)) (fun b => S b ∨ b = w.heap.size) (.slice (some ⟨w.heap.size, 0, none⟩) 1 1) [l] :=
  ⟨_, 1, rfl, Nat.le_refl _, by omega, fun pre x post hl => by
    cases pre with
    | nil =>
      simp at hl
      obtain ⟨rfl, -⟩ := hl
      exact ⟨_, 0, [v], rfl, .inr rfl, ⟨v, rfl, (h.ext hk ((Ext.refl w).alloc _)).mono hk (fun b _ hb => .inl hb)⟩, fun j u hj => by
        rw [cell_of_row _ w.heap.size _ #[v] t (0, 0) (Go.heap_alloc_new w _)]
        simpa using hj⟩
    | cons a r => simp at hl⟩

set_option maxRecDepth 100000 in
set_option maxHeartbeats 400000 in
theorem counterValue_any {S : Nat → Prop} {v : Value} {l : List Count} {w : World} (hv : Sl countT w S v l) :
    Calls Tryz.prog 147 #[v] w fun e w' => e = .returned (I (valueL l)) ∧ Ext w w' := by
  have H1 := Lib.hid (greatest_any (sl_one 32 hv))
  have H2 := Lib.hid (fun (p m : Nat) (Lp Lm : List (Str × Nat)) (w : World) => @value_any p m Lp Lm w)
  obtain ⟨A, c, rfl, -, -⟩ := hv.form
  have hx0 := (Ext.refl w).alloc (.cells #[.slice A l.length c] 32)
  clear hv
  go_enter Tryz.func147, Tryz.ntmps147
  go_wp2_with fail
  refine H1.out.mono ?_
  rintro e w1 ⟨p, m, rfl, -, -, -, hp, hm, hx⟩
  have H3 := Lib.hid (H2.out _ _ _ _ _ hp hm)
  clear hp hm
  go_wp2_with fail
  refine H3.out.mono ?_
  rintro e w2 ⟨rfl, hx2⟩
  go_wp2
  go_ret
  exact ⟨by simp [valueL], (hx0.trans hx).trans hx2⟩
end Go.Proofs.YtdikcgmdmcfpfaaGreat
namespace Go.Proofs
open Go.Shelf
def Tryz.lays190_ren : Go.Shelf.Ren := ⟨fun | 190 => 56 | 125 => 111 | 258 => 110 | 128 => 203 | 129 => 204 | 302 => 195 | 303 => 196 | 304 => 197 | 305 => 198 | 306 => 199 | 307 => 200 | 308 => 137 | 309 => 201 | 310 => 202 | 333 => 241 | 329 => 242 | 330 => 243 | 334 => 244 | 335 => 245 | 336 => 212 | 344 => 264 | n => n, fun | 31 => 28 | 9 => 9 | 3 => 3 | 46 => 161 | 0 => 0 | 51 => 249 | 53 => 23 | 4 => 4 | 183 => 243 | 182 => 242 | 131 => 101 | 5 => 5 | 218 => 286 | 222 => 290 | 228 => 301 | 229 => 262 | n => n, fun | n => n⟩
theorem Tryz.lays190 : Go.Proofs.Lays.n190 Tryz.prog Tryz.lays190_ren := {
  mixed := by kernel_rfl
  f125 := Tryz.func111.trans (congrArg some (by kernel_rfl))
  f128 := Tryz.func203.trans (congrArg some (by kernel_rfl))
  f129 := Tryz.func204.trans (congrArg some (by kernel_rfl))
  f190 := Tryz.func56.trans (congrArg some (by kernel_rfl))
  f258 := Tryz.func110.trans (congrArg some (by kernel_rfl))
  f302 := Tryz.func195.trans (congrArg some (by kernel_rfl))
  f303 := Tryz.func196.trans (congrArg some (by kernel_rfl))
  f304 := Tryz.func197.trans (congrArg some (by kernel_rfl))
  f305 := Tryz.func198.trans (congrArg some (by kernel_rfl))
  f306 := Tryz.func199.trans (congrArg some (by kernel_rfl))
  f307 := Tryz.func200.trans (congrArg some (by kernel_rfl))
  f308 := Tryz.func137.trans (congrArg some (by kernel_rfl))
  f309 := Tryz.func201.trans (congrArg some (by kernel_rfl))
  f310 := Tryz.func202.trans (congrArg some (by kernel_rfl))
  f329 := Tryz.func242.trans (congrArg some (by kernel_rfl))
  f330 := Tryz.func243.trans (congrArg some (by kernel_rfl))
  f333 := Tryz.func241.trans (congrArg some (by kernel_rfl))
  f334 := Tryz.func244.trans (congrArg some (by kernel_rfl))
  f335 := Tryz.func245.trans (congrArg some (by kernel_rfl))
  f336 := Tryz.func212.trans (congrArg some (by kernel_rfl))
  f344 := Tryz.func264.trans (congrArg some (by kernel_rfl))
  t0 := Tryz.underlying0
  a0 := Tryz.isAgg0
  z0 := Tryz.sizeOf0
  v0 := Tryz.zeroValue0
  t3 := Tryz.underlying3
  a3 := Tryz.isAgg3
  z3 := Tryz.sizeOf3
  v3 := Tryz.zeroValue3
  t4 := Tryz.underlying4
  a4 := Tryz.isAgg4
  z4 := Tryz.sizeOf4
  v4 := Tryz.zeroValue4
  t5 := Tryz.underlying5
  a5 := Tryz.isAgg5
  z5 := Tryz.sizeOf5
  v5 := Tryz.zeroValue5
  t9 := Tryz.underlying9
  a9 := Tryz.isAgg9
  z9 := Tryz.sizeOf9
  v9 := Tryz.zeroValue9
  t31 := Tryz.underlying28
  a31 := Tryz.isAgg28
  z31 := Tryz.sizeOf28
  v31 := Tryz.zeroValue28
  t46 := Tryz.underlying161
  a46 := Tryz.isAgg161
  z46 := Tryz.sizeOf161
  v46 := Tryz.zeroValue161
  t51 := Tryz.underlying249
  a51 := Tryz.isAgg249
  z51 := Tryz.sizeOf249
  v51 := Tryz.zeroValue249
  t53 := Tryz.underlying23
  a53 := Tryz.isAgg23
  z53 := Tryz.sizeOf23
  v53 := Tryz.zeroValue23
  t131 := Tryz.underlying101
  a131 := Tryz.isAgg101
  z131 := Tryz.sizeOf101
  v131 := Tryz.zeroValue101
  t182 := Tryz.underlying242
  a182 := Tryz.isAgg242
  z182 := Tryz.sizeOf242
  v182 := Tryz.zeroValue242
  t183 := Tryz.underlying243
  a183 := Tryz.isAgg243
  z183 := Tryz.sizeOf243
  v183 := Tryz.zeroValue243
  t218 := Tryz.underlying286
  a218 := Tryz.isAgg286
  z218 := Tryz.sizeOf286
  v218 := Tryz.zeroValue286
  t222 := Tryz.underlying290
  a222 := Tryz.isAgg290
  z222 := Tryz.sizeOf290
  v222 := Tryz.zeroValue290
  t228 := Tryz.underlying301
  a228 := Tryz.isAgg301
  z228 := Tryz.sizeOf301
  v228 := Tryz.zeroValue301
  t229 := Tryz.underlying262
  a229 := Tryz.isAgg262
  z229 := Tryz.sizeOf262
  v229 := Tryz.zeroValue262 }
end Go.Proofs
namespace Go.Proofs.YtdikcgmdmcfpfaaGreat
open Go.RowKit Go.Sort

def sortS (l : List Str) : List Str := l.mergeSort fun x y => decide (x ≤ y)
theorem sortS_len (l : List Str) : (sortS l).length = l.length := List.length_mergeSort _

theorem putRow_enc {α : Type} [Inhabited α] (enc : α → Value) (w : World) (g : Nat) (d : Array α) : putRow enc w g 0 d = putRow id w g 0 (d.map enc) := by
  unfold putRow
  congr 1
  funext cs
  unfold putCells
  apply Array.ext_getElem?
  intro i
  rw [Array.getElem?_mapIdx, Array.getElem?_mapIdx]
  cases cs[i]? with
  | none => rfl
  | some u =>
    by_cases hi : i < d.size
    · simp [hi, getElem!_pos d i hi, getElem!_pos (d.map enc) i (by simpa using hi)]
    · simp [hi]

theorem strC_flat (l : List Str) : l.flatMap strC = l.map St := by
  induction l with
  | nil => rfl
  | cons a r ih => simp [strC, ih]

theorem sortS_any {v : Value} {l : List Str} {w : World} {base : Nat} (hv : Own w base 9 1 v l.length (l.flatMap strC)) (hl : l.length ≤ 1099511627776) :
    Calls Tryz.prog 56 #[v] w fun e w' => e = .returned (.tuple #[]) ∧ Own w' base 9 1 v (sortS l).length ((sortS l).flatMap strC) ∧ Go.RowKit.Below base w w' := by
  rcases Nat.eq_zero_or_pos l.length with h0 | h0
  · obtain rfl : l = [] := List.eq_nil_of_length_eq_zero h0
    obtain ⟨A, c, rfl, -, -⟩ := hv.form
    have hcon := Any.slices_Sort_string_none Tryz.lays190 A c w
    exact Calls.mono hcon fun e w' ⟨he, hw⟩ => ⟨he, by rw [hw]; simpa [sortS] using hv, by rw [hw]; exact Below.refl _ _⟩
  · obtain ⟨gb, cap, tail, rfl, hgb, hrow, hnc, hcm, hcl⟩ := hv.row h0
    have hrow1 : RowIs w gb 9 (l.toArray.map St).toList tail := by simpa [strC_flat] using hrow
    have hH0 := holds_row hrow1
    have hH : Holds encStr w gb 0 l.toArray := fun j hj => by
      have := hH0 j (by simpa using hj)
      rw [getElem!_pos (l.toArray.map St) j (by simpa using hj)] at this
      rw [getElem!_pos l.toArray j hj]
      simpa [encStr] using this
    have hcon := Any.slices_Sort_string Tryz.lays190 gb 0 cap l w hH hrow.lt (by omega)
    refine Calls.mono hcon ?_
    rintro e w' ⟨rfl, n, os, rfl⟩
    have h1 : RowIs (putRow id (Sort.ahead w n) gb 0 ((sortS l).toArray.map St)) gb 9 ((sortS l).toArray.map St).toList tail := putRow_row (w := Sort.ahead w n) hrow1 _ (by simp [sortS_len])
    have hrw : putRow encStr (Sort.ahead w n) gb 0 (l.mergeSort fun x y => decide (x ≤ y)).toArray = putRow id (Sort.ahead w n) gb 0 ((sortS l).toArray.map St) := putRow_enc _ _ _ _
    rw [hrw]
    have hgs : gb < (putRow id (Sort.ahead w n) gb 0 ((sortS l).toArray.map St)).heap.size := h1.lt
    have h2 : RowIs (grow (putRow id (Sort.ahead w n) gb 0 ((sortS l).toArray.map St)) os) gb 9 ((sortS l).flatMap strC) tail := by
      unfold RowIs at h1 ⊢
      unfold grow
      rw [Array.getElem?_append_left hgs, h1]
      simp [strC_flat]
    refine ⟨rfl, ?_, ?_⟩
    · have hlen : (sortS l).length = l.length := sortS_len l
      rw [hlen]
      refine h2.own hgb hnc hcm ?_ ?_ ?_
      · simp [strC_flat, hlen] at hcl ⊢; omega
      · rw [strC_flat, List.take_of_length_le (by simp [hlen])]
      · simp [strC_flat, hlen]
    · have h3 := below_putRow (w := Sort.ahead w n) hgb ((sortS l).toArray.map St)
      exact ⟨h3.os, h3.tape, h3.output, Nat.le_trans h3.size (by simp), fun j hj => by
        unfold grow
        rw [Array.getElem?_append_left (by have := hrow.lt; simp [Sort.ahead]; omega)]
        exact h3.block j hj⟩
end Go.Proofs.YtdikcgmdmcfpfaaGreat
namespace Go.Proofs.YtdikcgmdmcfpfaaGreat
open Go.RowKit

set_option maxRecDepth 100000 in
set_option maxHeartbeats 400000 in
theorem collectS_any {p B : Nat} {L : List (Str × Nat)} {w : World} (hB : w.cell? ⟨B, 0, none⟩ = some (.map (some p))) (hm : MapIs St U w p L) (hL : L.length ≤ 1099511627776) :
    Calls Tryz.prog 258 #[.func (.func 259) #[] #[.pointer (some ⟨B, 0, none⟩)]] w fun e w' =>
      ∃ (v' : Value) (ys : List Str), e = .returned v' ∧ ys.Perm (L.map Prod.fst) ∧ Own w' w.heap.size 9 1 v' ys.length (ys.flatMap strC) ∧ Ext w w' := by
  have H := Lib.hid (appendSeqS_any hB hm hL)
  clear hB hm
  go_enter Tryz.func258, Tryz.ntmps258
  go_wp2_with fail
  refine H.out.mono ?_
  rintro e w1 ⟨v', ys, rfl, hp, hv, hx⟩
  have HV := Lib.hid hv
  have HP := Lib.hid hp
  clear hv hp
  go_wp2_with fail
  go_ret
  exact ⟨_, ys, rfl, HP.out, HV.out, hx⟩

set_option maxRecDepth 100000 in
set_option maxHeartbeats 400000 in
theorem sortedS_any {p B : Nat} {L : List (Str × Nat)} {w : World} (hB : w.cell? ⟨B, 0, none⟩ = some (.map (some p))) (hm : MapIs St U w p L) (hL : L.length ≤ 1099511627776) :
    Calls Tryz.prog 228 #[.func (.func 259) #[] #[.pointer (some ⟨B, 0, none⟩)]] w fun e w' =>
      ∃ (v' : Value) (ys : List Str), e = .returned v' ∧ ys.Perm (L.map Prod.fst) ∧ Own w' w.heap.size 9 1 v' (sortS ys).length ((sortS ys).flatMap strC) ∧ Ext w w' := by
  have H := Lib.hid (collectS_any hB hm hL)
  clear hB hm
  go_enter Tryz.func228, Tryz.ntmps228
  go_wp2_with fail
  refine H.out.mono ?_
  rintro e w1 ⟨v', ys, rfl, hp, hv, hx⟩
  have H2 := Lib.hid (sortS_any hv (by have := hp.length_eq; simp at this; omega))
  have HP := Lib.hid hp
  clear hv hp
  go_wp2_with fail
  refine H2.out.mono ?_
  rintro e w2 ⟨rfl, hv2, hx2⟩
  have HV := Lib.hid hv2
  clear hv2
  go_wp2_with fail
  go_ret
  exact ⟨_, ys, rfl, HP.out, HV.out, Below.trans hx hx2⟩
end Go.Proofs.YtdikcgmdmcfpfaaGreat
namespace Go.Proofs.YtdikcgmdmcfpfaaGreat

theorem lt_ltS : ∀ a b : Str, (a < b) ↔ ltS a b = true
  | [], [] => by simp [ltS, Op.bytesLess]
  | [], _ :: _ => by simp [ltS, Op.bytesLess]
  | _ :: _, [] => by simp [ltS, Op.bytesLess]
  | a :: x, b :: y => by
    rw [List.cons_lt_cons_iff, lt_ltS x y]
    simp [ltS, Op.bytesLess]
theorem le_leS (a b : Str) : (a ≤ b) ↔ ltS b a = false := by
  rw [← List.not_lt, lt_ltS]
  simp
theorem sortS_pairwise (l : List Str) : (sortS l).Pairwise (fun a b => ltS b a = false) := by
  have h := List.pairwise_mergeSort (le := fun x y : Str => decide (x ≤ y)) (fun a b c h1 h2 => by
      simp only [decide_eq_true_eq, le_leS] at *
      rcases ltS_tri c a with h | rfl | h
      · rcases ltS_tri a b with h3 | rfl | h3
        · have := ltS_trans h h3; rw [this] at h2; cases h2
        · rw [h] at h2; cases h2
        · rw [h3] at h1; cases h1
      · exact ltS_irrefl _
      · exact ltS_asymm h) (fun a b => by
      simp only [Bool.or_eq_true, decide_eq_true_eq, le_leS]
      rcases ltS_tri a b with h | rfl | h
      · exact .inl (ltS_asymm h)
      · exact .inl (ltS_irrefl _)
      · exact .inr (ltS_asymm h)) l
  refine h.imp fun {a b} hab => ?_
  simpa only [decide_eq_true_eq, le_leS] using hab
theorem sortS_perm_self (l : List Str) : (sortS l).Perm l := List.mergeSort_perm _ _
theorem ltS_anti {a b : Str} (h1 : ltS a b = false) (h2 : ltS b a = false) : a = b := by
  rcases ltS_tri a b with h | h | h
  · rw [h] at h1; cases h1
  · exact h
  · rw [h] at h2; cases h2
theorem sortS_perm {A B : List Str} (h : A.Perm B) : sortS A = sortS B :=
  sorted_unique (lt := ltS) (fun _ _ h1 h2 => ltS_anti h1 h2) (((sortS_perm_self A).trans h).trans (sortS_perm_self B).symm) (sortS_pairwise A) (sortS_pairwise B)
end Go.Proofs.YtdikcgmdmcfpfaaGreat
namespace Go.Proofs.YtdikcgmdmcfpfaaGreat
open Go.RowKit

def listFrom (Lp Lm : List (Str × Nat)) (ks : List Str) : List Count := (ks.filter fun k => getL 0 Lp k != 0 || getL 0 Lm k != 0).map fun k => (k, getL 0 Lp k, getL 0 Lm k)
def listL (Lp Lm : List (Str × Nat)) : List Count := listFrom Lp Lm (sortS (Lp.map Prod.fst))
theorem listFrom_len (Lp Lm : List (Str × Nat)) (ks : List Str) : (listFrom Lp Lm ks).length ≤ ks.length := by
  unfold listFrom
  rw [List.length_map]
  exact List.length_filter_le _ _

theorem own_slStr {tid base : Nat} {v : Value} {l : List Str} {w : World} (h : Own w base tid 1 v l.length (l.flatMap strC)) : Sl strT w (fun b => base ≤ b) v l :=
  (OwnL.flat_iff (S := fun b => base ≤ b).2 h).sl (by decide) (fun _ _ h => h) (fun _ h _ => h)
theorem str_at {w wr : World} {S : Nat → Prop} {A : Option Addr} {n c : Nat} {l pre post : List Str} {m : Str} (h : Sl strT w S (.slice A n c) l) (hb : Ext w wr) (hl : l = pre ++ m :: post) :
    ∃ b o, A = some ⟨b, o, none⟩ ∧ wr.cell? ⟨b, o + pre.length, none⟩ = some (St m) := by
  obtain ⟨b, o, vs, c', hv, hS, rfl, hc⟩ := h.at_ hl
  injection hv with e1 e2 e3
  subst e1
  have h0 : w.cell? ⟨b, o + pre.length * 1 + 0, none⟩ = some (St m) := hc 0 _ rfl
  rw [Nat.mul_one, Nat.add_zero] at h0
  exact ⟨b, o, rfl, hb.cell h0⟩

set_option maxRecDepth 100000 in
set_option maxHeartbeats 1000000 in
theorem list_any {p m : Nat} {Lp Lm : List (Str × Nat)} {w : World} (hp : MapIs St U w p Lp) (hm : MapIs St U w m Lm) (hL : Lp.length ≤ 1099511627776) :
    Calls Tryz.prog 186 #[.agg #[.map (some p), .map (some m)]] w fun e w' => ∃ v', e = .returned v' ∧ Own w' w.heap.size 93 3 v' (listL Lp Lm).length ((listL Lp Lm).flatMap countC) ∧ Ext w w' := by
  obtain ⟨W1, hW1⟩ : ∃ W1, w.alloc (.cells #[.map (some p), .map (some m)] 225) = W1 := ⟨_, rfl⟩
  have hx1 : Ext w W1 := by rw [← hW1]; exact (Ext.refl w).alloc _
  have c0 : W1.cell? ⟨w.heap.size, 0, none⟩ = some (.map (some p)) := by rw [← hW1]; simp [go_sem]
  have c1 : W1.cell? ⟨w.heap.size, 1, none⟩ = some (.map (some m)) := by rw [← hW1]; simp [go_sem]
  have HK := Lib.hid (keysS_any p W1)
  have hxk := (Ext.refl W1).alloc (.cells #[.map (some p)] 223)
  have HS := Lib.hid (sortedS_any (B := W1.heap.size) (by simp [go_sem]) ((hp.ext hx1).ext hxk) hL)
  have HP := Lib.hid hp
  have HM := Lib.hid hm
  clear hp hm
  go_enter Tryz.func186, Tryz.ntmps186
  go_wp2_with fail
  refine HK.out.mono ?_
  rintro e wk ⟨rfl, rfl⟩
  go_wp2_with fail
  refine HS.out.mono ?_
  rintro e W2 ⟨vk, ys, rfl, hperm, hks, hx2⟩
  rw [sortS_perm hperm] at hks
  have hkl : (sortS (Lp.map Prod.fst)).length = Lp.length := by rw [sortS_len]; simp
  have HLL := Lib.hid (show listL Lp Lm = listFrom Lp Lm (sortS (Lp.map Prod.fst)) from rfl)
  generalize sortS (Lp.map Prod.fst) = ks at *
  have hw2 : Ext w W2 := (hx1.trans hxk).trans hx2
  have d0 := hx2.cell (hxk.cell c0)
  have d1 := hx2.cell (hxk.cell c1)
  have hsl := own_slStr hks
  obtain ⟨A, c, rfl, hc1, hc2⟩ := hsl.form
  have HW2 := Lib.hid hw2
  have HAT := Lib.hid (fun (pre post : List Str) (x : Str) (wr : World) (h : Ext W2 wr) (hl : ks = pre ++ x :: post) => str_at hsl h hl)
  clear hks hsl hperm hw2 hx2 hxk
  go_wp2_with fail
  go_loopw [3, 11] (fun l i wr => ∃ pre post, ks = pre ++ post ∧ i = I pre.length ∧ Own wr W2.heap.size 93 3 l (listFrom Lp Lm pre).length ((listFrom Lp Lm pre).flatMap countC) ∧ Ext W2 wr) (fun _ i _ => ks.length - (intOf i).toNat)
  case atStart => exact ⟨[], ks, rfl, rfl, Own.nil _ _ _ _ _, Ext.refl _⟩
  case round =>
    obtain ⟨pre, post, hl, rfl, hown, hx⟩ := hrel
    have b0 := hx.cell d0
    have b1 := hx.cell d1
    cases post with
    | cons k post =>
      obtain ⟨bk, ok, rfl, hd⟩ := HAT.out pre post k wr hx hl
      have hlt : pre.length < ks.length := by rw [hl]; simp
      have hlp := look_str (HP.out.ext (HW2.out.trans hx)) k
      have hlm := look_str (HM.out.ext (HW2.out.trans hx)) k
      have hll := listFrom_len Lp Lm pre
      have HL := Lib.hid hl
      have HO := Lib.hid hown
      have HX := Lib.hid hx
      have hn3 := hx.size
      clear hl hx
      by_cases hz : getL 0 Lp k = 0 ∧ getL 0 Lm k = 0
      · have HF := Lib.hid (show listFrom Lp Lm (pre ++ [k]) = listFrom Lp Lm pre by simp [listFrom, List.filter_append, hz.1, hz.2])
        rw [hz.1] at hlp
        rw [hz.2] at hlm
        clear hz hown
        go_wp2_with fail
        go_roundw
        case rel => exact ⟨pre ++ [k], post, by rw [HL.out]; simp, by simp, by rw [HF.out]; exact HO.out, HX.out⟩
        case measure => simp [intOf]; omega
      · have HF := Lib.hid (show listFrom Lp Lm (pre ++ [k]) = listFrom Lp Lm pre ++ [(k, getL 0 Lp k, getL 0 Lm k)] by
          have hb : (getL 0 Lp k != 0 || getL 0 Lm k != 0) = true := by
            by_cases h1 : getL 0 Lp k = 0
            · have : getL 0 Lm k ≠ 0 := fun h2 => hz ⟨h1, h2⟩
              simp [this]
            · simp [h1]
          simp [listFrom, List.filter_append, hb])
        by_cases h1 : getL 0 Lp k = 0
        · have h2 : getL 0 Lm k ≠ 0 := fun h2 => hz ⟨h1, h2⟩
          have h2' : (((getL 0 Lm k : Nat) : Int) == 0) = false := by rw [beq_eq_false_iff_ne]; omega
          rw [h1] at hlp HF
          clear hz h1 h2
          go_wp2_with (at_builtin; refine wpList_append_Own rfl (.tmp 27) (.tmp 38) 32 rfl W2.heap.size 93 3 32 (.agg #[St [], U 0, U 0]) Tryz.underlying32 info_count rfl (by omega) _ (listFrom Lp Lm pre).length ((listFrom Lp Lm pre).flatMap countC) rfl (hown.alloc _) _ 1 1 _ rfl (Src.new rfl (by intro u hu; simp at hu; rcases hu with rfl | rfl | rfl <;> rfl)) (by omega) (by omega) (by simp; omega) ?_; intro v' w' hown2 hgr)
          go_roundw
          case rel => exact ⟨pre ++ [k], post, by rw [HL.out]; simp, by simp, by rw [HF.out]; simpa [countC] using hown2, Ext.grewOwn (HX.out.alloc _) hgr (HO.out.alloc _) (Nat.le_refl _)⟩
          case measure => simp [intOf]; omega
        · have h1' : (((getL 0 Lp k : Nat) : Int) == 0) = false := by rw [beq_eq_false_iff_ne]; omega
          clear hz h1
          go_wp2_with (at_builtin; refine wpList_append_Own rfl (.tmp 27) (.tmp 38) 32 rfl W2.heap.size 93 3 32 (.agg #[St [], U 0, U 0]) Tryz.underlying32 info_count rfl (by omega) _ (listFrom Lp Lm pre).length ((listFrom Lp Lm pre).flatMap countC) rfl (hown.alloc _) _ 1 1 _ rfl (Src.new rfl (by intro u hu; simp at hu; rcases hu with rfl | rfl | rfl <;> rfl)) (by omega) (by omega) (by simp; omega) ?_; intro v' w' hown2 hgr)
          go_roundw
          case rel => exact ⟨pre ++ [k], post, by rw [HL.out]; simp, by simp, by rw [HF.out]; simpa [countC] using hown2, Ext.grewOwn (HX.out.alloc _) hgr (HO.out.alloc _) (Nat.le_refl _)⟩
          case measure => simp [intOf]; omega
    | nil =>
      rw [List.append_nil] at hl
      subst hl
      have HO := Lib.hid hown
      have HX := Lib.hid hx
      have hn3 := HW2.out.size
      clear hown hx
      go_wp2_with fail
      go_ret
      exact ⟨_, rfl, by rw [HLL.out]; exact HO.out.lower hn3, HW2.out.trans HX.out⟩
end Go.Proofs.YtdikcgmdmcfpfaaGreat
namespace Go.Proofs.YtdikcgmdmcfpfaaGreat
open Go.RowKit

theorem sl_two {α : Type} {T : Shape α} {hk : 0 < T.k} {w : World} {S S' : Nat → Prop} {v v' : Value} {l l' : List α} (t : TypeId) (h : Sl T w S v l) (h' : Sl T w S' v' l') :
    Sl (slT T hk) (w.alloc (.cells #[v, v'] t)) (fun _ => True) (.slice (some ⟨w.heap.size, 0, none⟩) 2 2) [l, l'] :=
  ⟨_, 2, rfl, Nat.le_refl _, by omega, fun pre x post hl => by
    cases pre with
    | nil =>
      simp at hl
      obtain ⟨rfl, -⟩ := hl
      exact ⟨_, 0, [v], rfl, trivial, ⟨v, rfl, (h.ext hk ((Ext.refl w).alloc _)).mono hk (fun b _ hb => trivial)⟩, fun j u hj => by
        rw [cell_of_row _ w.heap.size _ #[v, v'] t (0, 0) (Go.heap_alloc_new w _)]
        cases j with
        | zero => simpa using hj
        | succ j => simp at hj⟩
    | cons a r =>
      cases r with
      | nil =>
        simp at hl
        obtain ⟨rfl, rfl, -⟩ := hl
        exact ⟨_, 0, [v'], rfl, trivial, ⟨v', rfl, (h'.ext hk ((Ext.refl w).alloc _)).mono hk (fun b _ hb => trivial)⟩, fun j u hj => by
          rw [cell_of_row _ w.heap.size _ #[v, v'] t (0, 0) (Go.heap_alloc_new w _)]
          cases j with
          | zero => simpa [slT] using hj
          | succ j => simp at hj⟩
      | cons b r => simp at hl⟩

theorem putL_len (L : List (Str × Nat)) (k : Str) (v : Nat) : (putL L k v).length ≤ L.length + 1 := by
  unfold putL
  split <;> simp
theorem plusOf_len (cs : List Count) : (plusOf cs).length ≤ cs.length := by
  have : ∀ (cs : List Count) (L : List (Str × Nat)), (cs.foldl (putP max) L).length ≤ L.length + cs.length := by
    intro cs
    induction cs with
    | nil => simp
    | cons c r ih =>
      intro L
      rw [List.foldl_cons]
      refine Nat.le_trans (ih _) ?_
      have := putL_len L c.1 (max (getL 0 L c.1) c.2.1)
      unfold putP
      simp only [List.length_cons]
      omega
  simpa [plusOf] using this cs []

def joinL (a b : List Count) : List Count := listL (plusOf (a ++ b)) (minusOf (a ++ b))

set_option maxRecDepth 100000 in
set_option maxHeartbeats 400000 in
theorem joinL_any {S S' : Nat → Prop} {va vb : Value} {a b : List Count} {w : World} (ha : Sl countT w S va a) (hb : Sl countT w S' vb b) (hl : a.length + b.length ≤ 1099511627776) :
    Calls Tryz.prog 106 #[va, vb] w fun e w' => ∃ v', e = .returned v' ∧ Own w' w.heap.size 93 3 v' (joinL a b).length ((joinL a b).flatMap countC) ∧ Ext w w' := by
  have H1 := Lib.hid (greatest_any (sl_two 32 ha hb))
  have H2 := Lib.hid (fun (p m : Nat) (Lp Lm : List (Str × Nat)) (w : World) => @list_any p m Lp Lm w)
  have hlen : (plusOf (a ++ b)).length ≤ 1099511627776 := Nat.le_trans (plusOf_len _) (by simpa using hl)
  obtain ⟨A, c, rfl, -, -⟩ := ha.form
  obtain ⟨A', c', rfl, -, -⟩ := hb.form
  have hx0 := (Ext.refl w).alloc (.cells #[.slice A a.length c, .slice A' b.length c'] 32)
  clear ha hb
  go_enter Tryz.func106, Tryz.ntmps106
  go_wp2_with fail
  refine H1.out.mono ?_
  rintro e w1 ⟨p, m, rfl, -, -, -, hp, hm, hx⟩
  have H3 := Lib.hid (H2.out _ _ _ _ _ hp hm (by simpa using hlen))
  clear hp hm
  go_wp2_with fail
  refine H3.out.mono ?_
  rintro e w2 ⟨v', rfl, hv, hx2⟩
  have HV := Lib.hid hv
  have hle := (hx0.trans hx).size
  clear hv
  go_wp2_with fail
  go_ret
  exact ⟨_, rfl, by simpa [joinL] using HV.out.lower hle, (hx0.trans hx).trans hx2⟩
end Go.Proofs.YtdikcgmdmcfpfaaGreat
namespace Go.Proofs.YtdikcgmdmcfpfaaGreat
open Go.RowKit

def mayLFrom : Option Str → List Count → Bool
  | _, [] => true
  | o, c :: r => !(c.2.1 == 0 && c.2.2 == 0) && (match o with | none => true | some s => ltS s c.1) && mayLFrom (some c.1) r
def mayL (l : List Count) : Bool := mayLFrom none l

set_option maxRecDepth 100000 in
set_option maxHeartbeats 1000000 in
theorem mayL_any {S : Nat → Prop} {v : Value} {l : List Count} {w : World} (hv : Sl countT w S v l) :
    Calls Tryz.prog 119 #[v] w fun e w' => e = .returned (.bool (mayL l)) ∧ Ext w w' := by
  have hv' := hv
  obtain ⟨A, c, rfl, h1, h2⟩ := hv.form
  clear hv
  go_enter Tryz.func119, Tryz.ntmps119
  go_wp2
  go_loopw [7] (fun i wr => ∃ pre post, l = pre ++ post ∧ i = I pre.length ∧ mayL l = mayLFrom (pre.getLast?.map (·.1)) post ∧ Ext w wr) (fun i _ => l.length - (intOf i).toNat)
  case atStart => exact ⟨[], l, rfl, rfl, rfl, Ext.refl _⟩
  case round =>
    obtain ⟨pre, post, hl, rfl, hm, hb⟩ := hrel
    cases post with
    | cons m post =>
      obtain ⟨b, o, rfl, hd0, hd1, hd2⟩ := count_at hv' hb hl
      have hlt : pre.length < l.length := by rw [hl]; simp
      have hxa := hb.alloc (.cells #[St m.1, U m.2.1, U m.2.2] 93)
      have HB := Lib.hid hb
      by_cases hz : m.2.1 = 0 ∧ m.2.2 = 0
      · have HM := Lib.hid (show mayL l = false by rw [hm]; simp [mayLFrom, hz.1, hz.2])
        obtain ⟨ms, mp, mm⟩ := m
        obtain ⟨rfl, rfl⟩ : mp = 0 ∧ mm = 0 := hz
        clear hl hm hv'
        go_wp2
        go_quiet (fail)
        go_wp2
        go_ret
        exact ⟨by rw [HM.out]; rfl, hxa.drewN _⟩
      · have hzz : (m.2.1 == 0 && m.2.2 == 0) = false := by
          by_cases h : m.2.1 = 0
          · have : m.2.2 ≠ 0 := fun h2 => hz ⟨h, h2⟩
            simp [this]
          · simp [h]
        rcases List.eq_nil_or_concat pre with rfl | ⟨pre', q, rfl⟩
        · have HL := Lib.hid hl
          have HM := Lib.hid (show mayL l = mayLFrom (some m.1) post by rw [hm]; simp [mayLFrom, hzz])
          simp only [List.length_nil, Nat.zero_mul, Nat.add_zero] at hd0 hd1 hd2 hlt ⊢
          by_cases hp0 : m.2.1 = 0
          · obtain ⟨ms, mp, mm⟩ := m
            obtain rfl : mp = 0 := hp0
            have hm0 : ((mm : Int) == 0) = false := by rw [beq_eq_false_iff_ne]; intro h; exact hz ⟨rfl, by simpa using h⟩
            clear hz hzz hl hm hv'
            go_wp2
            go_quiet (fail)
            go_wp2
            go_roundw
            case rel => refine ⟨_, post, HL.out.trans (List.append_cons _ _ _), by simp, by rw [HM.out]; simp, hxa.drewN _⟩
            case measure => simp [intOf]; omega
          · have hp1 : ((m.2.1 : Int) == 0) = false := by rw [beq_eq_false_iff_ne]; omega
            clear hz hzz hl hm hv' hp0
            go_wp2
            go_quiet (fail)
            go_wp2
            go_roundw
            case rel => refine ⟨_, post, HL.out.trans (List.append_cons _ _ _), by simp, by rw [HM.out]; simp, hxa.drewN _⟩
            case measure => simp [intOf]; omega
        · have hl2 : l = pre' ++ q :: (m :: post) := by rw [hl]; simp
          obtain ⟨b', o', e, hq0, hq1, hq2⟩ := count_at hv' hb hl2
          cases e
          have hlq : pre'.length < l.length := by rw [hl2]; simp
          have HL := Lib.hid hl
          simp only [List.length_concat] at hd0 hd1 hd2 hlt ⊢
          clear hl2
          have hxw := (Ext.refl wr).alloc (.cells #[St m.1, U m.2.1, U m.2.2] 93)
          have hq0' := hxw.cell hq0
          have hm0' : (wr.alloc (.cells #[St m.1, U m.2.1, U m.2.2] 93)).cell? ⟨wr.heap.size, 0, none⟩ = some (St m.1) := by simp [go_sem]
          have hm1' : (wr.alloc (.cells #[St m.1, U m.2.1, U m.2.2] 93)).cell? ⟨wr.heap.size, 1, none⟩ = some (U m.2.1) := by simp [go_sem]
          have hm2' : (wr.alloc (.cells #[St m.1, U m.2.1, U m.2.2] 93)).cell? ⟨wr.heap.size, 2, none⟩ = some (U m.2.2) := by simp [go_sem]
          have k0 : (0 : Int) ≤ (pre'.length : Int) := by omega
          have k1 : ((pre'.length : Int)) < (l.length : Int) := by omega
          have k2 : ((pre'.length : Int) + 1) > 0 := by omega
          have k3 : (((pre'.length + 1 : Nat) : Int)) > 0 := by omega
          have k4 : IntKind.i64.wrap ((pre'.length : Int) + 1 - 1) = pre'.length := by rw [show (pre'.length : Int) + 1 - 1 = pre'.length by omega]; simp [IntKind.wrap, IntKind.signed, IntKind.bits]; omega
          have k5 : IntKind.i64.wrap (pre'.length : Int) = pre'.length := by simp [IntKind.wrap, IntKind.signed, IntKind.bits]; omega
          have k6 : ((pre'.length : Int)).toNat = pre'.length := by omega
          rcases str_cases q.1 m.1 with ⟨q1, q2, q3, q4, q5⟩ | qq | ⟨q1, q2, q3, q4, q5⟩
          · have HM := Lib.hid (show mayL l = mayLFrom (some m.1) post by rw [hm]; simp [mayLFrom, hzz, q1])
            by_cases hp0 : m.2.1 = 0
            · obtain ⟨ms, mp, mm⟩ := m
              obtain rfl : mp = 0 := hp0
              have hm0 : ((mm : Int) == 0) = false := by rw [beq_eq_false_iff_ne]; intro h; exact hz ⟨rfl, by simpa using h⟩
              clear hz hzz hl hm hv'
              go_wp2
              generalize wr.alloc _ = W1 at *
              go_quiet (fail)
              go_wp2
              go_roundw
              case rel => refine ⟨_, post, HL.out.trans (List.append_cons _ _ _), by simp <;> omega, by rw [HM.out]; simp, hxa.drewN _⟩
              case measure => simp [intOf]; omega
            · have hp1 : ((m.2.1 : Int) == 0) = false := by rw [beq_eq_false_iff_ne]; omega
              clear hz hzz hl hm hv' hp0
              go_wp2
              generalize wr.alloc _ = W1 at *
              go_quiet (fail)
              go_wp2
              go_roundw
              case rel => refine ⟨_, post, HL.out.trans (List.append_cons _ _ _), by simp <;> omega, by rw [HM.out]; simp, hxa.drewN _⟩
              case measure => simp [intOf]; omega
          · have HM := Lib.hid (show mayL l = false by rw [hm]; simp [mayLFrom, hzz, qq, ltS_irrefl])
            obtain ⟨qs, qp, qm⟩ := q
            obtain rfl : qs = m.1 := qq
            have q0 : ltS m.1 m.1 = false := ltS_irrefl _
            by_cases hp0 : m.2.1 = 0
            · obtain ⟨ms, mp, mm⟩ := m
              obtain rfl : mp = 0 := hp0
              have hm0 : ((mm : Int) == 0) = false := by rw [beq_eq_false_iff_ne]; intro h; exact hz ⟨rfl, by simpa using h⟩
              clear hz hzz hl hm hv'
              go_wp2
              generalize wr.alloc _ = W1 at *
              go_quiet (fail)
              go_wp2
              go_ret
              exact ⟨by rw [HM.out]; rfl, hxa.drewN _⟩
            · have hp1 : ((m.2.1 : Int) == 0) = false := by rw [beq_eq_false_iff_ne]; omega
              clear hz hzz hl hm hv' hp0
              go_wp2
              generalize wr.alloc _ = W1 at *
              go_quiet (fail)
              go_wp2
              go_ret
              exact ⟨by rw [HM.out]; rfl, hxa.drewN _⟩
          · have HM := Lib.hid (show mayL l = false by rw [hm]; simp [mayLFrom, hzz, q1])
            by_cases hp0 : m.2.1 = 0
            · obtain ⟨ms, mp, mm⟩ := m
              obtain rfl : mp = 0 := hp0
              have hm0 : ((mm : Int) == 0) = false := by rw [beq_eq_false_iff_ne]; intro h; exact hz ⟨rfl, by simpa using h⟩
              clear hz hzz hl hm hv'
              go_wp2
              generalize wr.alloc _ = W1 at *
              go_quiet (fail)
              go_wp2
              go_ret
              exact ⟨by rw [HM.out]; rfl, hxa.drewN _⟩
            · have hp1 : ((m.2.1 : Int) == 0) = false := by rw [beq_eq_false_iff_ne]; omega
              clear hz hzz hl hm hv' hp0
              go_wp2
              generalize wr.alloc _ = W1 at *
              go_quiet (fail)
              go_wp2
              go_ret
              exact ⟨by rw [HM.out]; rfl, hxa.drewN _⟩
    | nil =>
      rw [List.append_nil] at hl; subst hl
      have HM := Lib.hid hm
      clear hm hv'
      go_wp2
      go_ret
      exact ⟨by rw [HM.out]; rfl, hb⟩
end Go.Proofs.YtdikcgmdmcfpfaaGreat
