/- Contracts of the functions that the statement goes through, with their plain words: DERIVED: THE SHELF's CONTRACTS AT THIS DUMP, IN PLAIN WORDS (tools/lay-plain.mjs out of 'YtdikcgmdmcfpfaaGreatShelfX.lean', which tools/lay-shelf.mjs wrote): THE SAME DECLARATIONS UNDER THE SAME NAMES: 'import', 'namespace', 'open', 'def', 'theorem' AND NOTHING ELSE: no command of the shelf's: FOR A HAND-IN. Each laying: the table of numbers ('.._ren') and one theorem, a field a fact of the dump's own or the kernel's comparison; each contract: ONE APPLICATION. strings.Compare, cmp.Compare at uint64 and int, cmp.Or at two ints: what they return; the world is as it was. slices.SortFunc at a row of the call's own whose elements are flat: the row holds a sorted permutation; its block alone is written. Package dots: Compare, and tidy: the marks that are some, rising, of several of one path the greatest. For a range over a function: what its invariants say of a row of the call's own; append inside a round. Package dots: pairs: two tidied vectors side by side, one pair for each path, rising: the iterator's contract. Package dots: Join, Covers: a loop over pairs. Package dots: Covers, Drop, Set, Compare. Plain words on bags: places, their order, the items that they make. No program in sight. -/
import Derived.Test.YtdikcgmdmcfpfaaGreatSf01
import Derived.Shelf.SlGeneric
import Derived.Shelf.SlSortCmp.NoneTotal
import Derived.Shelf.SlSortCmp.WholeK
import Derived.Shelf.Small.Strs
import Derived.Shelf.Slices.CompactS
import Derived.Ground.NamesProg
import Derived.Test.YtdikcgmdmcfpfaaGreatProg
import Derived.RangeFuncNested
import Derived.RangeFuncBound
import Derived.RangeFuncCalls
import Derived.RangeFuncLeaves
import Derived.Shelf.Abstract
import Derived.Shelf.RegionOpen
import Derived.OwnWalkIn
import Derived.TacticsInMore
import Derived.LoopNIn
import Derived.LoopIn
namespace Go.Proofs
open Go.Shelf
def Tryz.lays106_ren : Go.Shelf.Ren := ⟨fun | 106 => 45 | 213 => 96 | 265 => 171 | n => n, fun | 9 => 9 | 3 => 3 | n => n, fun | n => n⟩
theorem Tryz.lays106 : Go.Proofs.Lays.n106 Tryz.prog Tryz.lays106_ren := {
  mixed := by kernel_rfl
  f106 := Tryz.func45.trans (congrArg some (by kernel_rfl))
  f213 := Tryz.func96.trans (congrArg some (by kernel_rfl))
  f265 := Tryz.func171.trans (congrArg some (by kernel_rfl))
  t3 := Tryz.underlying3
  a3 := Tryz.isAgg3
  z3 := Tryz.sizeOf3
  v3 := Tryz.zeroValue3
  t9 := Tryz.underlying9
  a9 := Tryz.isAgg9
  z9 := Tryz.sizeOf9
  v9 := Tryz.zeroValue9 }
def Tryz.lays194_ren : Go.Shelf.Ren := ⟨fun | 194 => 57 | n => n, fun | 31 => 28 | 9 => 9 | 3 => 3 | 4 => 4 | 0 => 0 | n => n, fun | n => n⟩
theorem Tryz.lays194 : Go.Proofs.Lays.n194 Tryz.prog Tryz.lays194_ren := {
  mixed := by kernel_rfl
  f194 := Tryz.func57.trans (congrArg some (by kernel_rfl))
  t0 := Tryz.underlying0
  a0 := Tryz.isAgg0
  z0 := Tryz.sizeOf0
  v0 := Tryz.zeroValue0
  t3 := Tryz.underlying3
  a3 := Tryz.isAgg3
  z3 := Tryz.sizeOf3
  v3 := Tryz.zeroValue3
  t4 := Tryz.underlying4
  a4 := Tryz.isAgg4
  z4 := Tryz.sizeOf4
  v4 := Tryz.zeroValue4
  t9 := Tryz.underlying9
  a9 := Tryz.isAgg9
  z9 := Tryz.sizeOf9
  v9 := Tryz.zeroValue9
  t31 := Tryz.underlying28
  a31 := Tryz.isAgg28
  z31 := Tryz.sizeOf28
  v31 := Tryz.zeroValue28 }
def Tryz.sortMark_ren : Go.Shelf.Ren := ⟨fun | 6 => 179 | 15 => 111 | 14 => 225 | 28 => 203 | 29 => 204 | 20 => 250 | 21 => 251 | 22 => 252 | 23 => 253 | 24 => 254 | 25 => 255 | 26 => 256 | 27 => 257 | 46 => 265 | 47 => 242 | 48 => 243 | 49 => 266 | 50 => 267 | 57 => 271 | n => n, fun | 22 => 26 | 24 => 25 | 25 => 220 | 3 => 3 | 39 => 161 | 0 => 0 | 53 => 249 | 55 => 23 | 4 => 4 | 46 => 243 | 45 => 242 | 50 => 101 | 5 => 5 | 9 => 9 | 66 => 286 | 70 => 290 | 76 => 301 | 77 => 262 | n => n, fun | n => n⟩
theorem Tryz.sortMark : Go.Proofs.SlLaysF0.n6 Tryz.prog Tryz.sortMark_ren := {
  mixed := by kernel_rfl
  f6 := ⟨Tryz.f179.name, by decide, Tryz.func179.trans (congrArg some (by kernel_rfl))⟩
  f14 := ⟨Tryz.f225.name, by decide, Tryz.func225.trans (congrArg some (by kernel_rfl))⟩
  f15 := Tryz.func111.trans (congrArg some (by kernel_rfl))
  f20 := ⟨Tryz.f250.name, by decide, Tryz.func250.trans (congrArg some (by kernel_rfl))⟩
  f21 := ⟨Tryz.f251.name, by decide, Tryz.func251.trans (congrArg some (by kernel_rfl))⟩
  f22 := ⟨Tryz.f252.name, by decide, Tryz.func252.trans (congrArg some (by kernel_rfl))⟩
  f23 := ⟨Tryz.f253.name, by decide, Tryz.func253.trans (congrArg some (by kernel_rfl))⟩
  f24 := ⟨Tryz.f254.name, by decide, Tryz.func254.trans (congrArg some (by kernel_rfl))⟩
  f25 := ⟨Tryz.f255.name, by decide, Tryz.func255.trans (congrArg some (by kernel_rfl))⟩
  f26 := ⟨Tryz.f256.name, by decide, Tryz.func256.trans (congrArg some (by kernel_rfl))⟩
  f27 := ⟨Tryz.f257.name, by decide, Tryz.func257.trans (congrArg some (by kernel_rfl))⟩
  f28 := Tryz.func203.trans (congrArg some (by kernel_rfl))
  f29 := Tryz.func204.trans (congrArg some (by kernel_rfl))
  f46 := ⟨Tryz.f265.name, by decide, Tryz.func265.trans (congrArg some (by kernel_rfl))⟩
  f47 := Tryz.func242.trans (congrArg some (by kernel_rfl))
  f48 := Tryz.func243.trans (congrArg some (by kernel_rfl))
  f49 := ⟨Tryz.f266.name, by decide, Tryz.func266.trans (congrArg some (by kernel_rfl))⟩
  f50 := ⟨Tryz.f267.name, by decide, Tryz.func267.trans (congrArg some (by kernel_rfl))⟩
  f57 := ⟨Tryz.f271.name, by decide, Tryz.func271.trans (congrArg some (by kernel_rfl))⟩
  t0 := Tryz.underlying0
  a0 := Tryz.isAgg0
  z0 := Tryz.sizeOf0
  v0 := Tryz.zeroValue0
  t3 := Tryz.underlying3
  a3 := Tryz.isAgg3
  z3 := Tryz.sizeOf3
  v3 := Tryz.zeroValue3
  t4 := Tryz.underlying4
  a4 := Tryz.isAgg4
  z4 := Tryz.sizeOf4
  v4 := Tryz.zeroValue4
  t5 := Tryz.underlying5
  a5 := Tryz.isAgg5
  z5 := Tryz.sizeOf5
  v5 := Tryz.zeroValue5
  t9 := Tryz.underlying9
  a9 := Tryz.isAgg9
  z9 := Tryz.sizeOf9
  v9 := Tryz.zeroValue9
  t22 := Tryz.underlying26
  a22 := Tryz.isAgg26
  z22 := Tryz.sizeOf26
  v22 := Tryz.zeroValue26
  t25 := Tryz.underlying220
  a25 := Tryz.isAgg220
  z25 := Tryz.sizeOf220
  v25 := Tryz.zeroValue220
  t39 := Tryz.underlying161
  a39 := Tryz.isAgg161
  z39 := Tryz.sizeOf161
  v39 := Tryz.zeroValue161
  t45 := Tryz.underlying242
  a45 := Tryz.isAgg242
  z45 := Tryz.sizeOf242
  v45 := Tryz.zeroValue242
  t46 := Tryz.underlying243
  a46 := Tryz.isAgg243
  z46 := Tryz.sizeOf243
  v46 := Tryz.zeroValue243
  t50 := Tryz.underlying101
  a50 := Tryz.isAgg101
  z50 := Tryz.sizeOf101
  v50 := Tryz.zeroValue101
  t53 := Tryz.underlying249
  a53 := Tryz.isAgg249
  z53 := Tryz.sizeOf249
  v53 := Tryz.zeroValue249
  t55 := Tryz.underlying23
  a55 := Tryz.isAgg23
  z55 := Tryz.sizeOf23
  v55 := Tryz.zeroValue23
  t66 := Tryz.underlying286
  a66 := Tryz.isAgg286
  z66 := Tryz.sizeOf286
  v66 := Tryz.zeroValue286
  t70 := Tryz.underlying290
  a70 := Tryz.isAgg290
  z70 := Tryz.sizeOf290
  v70 := Tryz.zeroValue290
  t76 := Tryz.underlying301
  a76 := Tryz.isAgg301
  z76 := Tryz.sizeOf301
  v76 := Tryz.zeroValue301
  t77 := Tryz.underlying262
  a77 := Tryz.isAgg262
  z77 := Tryz.sizeOf262
  v77 := Tryz.zeroValue262 }
def Tryz.sortPlace_ren : Go.Shelf.Ren := ⟨fun | 6 => 261 | 15 => 111 | 14 => 270 | 28 => 203 | 29 => 204 | 20 => 272 | 21 => 273 | 22 => 274 | 23 => 275 | 24 => 276 | 25 => 277 | 26 => 278 | 27 => 279 | 46 => 280 | 47 => 242 | 48 => 243 | 49 => 281 | 50 => 282 | 57 => 283 | n => n, fun | 22 => 275 | 24 => 234 | 25 => 280 | 3 => 3 | 39 => 161 | 0 => 0 | 53 => 249 | 55 => 23 | 4 => 4 | 46 => 243 | 45 => 242 | 50 => 101 | 5 => 5 | 9 => 9 | 66 => 286 | 70 => 290 | 76 => 301 | 77 => 262 | n => n, fun | n => n⟩
theorem Tryz.sortPlace : Go.Proofs.SlLaysF0.n6 Tryz.prog Tryz.sortPlace_ren := {
  mixed := by kernel_rfl
  f6 := ⟨Tryz.f261.name, by decide, Tryz.func261.trans (congrArg some (by kernel_rfl))⟩
  f14 := ⟨Tryz.f270.name, by decide, Tryz.func270.trans (congrArg some (by kernel_rfl))⟩
  f15 := Tryz.func111.trans (congrArg some (by kernel_rfl))
  f20 := ⟨Tryz.f272.name, by decide, Tryz.func272.trans (congrArg some (by kernel_rfl))⟩
  f21 := ⟨Tryz.f273.name, by decide, Tryz.func273.trans (congrArg some (by kernel_rfl))⟩
  f22 := ⟨Tryz.f274.name, by decide, Tryz.func274.trans (congrArg some (by kernel_rfl))⟩
  f23 := ⟨Tryz.f275.name, by decide, Tryz.func275.trans (congrArg some (by kernel_rfl))⟩
  f24 := ⟨Tryz.f276.name, by decide, Tryz.func276.trans (congrArg some (by kernel_rfl))⟩
  f25 := ⟨Tryz.f277.name, by decide, Tryz.func277.trans (congrArg some (by kernel_rfl))⟩
  f26 := ⟨Tryz.f278.name, by decide, Tryz.func278.trans (congrArg some (by kernel_rfl))⟩
  f27 := ⟨Tryz.f279.name, by decide, Tryz.func279.trans (congrArg some (by kernel_rfl))⟩
  f28 := Tryz.func203.trans (congrArg some (by kernel_rfl))
  f29 := Tryz.func204.trans (congrArg some (by kernel_rfl))
  f46 := ⟨Tryz.f280.name, by decide, Tryz.func280.trans (congrArg some (by kernel_rfl))⟩
  f47 := Tryz.func242.trans (congrArg some (by kernel_rfl))
  f48 := Tryz.func243.trans (congrArg some (by kernel_rfl))
  f49 := ⟨Tryz.f281.name, by decide, Tryz.func281.trans (congrArg some (by kernel_rfl))⟩
  f50 := ⟨Tryz.f282.name, by decide, Tryz.func282.trans (congrArg some (by kernel_rfl))⟩
  f57 := ⟨Tryz.f283.name, by decide, Tryz.func283.trans (congrArg some (by kernel_rfl))⟩
  t0 := Tryz.underlying0
  a0 := Tryz.isAgg0
  z0 := Tryz.sizeOf0
  v0 := Tryz.zeroValue0
  t3 := Tryz.underlying3
  a3 := Tryz.isAgg3
  z3 := Tryz.sizeOf3
  v3 := Tryz.zeroValue3
  t4 := Tryz.underlying4
  a4 := Tryz.isAgg4
  z4 := Tryz.sizeOf4
  v4 := Tryz.zeroValue4
  t5 := Tryz.underlying5
  a5 := Tryz.isAgg5
  z5 := Tryz.sizeOf5
  v5 := Tryz.zeroValue5
  t9 := Tryz.underlying9
  a9 := Tryz.isAgg9
  z9 := Tryz.sizeOf9
  v9 := Tryz.zeroValue9
  t22 := Tryz.underlying275
  a22 := Tryz.isAgg275
  z22 := Tryz.sizeOf275
  v22 := Tryz.zeroValue275
  t25 := Tryz.underlying280
  a25 := Tryz.isAgg280
  z25 := Tryz.sizeOf280
  v25 := Tryz.zeroValue280
  t39 := Tryz.underlying161
  a39 := Tryz.isAgg161
  z39 := Tryz.sizeOf161
  v39 := Tryz.zeroValue161
  t45 := Tryz.underlying242
  a45 := Tryz.isAgg242
  z45 := Tryz.sizeOf242
  v45 := Tryz.zeroValue242
  t46 := Tryz.underlying243
  a46 := Tryz.isAgg243
  z46 := Tryz.sizeOf243
  v46 := Tryz.zeroValue243
  t50 := Tryz.underlying101
  a50 := Tryz.isAgg101
  z50 := Tryz.sizeOf101
  v50 := Tryz.zeroValue101
  t53 := Tryz.underlying249
  a53 := Tryz.isAgg249
  z53 := Tryz.sizeOf249
  v53 := Tryz.zeroValue249
  t55 := Tryz.underlying23
  a55 := Tryz.isAgg23
  z55 := Tryz.sizeOf23
  v55 := Tryz.zeroValue23
  t66 := Tryz.underlying286
  a66 := Tryz.isAgg286
  z66 := Tryz.sizeOf286
  v66 := Tryz.zeroValue286
  t70 := Tryz.underlying290
  a70 := Tryz.isAgg290
  z70 := Tryz.sizeOf290
  v70 := Tryz.zeroValue290
  t76 := Tryz.underlying301
  a76 := Tryz.isAgg301
  z76 := Tryz.sizeOf301
  v76 := Tryz.zeroValue301
  t77 := Tryz.underlying262
  a77 := Tryz.isAgg262
  z77 := Tryz.sizeOf262
  v77 := Tryz.zeroValue262 }
end Go.Proofs
namespace Go.Proofs.YtdikcgmdmcfpfaaGreat
open Go.RowKit

theorem compareBytes_eq : ∀ a b : Str, Lib.compareBytes a b = cmpS a b
  | [], [] => rfl
  | [], _ :: _ => rfl
  | _ :: _, [] => rfl
  | a :: x, b :: y => by
    have ih := compareBytes_eq x y
    rcases u8_tri a b with h | rfl | h
    · have h2 : ¬ b < a := UInt8.lt_asymm h
      have h3 : a ≠ b := UInt8.ne_of_lt h
      simp [Lib.compareBytes, cmpS, ltS, Op.bytesLess, h]
    · simp only [cmpS, ltS] at ih
      simp [Lib.compareBytes, cmpS, ltS, Op.bytesLess, ih]
    · have h2 : ¬ a < b := UInt8.lt_asymm h
      have h3 : a ≠ b := (UInt8.ne_of_lt h).symm
      simp [Lib.compareBytes, cmpS, ltS, Op.bytesLess, h, h2, h3]
theorem scmp_any (a b : Str) (w : World) : Calls Tryz.prog 45 #[St a, St b] w fun e w' => e = .returned (I (cmpS a b)) ∧ w = w' := by
  refine (Any.strings_Compare Tryz.lays106 ⟨a.toArray⟩ ⟨b.toArray⟩ w).mono ?_
  rintro e w' ⟨rfl, rfl⟩
  refine ⟨?_, rfl⟩
  exact congrArg (fun z => Ending.returned (I z)) (compareBytes_eq a b)

theorem nan64_any (x : Nat) (w : World) : Calls Tryz.prog 226 #[U x] w fun e w' => e = .returned (.bool false) ∧ w = w' := by
  go_enter Tryz.func226, Tryz.ntmps226
  go_wp2
  go_ret
  exact ⟨rfl, rfl⟩
theorem nanint_any (x : Int) (w : World) : Calls Tryz.prog 263 #[I x] w fun e w' => e = .returned (.bool false) ∧ w = w' := by
  go_enter Tryz.func263, Tryz.ntmps263
  go_wp2
  go_ret
  exact ⟨rfl, rfl⟩

theorem ncmp_any (a b : Nat) (w : World) : Calls Tryz.prog 182 #[U a, U b] w fun e w' => e = .returned (I (cmpN a b)) ∧ w = w' := by
  have H := Lib.hid nan64_any
  by_cases h1 : a < b
  · have k1 : (a : Int) < b := by omega
    go_enter Tryz.func182, Tryz.ntmps182
    go_wp2_with (go_at_call 226; refine (H.out _ _).mono ?_; rintro e w' ⟨rfl, rfl⟩)
    go_ret
    exact ⟨by simp [cmpN, h1], rfl⟩
  · have k1 : ¬ (a : Int) < b := by omega
    by_cases h2 : b < a
    · have k2 : (a : Int) > b := by omega
      go_enter Tryz.func182, Tryz.ntmps182
      go_wp2_with (go_at_call 226; refine (H.out _ _).mono ?_; rintro e w' ⟨rfl, rfl⟩)
      go_ret
      exact ⟨by simp [cmpN, h1, h2], rfl⟩
    · have k2 : ¬ (a : Int) > b := by omega
      go_enter Tryz.func182, Tryz.ntmps182
      go_wp2_with (go_at_call 226; refine (H.out _ _).mono ?_; rintro e w' ⟨rfl, rfl⟩)
      go_ret
      exact ⟨by simp [cmpN, h1, h2], rfl⟩

def cmpI (a b : Int) : Int := if a < b then -1 else if b < a then 1 else 0
theorem icmp_any (a b : Int) (w : World) : Calls Tryz.prog 238 #[I a, I b] w fun e w' => e = .returned (I (cmpI a b)) ∧ w = w' := by
  have H := Lib.hid nanint_any
  by_cases h1 : a < b
  · go_enter Tryz.func238, Tryz.ntmps238
    go_wp2_with (go_at_call 263; refine (H.out _ _).mono ?_; rintro e w' ⟨rfl, rfl⟩)
    go_ret
    exact ⟨by simp [cmpI, h1], rfl⟩
  · by_cases h2 : b < a
    · have k2 : a > b := by omega
      go_enter Tryz.func238, Tryz.ntmps238
      go_wp2_with (go_at_call 263; refine (H.out _ _).mono ?_; rintro e w' ⟨rfl, rfl⟩)
      go_ret
      exact ⟨by simp [cmpI, h1, h2], rfl⟩
    · have k2 : ¬ a > b := by omega
      go_enter Tryz.func238, Tryz.ntmps238
      go_wp2_with (go_at_call 263; refine (H.out _ _).mono ?_; rintro e w' ⟨rfl, rfl⟩)
      go_ret
      exact ⟨by unfold cmpI; rw [if_neg (by omega), if_neg (by omega)]; rfl, rfl⟩

set_option maxHeartbeats 400000 in
theorem or_any (a b : Int) {g c : Nat} {w : World} (h0 : w.cell? ⟨g, 0, none⟩ = some (I a)) (h1 : w.cell? ⟨g, 1, none⟩ = some (I b)) :
    Calls Tryz.prog 181 #[.slice (some ⟨g, 0, none⟩) 2 c] w fun e w' => e = .returned (I (orI a b)) ∧ w = w' := by
  go_enter Tryz.func181, Tryz.ntmps181
  go_wp2
  go_loop [8] (fun i => i = I 0 ∨ (i = I 1 ∧ a = 0) ∨ (i = I 2 ∧ a = 0 ∧ b = 0)) (fun i => 2 - (intOf i).toNat)
  case atStart => exact .inl rfl
  case round =>
    rcases hrel with rfl | ⟨rfl, h⟩ | ⟨rfl, h, h'⟩
    · by_cases ha : a = 0
      · subst ha
        go_wp2
        go_round
        case rel => simp
        case measure => simp [intOf]
      · have ha' : (a != 0) = true := by simpa using ha
        have ha2 : (a == 0) = false := by simpa using ha
        go_wp2
        go_ret
        exact ⟨by simp [orI, ha], rfl⟩
    · by_cases hb : b = 0
      · subst hb
        go_wp2
        go_round
        case rel => simp [h]
        case measure => simp [intOf]
      · have ha' : (b != 0) = true := by simpa using hb
        have ha2 : (b == 0) = false := by simpa using hb
        go_wp2
        go_ret
        exact ⟨by simp [orI, h], rfl⟩
    · go_wp2
      go_ret
      exact ⟨by simp [orI, h, h'], rfl⟩
end Go.Proofs.YtdikcgmdmcfpfaaGreat
namespace Go.Proofs.YtdikcgmdmcfpfaaGreat
open Go.RowKit Go.Sort

theorem flatK_toList {α : Type} [Inhabited α] {enc : α → List Value} {k : Nat} (hk : ∀ x, (enc x).length = k) (h0 : 0 < k) (d : Array α) : (flatK enc k d).toList = d.toList.flatMap enc := by
  apply List.ext_getElem?
  intro t
  have hlen : (d.toList.flatMap enc).length = d.size * k := by
    have : ∀ l : List α, (l.flatMap enc).length = l.length * k := by
      intro l
      induction l with
      | nil => simp
      | cons a r ih => simp [ih, hk]; rw [Nat.add_mul]; omega
    rw [this]; simp
  by_cases ht : t < d.size * k
  · have hq : t / k < d.size := Nat.div_lt_of_lt_mul (by rw [Nat.mul_comm]; exact ht)
    have hr : t % k < k := Nat.mod_lt _ h0
    have h1 : (flatK enc k d).toList[t]? = some ((enc d[t / k]!)[t % k]!) := by
      rw [← get_flatK enc k d t ht, Array.getElem?_toList, Array.getElem?_eq_getElem (by simpa using ht), getElem!_pos (flatK enc k d) t (by simpa using ht)]
    rw [h1, List.flatMap_def]
    have hd : d[t / k]! = d.toList[t / k]'(by simpa using hq) := by rw [getElem!_pos d (t / k) hq]; simp
    have h2 := flatten_at (k := k) (d.toList.map enc) (t / k) (t % k) (enc d[t / k]!) ((enc d[t / k]!)[t % k]!) (by
      intro x hx
      obtain ⟨y, -, rfl⟩ := List.mem_map.1 hx
      exact hk y) (by rw [List.getElem?_map, List.getElem?_eq_getElem (by simpa using hq), hd]; rfl) (by
      have hr' : t % k < (enc d[t / k]!).length := by rw [hk]; exact hr
      rw [List.getElem?_eq_getElem hr', getElem!_pos (enc d[t / k]!) (t % k) hr'])
    rw [Nat.div_add_mod' t k] at h2
    exact h2.symm
  · rw [List.getElem?_eq_none (by simp; omega), List.getElem?_eq_none (by omega)]

theorem holds_row {w : World} {g T : Nat} {F : Array Value} {tail : List Value} (h : RowIs w g T F.toList tail) : Holds id w g 0 F := by
  intro j hj
  rw [Nat.zero_add]
  refine ⟨h.cell ?_, h.frozen j⟩
  rw [Array.getElem?_toList, Array.getElem?_eq_getElem hj, getElem!_pos F j hj]
  rfl

theorem putRow_row {w : World} {g T : Nat} {xs tail : List Value} (h : RowIs w g T xs tail) (F : Array Value) (hF : F.size = xs.length) : RowIs (putRow id w g 0 F) g T F.toList tail := by
  have h' : w.heap[g]? = some (.cells (xs ++ tail).toArray T (0, 0)) := h
  unfold RowIs putRow mapBlock
  simp only [Array.getElem?_modify, if_true, h', Option.map_some, onCells]
  congr 2
  apply Array.ext_getElem?
  intro i
  unfold putCells
  rw [Array.getElem?_mapIdx]
  by_cases hi : i < F.size
  · have e1 : (xs ++ tail).toArray[i]? = some (xs[i]'(by omega)) := by
      simp [List.getElem?_append_left (by omega : i < xs.length), List.getElem?_eq_getElem (by omega : i < xs.length)]
    have e2 : (F.toList ++ tail).toArray[i]? = some (F[i]'hi) := by
      simp [List.getElem?_append_left (by simpa using hi : i < F.toList.length)]
    rw [e1, e2]
    simp [hi, getElem!_pos F i hi]
  · have e : (xs ++ tail).toArray[i]? = (F.toList ++ tail).toArray[i]? := by
      simp only [List.getElem?_toArray]
      rw [List.getElem?_append_right (by omega), List.getElem?_append_right (by simpa using hi)]
      simp [hF]
    rw [e]
    cases hx : (F.toList ++ tail).toArray[i]? with
    | none => rfl
    | some u => simp [hi]

theorem below_putRow {base : Nat} {w : World} {g : Nat} (hg : base ≤ g) (F : Array Value) : RowKit.Below base w (putRow id w g 0 F) := by
  refine ⟨rfl, rfl, rfl, by simp, fun k hk => ?_⟩
  unfold putRow mapBlock
  rw [Array.getElem?_modify, if_neg (by omega)]

/-- the world behind a sort -/
theorem sorted_row {α : Type} [Inhabited α] {enc : α → List Value} {k : Nat} (hk : ∀ x, (enc x).length = k) (h0 : 0 < k) {base : Nat} {w : World} {g T n : Nat} {l : List α} {d' : Array α} {tail : List Value} {os : Array Obj}
    (h : RowIs w g T (l.flatMap enc) tail) (hg : base ≤ g) (hd : d'.size = l.length) : RowIs (sortWorldK enc k w g 0 n d' os) g T (d'.toList.flatMap enc) tail ∧ RowKit.Below base w (sortWorldK enc k w g 0 n d' os) := by
  have hlen : ∀ l : List α, (l.flatMap enc).length = l.length * k := by
    intro l
    induction l with
    | nil => simp
    | cons a r ih => simp [ih, hk]; rw [Nat.add_mul]; omega
  have h1 : RowIs (putRow id (Sort.ahead w n) g 0 (flatK enc k d')) g T (flatK enc k d').toList tail := putRow_row (w := Sort.ahead w n) h _ (by rw [hlen]; simp [hd])
  have hsz : g < w.heap.size := h.lt
  unfold sortWorldK putRowK
  constructor
  · rw [flatK_toList hk h0] at h1
    unfold RowIs at h1 ⊢
    unfold grow
    rw [Array.getElem?_append_left (by simp [Sort.ahead]; exact hsz)]
    exact h1
  · have h2' := below_putRow (w := Sort.ahead w n) hg (flatK enc k d')
    have h2 : RowKit.Below base w (putRow id (Sort.ahead w n) g 0 (flatK enc k d')) := ⟨h2'.os, h2'.tape, h2'.output, h2'.size, h2'.block⟩
    exact ⟨h2.os, h2.tape, h2.output, Nat.le_trans h2.size (by simp), fun j hj => by
      unfold grow
      have hjs : j < (putRow id (Sort.ahead w n) g 0 (flatK enc k d')).heap.size := by simp [Sort.ahead]; omega
      rw [Array.getElem?_append_left hjs]
      exact h2.block j hj⟩
end Go.Proofs.YtdikcgmdmcfpfaaGreat
namespace Go.Proofs.YtdikcgmdmcfpfaaGreat
open Go.RowKit

theorem alloc3_grow (W : World) (a b c : Obj) : (((W.alloc a).alloc b).alloc c).drew = Go.Sort.grow (W.drewN 1) #[a, b, c] := by
  rw [Go.Sort.alloc_eq_grow, Go.Sort.alloc_eq_grow, Go.Sort.alloc_eq_grow]
  rfl
theorem grow_ext (W : World) (q : Nat) (os : Array Obj) : Ext W (Go.Sort.grow (W.drewN q) os) :=
  ⟨rfl, rfl, rfl, by simp [Go.Sort.grow], fun k hk => by
    unfold Go.Sort.grow
    rw [Array.getElem?_append_left (by exact hk)]
    rfl⟩

set_option maxRecDepth 100000 in
set_option maxHeartbeats 400000 in
theorem tidy2_any (a b : Mark) (W : World) : Calls Tryz.prog 180 #[.agg #[St a.1, U a.2], .agg #[St b.1, U b.2]] W fun e w' => e = .returned (I (cmpM a b)) ∧ ∃ q os, w' = Go.Sort.grow (W.drewN q) os := by
  have H1 := Lib.hid scmp_any
  have H2 := Lib.hid ncmp_any
  have H3 := Lib.hid @or_any
  go_enter Tryz.func180, Tryz.ntmps180
  go_wp2_with fail
  go_region_held3 (fun w' => w'.cell? ⟨W.heap.size, 0, none⟩ = some (St a.1) ∧ w'.cell? ⟨W.heap.size, 1, none⟩ = some (U a.2) ∧ w'.cell? ⟨W.heap.size + 1, 0, none⟩ = some (St b.1) ∧ w'.cell? ⟨W.heap.size + 1, 1, none⟩ = some (U b.2)) (first | (simp [go_sem]; done)) (first | (go_at_call 45; refine (H1.out _ _ _).mono ?_; rintro e w' ⟨rfl, rfl⟩) | (go_at_call 182; refine (H2.out _ _ _).mono ?_; rintro e w' ⟨rfl, rfl⟩) | (go_at_call 181; refine (H3.out (cmpS a.1 b.1) (cmpN b.2 a.2) (by simp [go_sem]) (by simp [go_sem])).mono ?_; rintro e w' ⟨rfl, rfl⟩))
  go_wp2
  go_ret
  exact ⟨rfl, 1, _, alloc3_grow _ _ _ _⟩

theorem sort_mark {v : Value} {l : List Mark} {w : World} {base : Nat} (hv : Own w base 25 2 v l.length (l.flatMap markC)) (hbase : base ≤ w.heap.size) (hl : l.length ≤ 1099511627776) :
    Calls Tryz.prog 179 #[v, .func (.func 180) #[] #[]] w fun e w' => e = .returned (.tuple #[]) ∧
      Own w' base 25 2 v (isort (ltOf cmpM) l).length ((isort (ltOf cmpM) l).flatMap markC) ∧ Below base w w' := by
  rcases Nat.eq_zero_or_pos l.length with h0 | h0
  · obtain rfl : l = [] := List.eq_nil_of_length_eq_zero h0
    obtain ⟨A, c, rfl, -, -⟩ := hv.form
    have hcon := AnyF.slices_SortFunc_none Tryz.sortMark A c (.func (.func 180) #[] #[]) w
    exact Calls.mono hcon fun e w' ⟨he, hw⟩ => ⟨he, by rw [hw]; exact hv, by rw [hw]; exact Below.refl _ _⟩
  · obtain ⟨gb, cap, tail, rfl, hgb, hrow, hnc, hcm, hcl⟩ := hv.row h0
    have eg : ∀ args w, (callFunc 180 args).run Tryz.prog w = .ok (.enter 180 args) w := enters_of Tryz.func180 (by kernel_rfl) rfl
    have hH : Go.Sort.HoldsK markC 2 w gb 0 l.toArray := holds_row (F := Go.Sort.flatK markC 2 l.toArray) (by rw [flatK_toList (enc := markC) (k := 2) (fun _ => rfl) (by decide)]; exact hrow)
    have hcon := AnyQ.slices_SortFunc Tryz.sortMark 2 Tryz.isAgg25 Tryz.sizeOf25 markC (fun _ => rfl) (fun x v hv => by simp [markC] at hv; rcases hv with rfl | rfl <;> rfl) cmpM cmpM_swo 180 #[] gb 0 cap l.toArray w eg
      (fun _ _ _ _ x y => tidy2_any x y _) hH hrow.lt (by simp; omega)
    refine hcon.mono ?_
    rintro e w' ⟨rfl, d', n, os, hp, hs, rfl⟩
    have hd := sort_is cmpM_swo cmpM_anti hp hs
    have hsz : d'.size = l.length := by simpa using hp.1
    obtain ⟨h1, h2⟩ := sorted_row (enc := markC) (k := 2) (fun _ => rfl) (by decide) (d' := d') (n := n) (os := os) hrow hgb hsz
    rw [hd] at h1
    have hil : (isort (ltOf cmpM) l).length = l.length := (isort_perm l).length_eq
    refine ⟨rfl, ?_, h2⟩
    rw [hil]
    refine h1.own hgb hnc hcm ?_ ?_ ?_
    · rw [List.length_append, markC_len, hil]
      rw [List.length_append, markC_len] at hcl
      exact hcl
    · rw [List.take_of_length_le (by rw [markC_len, hil]; exact Nat.le_refl _)]
    · rw [markC_len, hil]

set_option maxRecDepth 100000 in
set_option maxHeartbeats 400000 in
theorem tidy1_any (m : Mark) (W : World) : Calls Tryz.prog 178 #[.agg #[St m.1, U m.2]] W fun e w' => e = .returned (.bool (noM m)) ∧ Ext W w' := by
  obtain ⟨s, n⟩ := m
  cases s with
  | nil =>
    go_enter Tryz.func178, Tryz.ntmps178
    go_wp2
    go_ret
    exact ⟨by simp [noM], (Ext.refl _).alloc _⟩
  | cons a r =>
    cases n with
    | zero =>
      go_enter Tryz.func178, Tryz.ntmps178
      go_wp2
      go_ret
      exact ⟨by simp [noM], (Ext.refl _).alloc _⟩
    | succ n =>
      have h0 : (((n + 1 : Nat) : Int) == 0) = false := by rw [beq_eq_false_iff_ne]; omega
      have h1 : ((n : Int) + 1 == 0) = false := by rw [beq_eq_false_iff_ne]; omega
      go_enter Tryz.func178, Tryz.ntmps178
      go_wp2
      go_ret
      exact ⟨by simp [noM], (Ext.refl _).alloc _⟩

theorem pred_tidy1 (base : Nat) : PredM Tryz.prog 178 #[] base (fun _ => True) noM where
  enters := enters_of Tryz.func178 (by kernel_rfl) rfl
  keep _ _ _ _ := trivial
  does m W _ := tidy1_any m W

theorem tidyM_len (l : List Mark) : (tidyM l).length ≤ l.length := by
  have h1 : ∀ (a : Mark) (l : List Mark), (compactFrom a l).length ≤ l.length := by
    intro a l
    induction l generalizing a with
    | nil => simp [compactFrom]
    | cons b r ih => unfold compactFrom; split; exact Nat.le_succ_of_le (ih b); simpa using ih b
  have h2 : ∀ l : List Mark, (compactM l).length ≤ l.length := by
    intro l
    cases l with
    | nil => simp [compactM]
    | cons a r => simpa [compactM] using h1 a r
  refine Nat.le_trans (h2 _) ?_
  rw [(isort_perm _).length_eq]
  exact List.length_filter_le _ _

set_option maxRecDepth 100000 in
set_option maxHeartbeats 400000 in
theorem tidy_any {S : Nat → Prop} {v : Value} {l : List Mark} {w : World} (hv : Sl markT w S v l) (hl : l.length ≤ 1099511627776) :
    Calls Tryz.prog 104 #[v] w fun e w' => ∃ v', e = .returned v' ∧ Own w' w.heap.size 25 2 v' (tidyM l).length ((tidyM l).flatMap markC) ∧ Ext w w' := by
  have H1 := Lib.hid (clone_mark hv hl)
  clear hv
  go_enter Tryz.func104, Tryz.ntmps104
  go_wp2_with fail
  refine H1.out.mono ?_
  rintro e w1 ⟨v1, rfl, hv1, hx1⟩
  have H2 := Lib.hid (delete_mark (own_markT.1 hv1) (pred_tidy1 w.heap.size) trivial hx1.size)
  clear hv1
  go_wp2_with fail
  refine H2.out.mono ?_
  rintro e w2 ⟨v2, rfl, hv2, hx2⟩
  have hfl : (l.filter fun m => !noM m).length ≤ 1099511627776 := Nat.le_trans (List.length_filter_le _ _) hl
  have hx12 : Ext w w2 := Below.trans hx1 hx2
  have H3 := Lib.hid (sort_mark hv2 hx12.size hfl)
  clear hv2
  go_wp2_with fail
  refine H3.out.mono ?_
  rintro e w3 ⟨rfl, hv3, hx3⟩
  have hx13 : Ext w w3 := Below.trans hx12 hx3
  have H4 := Lib.hid (compact_mark hv3 hx13.size)
  clear hv3
  go_wp2_with fail
  refine H4.out.mono ?_
  rintro e w4 ⟨v4, rfl, hv4, hx4⟩
  have HV := Lib.hid hv4
  clear hv4
  go_wp2_with fail
  go_ret
  exact ⟨_, rfl, HV.out, Below.trans hx13 hx4⟩
end Go.Proofs.YtdikcgmdmcfpfaaGreat
namespace Go.Proofs.YtdikcgmdmcfpfaaGreat
open Go.RowKit Go.Shelf

/-- what a round leaves as it lay: the blocks of S that lay below n -/
def KpS (S : Nat → Prop) (n : Nat) (W W' : World) : Prop := W.heap.size ≤ W'.heap.size ∧ ∀ b, S b → b < n → W'.heap[b]? = W.heap[b]?
theorem KpS.refl (S : Nat → Prop) (n : Nat) (W : World) : KpS S n W W := ⟨Nat.le_refl _, fun _ _ _ => rfl⟩
theorem KpS.trans {S : Nat → Prop} {n : Nat} {A B C : World} (h : KpS S n A B) (k : KpS S n B C) : KpS S n A C := ⟨Nat.le_trans h.1 k.1, fun b hb hn => (k.2 b hb hn).trans (h.2 b hb hn)⟩
theorem KpS.put {S : Nat → Prop} {n : Nat} {w : World} (hn : n ≤ w.heap.size) (W : World) (l : Nat) (o o' : Obj) (hl : w.heap.size ≤ l) (_ : W.heap[l]? = some o) (_ : o.isCells = false) (_ : o.isWalk = false) : KpS S n W (W.putObj l o') :=
  have h := grownBy_putObj' W l o'
  ⟨h.size, fun b _ hb => h.block b (by have := (Array.getElem?_eq_some_iff.1 ‹W.heap[l]? = some o›).1; omega) (fun e => by cases e; omega)⟩
theorem Ext.kpS {S : Nat → Prop} {n : Nat} {W W' : World} (h : Ext W W') (hn : n ≤ W.heap.size) : KpS S n W W' := ⟨h.size, fun b _ hb => h.block b (by omega)⟩
theorem KpS.grew {S : Nat → Prop} {n : Nat} {W W' : World} {v v' : Value} (h : Grew W W' v v') (hn : n ≤ W.heap.size) (hv : ∀ b, ownBlk v b → S b → n ≤ b) : KpS S n W W' :=
  ⟨h.size, fun b hb hbn => h.same b (by omega) (fun ho => by have := hv b ho hb; omega)⟩
theorem KpS.set {S : Nat → Prop} {n : Nat} (W : World) {p : Addr} (hp : S p.block → n ≤ p.block) (v : Value) : KpS S n W (W.setCell p v) :=
  ⟨by simp, fun b hb hbn => Below.heap_setCell W p v b (fun e => by subst e; have := hp hb; omega)⟩

theorem ext_grownBy {W W' : World} (h : Ext W W') : W.grownBy W' none := by
  refine ⟨?_, ?_, ?_, ?_, ?_⟩
  all_goals first | exact h.os | exact h.tape | exact h.output | exact h.size | exact fun k hk _ => h.block k hk

/-- a box, just laid -/
theorem box_new (w : World) (v : Value) (t : TypeId) : (w.alloc (.cells #[v] t)).cell? ⟨w.heap.size, 0, none⟩ = some v ∧ (w.alloc (.cells #[v] t)).frozen? ⟨w.heap.size, 0, none⟩ = false :=
  ⟨by simp [go_sem], by unfold World.frozen?; rw [World.alloc_heap_new]; rfl⟩

/-- a cell abides -/
theorem cell_from {β : Type} {B b o : Nat} {f : β → Value} : OwnFrom B (fun s W => W.cell? ⟨b, o, none⟩ = some (f s)) := fun s W W' row hs hg hr => cell_kept hs hg (fun r e => (hr r e).2)
theorem Own.kept {w w' : World} {base T k n : Nat} {v : Value} {xs : List Value} {row : Option Nat} (h : Own w base T k v n xs) (hg : w.grownBy w' row) (hr : ∀ r, row = some r → ∃ o : Obj, w.heap[r]? = some o ∧ o.isCells = false) : Own w' base T k v n xs :=
  h.keep fun b hb hlt => hg.block b hlt fun e => by
    obtain ⟨o, ho, hc⟩ := hr b e.symm
    obtain ⟨g, n', c, rfl, hc0, rfl⟩ := hb
    rcases h.2 with ⟨A, hv, -⟩ | ⟨g', cap, cur, hv, -, hg', -⟩
    · injection hv with e1 e2 e3; omega
    · cases hv
      rw [hg'] at ho
      cases ho
      cases hc
/-- what is no cells stays where only cells are written -/
theorem Grew.keeps {W W' : World} {v v' : Value} {base T k n : Nat} {xs : List Value} (h : Grew W W' v v') (ho : Own W base T k v n xs) : KeepsOthers W W' :=
  ⟨h.size, fun b o hb hc => (h.same b (Array.getElem?_eq_some_iff.1 hb).1 (fun hob => by
    obtain ⟨g, n', c, rfl, hc0, rfl⟩ := hob
    rcases ho.2 with ⟨A, hv, -⟩ | ⟨g', cap, cur, hv, -, hg', -⟩
    · injection hv with e1 e2 e3; omega
    · cases hv
      rw [hg'] at hb
      cases hb
      cases hc)).trans hb⟩

theorem wpListIn_append_Own {F : Fence} {nF : Nat} {P : Program} {w : World} {ops : Array Oper} {rest : List Oper} {o : Oper} {a : Act} {Q : Exit → Act → World → Prop} (hgd : o.guard = none) (s x : Operand) (t : TypeId)
    (ho : o.op = .call { callee := .builtin .append, args := #[s, x], argTypes := #[t, t] })
    (base e size bytes : Nat) (z : Value) (ht : P.underlying t = some (.slice e)) (hinfo : (P.info? e).map (fun i => (i.zero, i.size, i.bytes)) = some (some z, size, bytes)) (hzs : z.cells.size = size) (hsz : 0 < size)
    (v : Value) (n : Nat) (xs : List Value) (hs : a.eval s = v) (hown : Own w base e size v n xs)
    (A : Option Addr) (m c : Nat) (news : List Value) (hx : a.eval x = .slice A m c) (hsrc : Src w size A m news)
    (hbytes : (n + m) * bytes ≤ 140737488355328) (h63 : n + m ≤ 9223372036854775807) (hbase : base ≤ w.heap.size)
    (h : ∀ v' w', Own w' base e size v' (n + m) (xs ++ news) → Grew w w' v v' → wpListIn F nF P ops Q rest (a.put o.dst v') w') : wpListIn F nF P ops Q (o :: rest) a w := by
  obtain ⟨i, hi, hz, hsize, hby⟩ := info_parts hinfo
  obtain ⟨v', w', hrun, h2, g1, g2, g3, g4, g5, g6⟩ := run_append_Own (P := P) w base t o.type e i z size bytes ht hi hz hsize hby hzs hsz v n xs hown A m c news hsrc hbytes h63 hbase
  refine wpListIn_plain hgd fun K hK' => ?_
  unfold Oper.wpIn
  refine ⟨?_, ?_⟩
  · simp [Oper.about, ho, resolve, Target.leads, Sem.run_pure]
  · rw [Oper.semAt_plain F _ _ (by rw [ho]; intro c hc'; cases hc')]
    simp [execOp, ho, resolve, invoke, builtin, hs, hx, hrun, Result.andThen]
    exact hK' _ _ (h v' w' h2 ⟨g1, g2, g3, g4, g5, g6⟩)

/-- make([]T, 0, c) -/
theorem run_make_Own {P : Program} {w : World} (base t e size bytes c : Nat) (z : Value) (ht : P.underlying t = some (.slice e)) (hinfo : (P.info? e).map (fun i => (i.zero, i.size, i.bytes)) = some (some z, size, bytes)) (hzs : z.cells.size = size)
    (hb : bytes * c ≤ 281474976710656) (h63 : c ≤ 9223372036854775807) (hbase : base ≤ w.heap.size) :
    ∃ cur, (Instr.makeSlice t (.int .i64 0) (.int .i64 (c : Int))).run P w = .ok (.slice (some ⟨w.heap.size, 0, none⟩) 0 c) (w.alloc (.cells cur e)) ∧
      Own (w.alloc (.cells cur e)) base e size (.slice (some ⟨w.heap.size, 0, none⟩) 0 c) 0 [] := by
  obtain ⟨i, hi, hz, hsize, hby⟩ := info_parts hinfo
  have h63' : (c : Int) ≤ 9223372036854775807 := by omega
  have hb' : (i.bytes : Int) * (c : Int) ≤ 281474976710656 := by
    rw [hby]
    have h : ((bytes * c : Nat) : Int) ≤ 281474976710656 := by omega
    rwa [Int.natCast_mul] at h
  have hr := run_make (P := P) w t e i z ht hi hz .i64 .i64 0 c (Int.le_refl _) (by omega) hb' h63'
  simp only [Int.toNat_zero, Int.toNat_natCast] at hr
  have ho := World.ownsRow_made (base := base) w _ c hbase (by simpa [maxLen] using h63) (size_madeCells z.cells (c * i.size)) (e := e)
  exact ⟨_, hr, Own.of_ownsRow (by rw [← hsize]; exact ho)⟩
end Go.Proofs.YtdikcgmdmcfpfaaGreat
namespace Go.Proofs.YtdikcgmdmcfpfaaGreat
open Go.RowKit Go.Shelf
attribute [local go_sem] Oper.semAt_some

abbrev Pair := Str × Nat × Nat
def pairV (p : Pair) : Value := .agg #[St p.1, U p.2.1, U p.2.2]

/-- one pair for each path of either -/
def pairsL : List Mark → List Mark → List Pair
  | [], [] => []
  | a :: r, [] => (a.1, a.2, 0) :: pairsL r []
  | [], b :: s => (b.1, 0, b.2) :: pairsL [] s
  | a :: r, b :: s =>
    if a.1 == b.1 then (b.1, a.2, b.2) :: pairsL r s
    else if ltS a.1 b.1 then (a.1, a.2, 0) :: pairsL r (b :: s)
    else (b.1, 0, b.2) :: pairsL (a :: r) s
termination_by a b => a.length + b.length

/-- a mark of a slice, behind rounds that leave S -/
theorem mark_kp {w wr : World} {S : Nat → Prop} {A : Option Addr} {n c N : Nat} {l pre post : List Mark} {m : Mark} (h : Sl markT w S (.slice A n c) l) (hn : ∀ b, S b → b < w.heap.size → b < N) (hb : KpS S N w wr) (hl : l = pre ++ m :: post) :
    ∃ b o, A = some ⟨b, o, none⟩ ∧ wr.cell? ⟨b, o + pre.length * 2, none⟩ = some (St m.1) ∧ wr.cell? ⟨b, o + pre.length * 2 + 1, none⟩ = some (U m.2) := by
  obtain ⟨b, o, vs, c', hv, hS, rfl, hc⟩ := h.at_ hl
  injection hv with e1 e2 e3
  subst e1
  have h0 := hc 0 _ rfl
  have h1 := hc 1 _ rfl
  have hbl : b < w.heap.size := blk_of_cell h0
  exact ⟨b, o, rfl, (World.cell?_of_block (a := ⟨b, _, none⟩) (hb.2 b hS (hn b hS hbl))).trans h0, (World.cell?_of_block (a := ⟨b, _, none⟩) (hb.2 b hS (hn b hS hbl))).trans h1⟩
theorem cell_kp {w wr : World} {S : Nat → Prop} {b o N : Nat} {v : Value} (h : w.cell? ⟨b, o, none⟩ = some v) (hS : S b) (hn : b < N) (hb : KpS S N w wr) : wr.cell? ⟨b, o, none⟩ = some v :=
  (World.cell?_of_block (a := ⟨b, o, none⟩) (hb.2 b hS hn)).trans h

theorem pairsL_cons_nil (a : Mark) (r : List Mark) : pairsL (a :: r) [] = (a.1, a.2, 0) :: pairsL r [] := by rw [pairsL]
theorem pairsL_nil_cons (b : Mark) (s : List Mark) : pairsL [] (b :: s) = (b.1, 0, b.2) :: pairsL [] s := by rw [pairsL]
theorem pairsL_eq {an bn : Nat} (r s : List Mark) (k : Str) : pairsL ((k, an) :: r) ((k, bn) :: s) = (k, an, bn) :: pairsL r s := by rw [pairsL]; simp
theorem pairsL_lt {a b : Mark} (r s : List Mark) (h1 : (a.1 == b.1) = false) (h2 : ltS a.1 b.1 = true) : pairsL (a :: r) (b :: s) = (a.1, a.2, 0) :: pairsL r (b :: s) := by rw [pairsL, if_neg (by simp [h1]), if_pos h2]
theorem pairsL_gt {a b : Mark} (r s : List Mark) (h1 : (a.1 == b.1) = false) (h2 : ltS a.1 b.1 = false) : pairsL (a :: r) (b :: s) = (b.1, 0, b.2) :: pairsL (a :: r) s := by rw [pairsL, if_neg (by simp [h1]), if_neg (by simp [h2])]
theorem pair_new (wr : World) (t : TypeId) : (wr.alloc (.cells #[St [], U 0, U 0] t)).cell? ⟨wr.heap.size, 0, none⟩ = some (St []) ∧ (wr.alloc (.cells #[St [], U 0, U 0] t)).cell? ⟨wr.heap.size, 1, none⟩ = some (U 0) ∧
    (wr.alloc (.cells #[St [], U 0, U 0] t)).cell? ⟨wr.heap.size, 2, none⟩ = some (U 0) ∧ ∀ o, (wr.alloc (.cells #[St [], U 0, U 0] t)).frozen? ⟨wr.heap.size, o, none⟩ = false :=
  ⟨by simp [go_sem], by simp [go_sem], by simp [go_sem], fun o => by unfold World.frozen?; rw [World.alloc_heap_new]; rfl⟩

set_option maxRecDepth 100000 in
set_option maxHeartbeats 1000000 in
theorem pairs1_in (n l B1 B2 n₀ : Nat) {S : Nat → Prop} {va vb : Value} {A B : List Mark} (J Jx : List Pair → World → Prop) (hn : 1 ≤ n)
    (W : World) (hJ : AbidesFrom W.heap.size J) (hn₀ : n₀ ≤ W.heap.size)
    (hY : ∀ pre x W, J pre W → pre.length < (pairsL A B).length → YieldAt Fence.wide (n - 1) Tryz.prog l #[pairV x] W fun e W' =>
      (e = .returned (.bool true) ∧ J (pre ++ [x]) W' ∧ KpS S n₀ W W') ∨ (e = .returned (.bool false) ∧ Jx (pre ++ [x]) W'))
    (h1 : W.cell? ⟨B1, 0, none⟩ = some va) (h2 : W.cell? ⟨B2, 0, none⟩ = some vb) (hS1 : S B1 ∧ B1 < n₀) (hS2 : S B2 ∧ B2 < n₀) (ha : Sl markT W S va A) (hb : Sl markT W S vb B) (hSn : ∀ b, S b → b < W.heap.size → b < n₀) (h0 : J [] W) :
    CallsIn Fence.wide n Tryz.prog 177 #[.func (.yield l) #[] #[], .pointer (some ⟨B1, 0, none⟩), .pointer (some ⟨B2, 0, none⟩)] W fun e W' => (∃ v, e = .returned v) ∧
      ((∃ ys, ys = pairsL A B ∧ J ys W') ∨ (∃ pre, pre <+: pairsL A B ∧ Jx pre W')) := by
  obtain ⟨Aa, ca, rfl, ha1, ha2⟩ := ha.form
  obtain ⟨Ab, cb, rfl, hb1, hb2⟩ := hb.form
  refine callsIn_of_wp Tryz.func177 rfl trivial ?_ rfl
  simp only [Tryz.ntmps177, List.size_toArray, List.length_cons, List.length_nil, Nat.reduceAdd, Nat.reduceSub, Array.replicate_succ, Array.replicate_zero, List.push_toArray, List.append_toArray, List.nil_append, List.cons_append]
  gi_wp2
  gi_loopw [4, 5] (fun i j wr => ∃ preA postA preB postB done, A = preA ++ postA ∧ B = preB ++ postB ∧ i = I preA.length ∧ j = I preB.length ∧ pairsL A B = done ++ pairsL postA postB ∧ J done wr ∧ KpS S n₀ W wr)
    (fun i j _ => A.length + B.length - (intOf i).toNat - (intOf j).toNat)
  case atStart => exact ⟨[], A, [], B, [], rfl, rfl, rfl, rfl, rfl, h0, KpS.refl _ _ _⟩
  case round =>
    obtain ⟨preA, postA, preB, postB, done, hA, hB, rfl, rfl, hp, hJs, hk⟩ := hrel
    have c1 := cell_kp h1 hS1.1 hS1.2 hk
    have c2 := cell_kp h2 hS2.1 hS2.2 hk
    cases postA with
    | nil =>
      cases postB with
      | nil =>
        rw [List.append_nil] at hA hB
        subst hA; subst hB
        have HP := Lib.hid hp
        clear hp
        gi_wp2
        go_end0
        exact ⟨⟨_, rfl⟩, .inl ⟨_, rfl, by rw [HP.out]; simpa [pairsL] using hJs⟩⟩
      | cons b postB =>
        rw [List.append_nil] at hA
        subst hA
        obtain ⟨gb, ob, rfl, db0, db1⟩ := mark_kp hb hSn hk hB
        have hlb : preB.length < B.length := by rw [hB]; simp
        have HB := Lib.hid hB
        have HP := Lib.hid hp
        have HJ := Lib.hid hJ
        have HY := Lib.hid hY
        have HK := Lib.hid hk
        have HS := Lib.hid hJs
        have e1 : ((A.length : Int) == A.length) = true := by simp
        have e2 : ((preB.length : Int) == B.length) = false := by rw [beq_eq_false_iff_ne]; omega
        have hx := (Ext.refl wr).alloc (.cells #[St [], U 0, U 0] 173)
        have c1' := hx.cell c1
        have c2' := hx.cell c2
        have db0' := hx.cell db0
        have db1' := hx.cell db1
        have hx0 := pair_new wr 173
        have n1 : B1 ≠ wr.heap.size := by have := blk_of_cell c1; omega
        have n2 : B2 ≠ wr.heap.size := by have := blk_of_cell c2; omega
        have n4 : gb ≠ wr.heap.size := by have := blk_of_cell db0; omega
        clear hp hJ hY hk hJs hb ha hB
        gi_wp2
        generalize wr.alloc (.cells #[St [], U 0, U 0] 173) = W1 at *
        gi_quiet (fail)
        gi_wp2
        gi_quiet (fail)
        gi_wp2
        gi_region
        generalize hW2 : World.setCell _ _ _ = W2
        have hE : Ext wr W2 := by rw [← hW2]; exact ((hx.drewN _).set (by simp) _).set (by simp) _
        have p0 : W2.cell? ⟨wr.heap.size, 0, none⟩ = some (St b.1) := by rw [← hW2]; simp [go_sem, hx0.1, hx0.2.1, hx0.2.2.1]
        have p1 : W2.cell? ⟨wr.heap.size, 1, none⟩ = some (U 0) := by rw [← hW2]; simp [go_sem, hx0.1, hx0.2.1, hx0.2.2.1]
        have p2 : W2.cell? ⟨wr.heap.size, 2, none⟩ = some (U b.2) := by rw [← hW2]; simp [go_sem, hx0.1, hx0.2.1, hx0.2.2.1]
        have HE := Lib.hid hE
        obtain ⟨fn, tmps, assign, body, hy, hR⟩ := HY.out done (b.1, 0, b.2) W2 (HJ.out done wr W2 none HS.out (ext_grownBy hE) (by simp)) (by rw [HP.out, pairsL_nil_cons]; simp)
        clear hW2 hE
        dsimp only [pairV] at hy
        gi_wp2
        refine hR.mono ?_
        rintro e W3 (⟨rfl, hJ3, hk3⟩ | ⟨rfl, hJx3⟩)
        · gi_wp2
          go_roundw
          case rel => exact ⟨A, [], preB ++ [b], postB, done ++ [(b.1, 0, b.2)], by simp, by rw [HB.out]; simp, by simp, by simp, by rw [HP.out, pairsL_nil_cons]; simp, hJ3, (HK.out.trans (HE.out.kpS (Nat.le_trans hn₀ HK.out.1))).trans hk3⟩
          case measure => simp [intOf]; omega
        · gi_wp2
          refine bodyPost_ret (results_none rfl _ _ _) rfl ?_
          exact ⟨⟨_, rfl⟩, .inr ⟨done ++ [(b.1, 0, b.2)], ⟨_, by rw [HP.out, pairsL_nil_cons, List.append_assoc]; rfl⟩, hJx3⟩⟩
    | cons a postA =>
      cases postB with
      | nil =>
        rw [List.append_nil] at hB
        subst hB
        obtain ⟨ga, oa, rfl, da0, da1⟩ := mark_kp ha hSn hk hA
        have hla : preA.length < A.length := by rw [hA]; simp
        have HA := Lib.hid hA
        have HP := Lib.hid hp
        have HJ := Lib.hid hJ
        have HY := Lib.hid hY
        have HK := Lib.hid hk
        have HS := Lib.hid hJs
        have e1 : ((preA.length : Int) == A.length) = false := by rw [beq_eq_false_iff_ne]; omega
        have e2 : ((B.length : Int) == B.length) = true := by simp
        have hx := (Ext.refl wr).alloc (.cells #[St [], U 0, U 0] 173)
        have c1' := hx.cell c1
        have c2' := hx.cell c2
        have da0' := hx.cell da0
        have da1' := hx.cell da1
        have hx0 := pair_new wr 173
        have n1 : B1 ≠ wr.heap.size := by have := blk_of_cell c1; omega
        have n2 : B2 ≠ wr.heap.size := by have := blk_of_cell c2; omega
        have n3 : ga ≠ wr.heap.size := by have := blk_of_cell da0; omega
        clear hp hJ hY hk hJs hb ha hA
        gi_wp2
        generalize wr.alloc (.cells #[St [], U 0, U 0] 173) = W1 at *
        gi_quiet (fail)
        gi_wp2
        gi_quiet (fail)
        gi_wp2
        gi_region
        generalize hW2 : World.setCell _ _ _ = W2
        have hE : Ext wr W2 := by rw [← hW2]; exact ((hx.drewN _).set (by simp) _).set (by simp) _
        have p0 : W2.cell? ⟨wr.heap.size, 0, none⟩ = some (St a.1) := by rw [← hW2]; simp [go_sem, hx0.1, hx0.2.1, hx0.2.2.1]
        have p1 : W2.cell? ⟨wr.heap.size, 1, none⟩ = some (U a.2) := by rw [← hW2]; simp [go_sem, hx0.1, hx0.2.1, hx0.2.2.1]
        have p2 : W2.cell? ⟨wr.heap.size, 2, none⟩ = some (U 0) := by rw [← hW2]; simp [go_sem, hx0.1, hx0.2.1, hx0.2.2.1]
        have HE := Lib.hid hE
        obtain ⟨fn, tmps, assign, body, hy, hR⟩ := HY.out done (a.1, a.2, 0) W2 (HJ.out done wr W2 none HS.out (ext_grownBy hE) (by simp)) (by rw [HP.out, pairsL_cons_nil]; simp)
        clear hW2 hE
        dsimp only [pairV] at hy
        gi_wp2
        refine hR.mono ?_
        rintro e W3 (⟨rfl, hJ3, hk3⟩ | ⟨rfl, hJx3⟩)
        · gi_wp2
          go_roundw
          case rel => exact ⟨preA ++ [a], postA, B, [], done ++ [(a.1, a.2, 0)], by rw [HA.out]; simp, by simp, by simp, by simp, by rw [HP.out, pairsL_cons_nil]; simp, hJ3, (HK.out.trans (HE.out.kpS (Nat.le_trans hn₀ HK.out.1))).trans hk3⟩
          case measure => simp [intOf]; omega
        · gi_wp2
          refine bodyPost_ret (results_none rfl _ _ _) rfl ?_
          exact ⟨⟨_, rfl⟩, .inr ⟨done ++ [(a.1, a.2, 0)], ⟨_, by rw [HP.out, pairsL_cons_nil, List.append_assoc]; rfl⟩, hJx3⟩⟩
      | cons b postB =>
        rcases str_cases a.1 b.1 with ⟨q1, q2, q3, q4, q5⟩ | q | ⟨q1, q2, q3, q4, q5⟩
        · have HQ := Lib.hid (pairsL_lt postA postB q3 q1)
          obtain ⟨ga, oa, rfl, da0, da1⟩ := mark_kp ha hSn hk hA
          obtain ⟨gb, ob, rfl, db0, db1⟩ := mark_kp hb hSn hk hB
          have hla : preA.length < A.length := by rw [hA]; simp
          have HA := Lib.hid hA
          have hlb : preB.length < B.length := by rw [hB]; simp
          have HB := Lib.hid hB
          have HP := Lib.hid hp
          have HJ := Lib.hid hJ
          have HY := Lib.hid hY
          have HK := Lib.hid hk
          have HS := Lib.hid hJs
          have e1 : ((preA.length : Int) == A.length) = false := by rw [beq_eq_false_iff_ne]; omega
          have e2 : ((preB.length : Int) == B.length) = false := by rw [beq_eq_false_iff_ne]; omega
          have hx := (Ext.refl wr).alloc (.cells #[St [], U 0, U 0] 173)
          have c1' := hx.cell c1
          have c2' := hx.cell c2
          have da0' := hx.cell da0
          have da1' := hx.cell da1
          have db0' := hx.cell db0
          have db1' := hx.cell db1
          have hx0 := pair_new wr 173
          have n1 : B1 ≠ wr.heap.size := by have := blk_of_cell c1; omega
          have n2 : B2 ≠ wr.heap.size := by have := blk_of_cell c2; omega
          have n3 : ga ≠ wr.heap.size := by have := blk_of_cell da0; omega
          have n4 : gb ≠ wr.heap.size := by have := blk_of_cell db0; omega
          clear hp hJ hY hk hJs hb ha hA hB
          gi_wp2
          generalize wr.alloc (.cells #[St [], U 0, U 0] 173) = W1 at *
          gi_quiet (fail)
          gi_wp2
          gi_quiet (fail)
          gi_wp2
          gi_region
          generalize hW2 : World.setCell _ _ _ = W2
          have hE : Ext wr W2 := by rw [← hW2]; exact ((hx.drewN _).set (by simp) _).set (by simp) _
          have p0 : W2.cell? ⟨wr.heap.size, 0, none⟩ = some (St a.1) := by rw [← hW2]; simp [go_sem, hx0.1, hx0.2.1, hx0.2.2.1]
          have p1 : W2.cell? ⟨wr.heap.size, 1, none⟩ = some (U a.2) := by rw [← hW2]; simp [go_sem, hx0.1, hx0.2.1, hx0.2.2.1]
          have p2 : W2.cell? ⟨wr.heap.size, 2, none⟩ = some (U 0) := by rw [← hW2]; simp [go_sem, hx0.1, hx0.2.1, hx0.2.2.1]
          have HE := Lib.hid hE
          obtain ⟨fn, tmps, assign, body, hy, hR⟩ := HY.out done (a.1, a.2, 0) W2 (HJ.out done wr W2 none HS.out (ext_grownBy hE) (by simp)) (by rw [HP.out, HQ.out]; simp)
          clear hW2 hE
          dsimp only [pairV] at hy
          gi_wp2
          refine hR.mono ?_
          rintro e W3 (⟨rfl, hJ3, hk3⟩ | ⟨rfl, hJx3⟩)
          · gi_wp2
            go_roundw
            case rel => exact ⟨preA ++ [a], postA, preB, b :: postB, done ++ [(a.1, a.2, 0)], by rw [HA.out]; simp, HB.out, by simp, by simp, by rw [HP.out, HQ.out]; simp, hJ3, (HK.out.trans (HE.out.kpS (Nat.le_trans hn₀ HK.out.1))).trans hk3⟩
            case measure => simp [intOf]; omega
          · gi_wp2
            refine bodyPost_ret (results_none rfl _ _ _) rfl ?_
            exact ⟨⟨_, rfl⟩, .inr ⟨done ++ [(a.1, a.2, 0)], ⟨_, by rw [HP.out, HQ.out, List.append_assoc]; rfl⟩, hJx3⟩⟩
        · obtain ⟨ky, an⟩ := a
          obtain ⟨ks, bn⟩ := b
          obtain rfl : ky = ks := q
          have HQ := Lib.hid (pairsL_eq (an := an) (bn := bn) postA postB ky)
          obtain ⟨ga, oa, rfl, da0, da1⟩ := mark_kp ha hSn hk hA
          obtain ⟨gb, ob, rfl, db0, db1⟩ := mark_kp hb hSn hk hB
          have hla : preA.length < A.length := by rw [hA]; simp
          have HA := Lib.hid hA
          have hlb : preB.length < B.length := by rw [hB]; simp
          have HB := Lib.hid hB
          have HP := Lib.hid hp
          have HJ := Lib.hid hJ
          have HY := Lib.hid hY
          have HK := Lib.hid hk
          have HS := Lib.hid hJs
          have e1 : ((preA.length : Int) == A.length) = false := by rw [beq_eq_false_iff_ne]; omega
          have e2 : ((preB.length : Int) == B.length) = false := by rw [beq_eq_false_iff_ne]; omega
          have hx := (Ext.refl wr).alloc (.cells #[St [], U 0, U 0] 173)
          have c1' := hx.cell c1
          have c2' := hx.cell c2
          have da0' := hx.cell da0
          have da1' := hx.cell da1
          have db0' := hx.cell db0
          have db1' := hx.cell db1
          have hx0 := pair_new wr 173
          have n1 : B1 ≠ wr.heap.size := by have := blk_of_cell c1; omega
          have n2 : B2 ≠ wr.heap.size := by have := blk_of_cell c2; omega
          have n3 : ga ≠ wr.heap.size := by have := blk_of_cell da0; omega
          have n4 : gb ≠ wr.heap.size := by have := blk_of_cell db0; omega
          clear hp hJ hY hk hJs hb ha hA hB
          gi_wp2
          generalize wr.alloc (.cells #[St [], U 0, U 0] 173) = W1 at *
          gi_quiet (fail)
          gi_wp2
          gi_quiet (fail)
          gi_wp2
          gi_region
          generalize hW2 : World.setCell _ _ _ = W2
          have hE : Ext wr W2 := by rw [← hW2]; exact ((hx.drewN _).set (by simp) _).set (by simp) _
          have p0 : W2.cell? ⟨wr.heap.size, 0, none⟩ = some (St ky) := by rw [← hW2]; simp [go_sem, hx0.1, hx0.2.1, hx0.2.2.1]
          have p1 : W2.cell? ⟨wr.heap.size, 1, none⟩ = some (U an) := by rw [← hW2]; simp [go_sem, hx0.1, hx0.2.1, hx0.2.2.1]
          have p2 : W2.cell? ⟨wr.heap.size, 2, none⟩ = some (U 0) := by rw [← hW2]; simp [go_sem, hx0.1, hx0.2.1, hx0.2.2.1]
          have f0 : W2.frozen? ⟨wr.heap.size, 0, none⟩ = false := by rw [← hW2]; simp [go_sem, hx0.2.2.2]
          have f1 : W2.frozen? ⟨wr.heap.size, 1, none⟩ = false := by rw [← hW2]; simp [go_sem, hx0.2.2.2]
          have f2 : W2.frozen? ⟨wr.heap.size, 2, none⟩ = false := by rw [← hW2]; simp [go_sem, hx0.2.2.2]
          have c1'' : W2.cell? _ = _ := hE.cell c1
          have c2'' : W2.cell? _ = _ := hE.cell c2
          have db0'' : W2.cell? _ = _ := hE.cell db0
          have db1'' : W2.cell? _ = _ := hE.cell db1
          clear hW2
          gi_wp2
          gi_region
          generalize hW3 : World.drew _ = W4
          have hE4 : Ext wr W4 := by rw [← hW3]; first | exact (((hE.drewN _).set (Nat.le_refl _) _).set (Nat.le_refl _) _).drew | exact ((hE.set (Nat.le_refl _) _).set (Nat.le_refl _) _).drew | exact ((hE.drew.set (Nat.le_refl _) _).set (Nat.le_refl _) _).drew
          have p0' : W4.cell? ⟨wr.heap.size, 0, none⟩ = some (St ky) := by rw [← hW3]; simp [go_sem, p0, p1, p2]
          have p1' : W4.cell? ⟨wr.heap.size, 1, none⟩ = some (U an) := by rw [← hW3]; simp [go_sem, p0, p1, p2]
          have p2' : W4.cell? ⟨wr.heap.size, 2, none⟩ = some (U bn) := by rw [← hW3]; simp [go_sem, p0, p1, p2]
          have HE := Lib.hid hE4
          obtain ⟨fn, tmps, assign, body, hy, hR⟩ := HY.out done (ky, an, bn) W4 (HJ.out done wr W4 none HS.out (ext_grownBy hE4) (by simp)) (by rw [HP.out, HQ.out]; simp)
          clear hW3 hE4
          dsimp only [pairV] at hy
          gi_wp2
          refine hR.mono ?_
          rintro e W3 (⟨rfl, hJ3, hk3⟩ | ⟨rfl, hJx3⟩)
          · gi_wp2
            go_roundw
            case rel => exact ⟨preA ++ [(ky, an)], postA, preB ++ [(ky, bn)], postB, done ++ [(ky, an, bn)], by rw [HA.out]; simp, by rw [HB.out]; simp, by simp, by simp, by rw [HP.out, HQ.out]; simp, hJ3, (HK.out.trans (HE.out.kpS (Nat.le_trans hn₀ HK.out.1))).trans hk3⟩
            case measure => simp [intOf]; omega
          · gi_wp2
            refine bodyPost_ret (results_none rfl _ _ _) rfl ?_
            exact ⟨⟨_, rfl⟩, .inr ⟨done ++ [(ky, an, bn)], ⟨_, by rw [HP.out, HQ.out, List.append_assoc]; rfl⟩, hJx3⟩⟩
        · have HQ := Lib.hid (pairsL_gt postA postB q3 q1)
          obtain ⟨ga, oa, rfl, da0, da1⟩ := mark_kp ha hSn hk hA
          obtain ⟨gb, ob, rfl, db0, db1⟩ := mark_kp hb hSn hk hB
          have hla : preA.length < A.length := by rw [hA]; simp
          have HA := Lib.hid hA
          have hlb : preB.length < B.length := by rw [hB]; simp
          have HB := Lib.hid hB
          have HP := Lib.hid hp
          have HJ := Lib.hid hJ
          have HY := Lib.hid hY
          have HK := Lib.hid hk
          have HS := Lib.hid hJs
          have e1 : ((preA.length : Int) == A.length) = false := by rw [beq_eq_false_iff_ne]; omega
          have e2 : ((preB.length : Int) == B.length) = false := by rw [beq_eq_false_iff_ne]; omega
          have hx := (Ext.refl wr).alloc (.cells #[St [], U 0, U 0] 173)
          have c1' := hx.cell c1
          have c2' := hx.cell c2
          have da0' := hx.cell da0
          have da1' := hx.cell da1
          have db0' := hx.cell db0
          have db1' := hx.cell db1
          have hx0 := pair_new wr 173
          have n1 : B1 ≠ wr.heap.size := by have := blk_of_cell c1; omega
          have n2 : B2 ≠ wr.heap.size := by have := blk_of_cell c2; omega
          have n3 : ga ≠ wr.heap.size := by have := blk_of_cell da0; omega
          have n4 : gb ≠ wr.heap.size := by have := blk_of_cell db0; omega
          clear hp hJ hY hk hJs hb ha hA hB
          gi_wp2
          generalize wr.alloc (.cells #[St [], U 0, U 0] 173) = W1 at *
          gi_quiet (fail)
          gi_wp2
          gi_quiet (fail)
          gi_wp2
          gi_region
          generalize hW2 : World.setCell _ _ _ = W2
          have hE : Ext wr W2 := by rw [← hW2]; exact ((hx.drewN _).set (by simp) _).set (by simp) _
          have p0 : W2.cell? ⟨wr.heap.size, 0, none⟩ = some (St b.1) := by rw [← hW2]; simp [go_sem, hx0.1, hx0.2.1, hx0.2.2.1]
          have p1 : W2.cell? ⟨wr.heap.size, 1, none⟩ = some (U 0) := by rw [← hW2]; simp [go_sem, hx0.1, hx0.2.1, hx0.2.2.1]
          have p2 : W2.cell? ⟨wr.heap.size, 2, none⟩ = some (U b.2) := by rw [← hW2]; simp [go_sem, hx0.1, hx0.2.1, hx0.2.2.1]
          have HE := Lib.hid hE
          obtain ⟨fn, tmps, assign, body, hy, hR⟩ := HY.out done (b.1, 0, b.2) W2 (HJ.out done wr W2 none HS.out (ext_grownBy hE) (by simp)) (by rw [HP.out, HQ.out]; simp)
          clear hW2 hE
          dsimp only [pairV] at hy
          gi_wp2
          refine hR.mono ?_
          rintro e W3 (⟨rfl, hJ3, hk3⟩ | ⟨rfl, hJx3⟩)
          · gi_wp2
            go_roundw
            case rel => exact ⟨preA, a :: postA, preB ++ [b], postB, done ++ [(b.1, 0, b.2)], HA.out, by rw [HB.out]; simp, by simp, by simp, by rw [HP.out, HQ.out]; simp, hJ3, (HK.out.trans (HE.out.kpS (Nat.le_trans hn₀ HK.out.1))).trans hk3⟩
            case measure => simp [intOf]; omega
          · gi_wp2
            refine bodyPost_ret (results_none rfl _ _ _) rfl ?_
            exact ⟨⟨_, rfl⟩, .inr ⟨done ++ [(b.1, 0, b.2)], ⟨_, by rw [HP.out, HQ.out, List.append_assoc]; rfl⟩, hJx3⟩⟩
-- end of the cases
end Go.Proofs.YtdikcgmdmcfpfaaGreat
namespace Go.Proofs.YtdikcgmdmcfpfaaGreat
open Go.RowKit Go.Shelf
attribute [local go_sem] Oper.semAt_some

set_option maxHeartbeats 400000 in
theorem pairs_any (va vb : Value) (w : World) (ha : va.oneCell' = true) (hb : vb.oneCell' = true) :
    Calls Tryz.prog 103 #[va, vb] w fun e w' => e = .returned (.func (.func 177) #[] #[.pointer (some ⟨w.heap.size, 0, none⟩), .pointer (some ⟨w.heap.size + 1, 0, none⟩)]) ∧ w' = (w.alloc (.cells #[va] 26)).alloc (.cells #[vb] 26) := by
  go_enter Tryz.func103, Tryz.ntmps103
  go_wp2
  go_ret
  exact ⟨rfl, rfl⟩

theorem pairs_stops (n : Nat) (hn : 1 ≤ n) {S : Nat → Prop} {n₀ B1 B2 : Nat} {va vb : Value} {A B : List Mark} {w : World} (hn₀ : n₀ ≤ w.heap.size) (h1 : w.cell? ⟨B1, 0, none⟩ = some va) (h2 : w.cell? ⟨B2, 0, none⟩ = some vb)
    (hS1 : S B1) (hS2 : S B2) (hSn : ∀ b, S b → b < n₀) (ha : Sl markT w S va A) (hb : Sl markT w S vb B) :
    SeqStopsK Fence.wide n Tryz.prog 177 #[.pointer (some ⟨B1, 0, none⟩), .pointer (some ⟨B2, 0, none⟩)] (fun x => #[pairV x]) (KpS S n₀) (fun ys => ys = pairsL A B) (fun pre => pre <+: pairsL A B) (pairsL A B).length w :=
  fun l J Jx W hW hJ _ hY h0 =>
    pairs1_in n l B1 B2 n₀ J Jx hn W hJ (Nat.le_trans hn₀ hW.size) hY (hW.cell (p := ⟨B1, 0, none⟩) (blk_of_cell h1) |>.trans h1) (hW.cell (p := ⟨B2, 0, none⟩) (blk_of_cell h2) |>.trans h2)
      ⟨hS1, hSn _ hS1⟩ ⟨hS2, hSn _ hS2⟩ (ha.ext (by decide) hW) (hb.ext (by decide) hW) (fun b h _ => hSn b h) h0

def joinM (a b : List Mark) : List Mark := (pairsL (tidyM a) (tidyM b)).map fun p => (p.1, max p.2.1 p.2.2)

theorem pairsL_len (a b : List Mark) : (pairsL a b).length ≤ a.length + b.length := by
  fun_induction pairsL a b <;> simp_all <;> omega

abbrev joinOf (l : List Pair) : List Mark := l.map fun p => (p.1, max p.2.1 p.2.2)

/-- the boxed row of marks that the body of a loop appends to: its box, its row; its blocks lie below m, or from n₀ on -/
def BoxRow (bx base m n₀ : Nat) (T : TypeId) (l : List Mark) (W : World) : Prop :=
  ∃ v, W.cell? ⟨bx, 0, none⟩ = some v ∧ W.frozen? ⟨bx, 0, none⟩ = false ∧ Own W base T 2 v l.length (l.flatMap markC) ∧ (∀ b, ownBlk v b → b ≠ bx ∧ (b < m ∨ n₀ ≤ b)) ∧ n₀ ≤ W.heap.size ∧ bx < m
theorem BoxRow.from (bx base m n₀ : Nat) (T : TypeId) {β : Type} (f : β → List Mark) (B : Nat) : OwnFrom B (fun s W => BoxRow bx base m n₀ T (f s) W) := fun s W W' row ⟨v, h1, h2, h3, h4, h5, h6⟩ hg hr =>
  ⟨v, cell_kept h1 hg (fun r e => (hr r e).2), (frozen_kept h1 hg (fun r e => (hr r e).2)).trans h2, h3.kept hg (fun r e => (hr r e).2), h4, Nat.le_trans h5 hg.size, h6⟩

/-- a store of the row grown into its box -/
theorem BoxRow.grew {bx base m n₀ : Nat} {T : TypeId} {l' : List Mark} {W W' : World} {v v' : Value} (hW : n₀ ≤ W.heap.size) (hbx : bx < m) (hm : m ≤ n₀) (hv1 : W.cell? ⟨bx, 0, none⟩ = some v) (hv2 : W.frozen? ⟨bx, 0, none⟩ = false) (hv4 : ∀ b, ownBlk v b → b ≠ bx ∧ (b < m ∨ n₀ ≤ b))
    (hgr : Grew W W' v v') (hown : Own W' base T 2 v' l'.length (l'.flatMap markC)) : W'.cell? ⟨bx, 0, none⟩ = some v ∧ W'.frozen? ⟨bx, 0, none⟩ = false ∧ BoxRow bx base m n₀ T l' (W'.setCell ⟨bx, 0, none⟩ v') := by
  have hb := blk_of_cell hv1
  have hsame := hgr.same bx hb (fun h => (hv4 _ h).1 rfl)
  have e1 : W'.cell? ⟨bx, 0, none⟩ = some v := (World.cell?_of_block (a := ⟨bx, 0, none⟩) hsame).trans hv1
  have e2 : W'.frozen? ⟨bx, 0, none⟩ = false := by
    unfold World.frozen? at hv2 ⊢
    simp only [] at hv2 ⊢
    rw [hsame]
    exact hv2
  have hblk : ∀ b, ownBlk v' b → b ≠ bx ∧ (b < m ∨ n₀ ≤ b) := fun b hb' => by
    rcases hgr.blk b hb' with h | h
    · exact hv4 b h
    · subst h; exact ⟨by omega, .inr hW⟩
  refine ⟨e1, e2, v', World.cell?_setCell_same' _ _ _ (by rw [e1]; rfl), by rw [World.frozen?_setCell]; exact e2, ?_, hblk, Nat.le_trans hW (by simpa using hgr.size), hbx⟩
  exact hown.keep fun b hb' _ => Below.heap_setCell W' _ v' b (hblk b hb').1
theorem max_cast (a b : Nat) : ((max a b : Nat) : Int) = max (a : Int) (b : Int) := by omega

set_option maxRecDepth 100000 in
set_option maxHeartbeats 1000000 in
theorem join_any {S1 S2 : Nat → Prop} {va vb : Value} {A B : List Mark} {w : World} (ha : Sl markT w S1 va A) (hb : Sl markT w S2 vb B) (hla : A.length ≤ 1099511627776) (hlb : B.length ≤ 1099511627776) :
    Calls Tryz.prog 51 #[va, vb] w fun e w' => ∃ v', e = .returned v' ∧ Own w' w.heap.size 25 2 v' (joinM A B).length ((joinM A B).flatMap markC) ∧ Ext w w' := by
  obtain ⟨cur, hmk, hrow⟩ := run_make_Own (P := Tryz.prog) (w := w) w.heap.size 26 25 2 24 (A.length + B.length) (.agg #[St [], U 0]) Tryz.underlying26 info_mark rfl (by omega) (by omega) (Nat.le_refl _)
  rw [Int.natCast_add] at hmk
  have HA := Lib.hid (fun (W : World) (h : Ext w W) => callsIn_wide (n := 8).2 (tidy_any (ha.ext (by decide) h) hla))
  have HB := Lib.hid (fun (W : World) (h : Ext w W) => callsIn_wide (n := 8).2 (tidy_any (hb.ext (by decide) h) hlb))
  have HR := Lib.hid hrow
  obtain ⟨Aa, ca, rfl, -, -⟩ := ha.form
  obtain ⟨Ab, cb, rfl, -, -⟩ := hb.form
  clear ha hb hrow
  refine (callsIn_wide (n := 9)).1 ?_
  refine callsIn_of_wp_marks Tryz.func51 rfl trivial ?_ rfl
  simp only [Tryz.ntmps51, List.size_toArray, List.length_cons, List.length_nil, Nat.reduceAdd, Nat.reduceSub, Array.replicate_succ, Array.replicate_zero, List.push_toArray, List.append_toArray, List.nil_append, List.cons_append]
  have hx0 : Ext w ((w.alloc (.cells cur 25)).alloc (.cells #[.slice (some ⟨w.heap.size, 0, none⟩) 0 (A.length + B.length)] 26)) := ((Ext.refl w).alloc _).alloc _
  have hbox := box_new (w.alloc (.cells cur 25)) (.slice (some ⟨w.heap.size, 0, none⟩) 0 (A.length + B.length)) 26
  rw [World.size_alloc] at hbox
  have hrow0 := HR.out.alloc (.cells #[.slice (some ⟨w.heap.size, 0, none⟩) 0 (A.length + B.length)] 26)
  have hsz : ((w.alloc (.cells cur 25)).alloc (.cells #[.slice (some ⟨w.heap.size, 0, none⟩) 0 (A.length + B.length)] 26)).heap.size = w.heap.size + 2 := by simp
  gi_wp2
  generalize (w.alloc (.cells cur 25)).alloc (.cells #[.slice (some ⟨w.heap.size, 0, none⟩) 0 (A.length + B.length)] 26) = W0 at *
  refine ⟨trivial, (HA.out _ hx0).mono ?_⟩
  rintro e W1 ⟨va, rfl, hva, hx1⟩
  have hx01 := hx0.trans hx1
  gi_wp2
  refine ⟨trivial, (HB.out _ hx01).mono ?_⟩
  rintro e W2 ⟨vb, rfl, hvb, hx2⟩
  have H3 := Lib.hid (callsIn_wide (n := 8).2 (pairs_any va vb W2 (by obtain ⟨_, _, rfl, -⟩ := hva.form; rfl) (by obtain ⟨_, _, rfl, -⟩ := hvb.form; rfl)))
  have hx3 : Ext W2 ((W2.alloc (.cells #[va] 26)).alloc (.cells #[vb] 26)) := ((Ext.refl W2).alloc _).alloc _
  have c1 : ((W2.alloc (.cells #[va] 26)).alloc (.cells #[vb] 26)).cell? ⟨W2.heap.size, 0, none⟩ = some va := by simp [go_sem]
  have c2 : ((W2.alloc (.cells #[va] 26)).alloc (.cells #[vb] 26)).cell? ⟨W2.heap.size + 1, 0, none⟩ = some vb := by simp [go_sem]
  have hsz3 : ((W2.alloc (.cells #[va] 26)).alloc (.cells #[vb] 26)).heap.size = W2.heap.size + 2 := by simp
  gi_wp2
  refine ⟨trivial, H3.out.mono ?_⟩
  rintro e w3 ⟨rfl, rfl⟩
  gi_wp2
  generalize (W2.alloc (.cells #[va] 26)).alloc (.cells #[vb] 26) = W3 at *
  have hx13 : Ext W0 W3 := (hx1.trans hx2).trans hx3
  have hs1 := hx1.size
  have hs2 := hx2.size
  have hw3 : Ext w W3 := hx0.trans hx13
  have sa : Sl markT W3 (fun b => w.heap.size + 2 ≤ b ∧ b < W3.heap.size) va (tidyM A) :=
    ((own_markT (S := fun _ => False).2 hva).ext (hx2.trans hx3)).sl (by decide) (fun _ _ h => h.elim) (fun b h h' => ⟨by omega, h'⟩)
  have sb : Sl markT W3 (fun b => w.heap.size + 2 ≤ b ∧ b < W3.heap.size) vb (tidyM B) :=
    ((own_markT (S := fun _ => False).2 hvb).ext hx3).sl (by decide) (fun _ _ h => h.elim) (fun b h h' => ⟨by omega, h'⟩)
  have hl1 := tidyM_len A
  have hl2 := tidyM_len B
  have hl3 := pairsL_len (tidyM A) (tidyM B)
  refine wpIn_rangeFunc_ownH rfl (by omega) (gf := 177) (lb := #[.pointer (some ⟨W2.heap.size, 0, none⟩), .pointer (some ⟨W2.heap.size + 1, 0, none⟩)]) rfl trivial (enters_of Tryz.func177 (by kernel_rfl) rfl)
    (pairs_stops 8 (by omega) (w := W3) (n₀ := W3.heap.size) (S := fun b => w.heap.size + 2 ≤ b ∧ b < W3.heap.size) (Nat.le_refl _) c1 c2 ⟨by omega, by omega⟩ ⟨by omega, by omega⟩ (fun b h => h.2) sa sb)
    (fun h k => h.trans k) (KpS.put (Nat.le_refl _)) (Below.refl _ _) (fun _ => rfl)
    (fun pre W => BoxRow (w.heap.size + 1) w.heap.size (w.heap.size + 2) W3.heap.size 25 (joinOf pre) W ∧ Below w.heap.size w W)
    (fun _ _ _ => False)
    (OwnFrom.and (BoxRow.from _ _ _ _ _ _ _) (ownFrom_below (Nat.le_refl _) hw3.size))
    (fun _ _ _ _ _ hs _ _ => hs)
    ⟨⟨_, hx13.cell hbox.1, (hx13.frozen (blk_of_cell hbox.1)).trans hbox.2, hrow0.ext hx13, by rintro b ⟨g, n', c', he, hc, rfl⟩; cases he; exact ⟨by omega, .inl (by omega)⟩, Nat.le_refl _, by omega⟩, hw3⟩
    (fun x a' W => ∃ Bx, (W.cell? ⟨Bx, 0, none⟩ = some (St x.1) ∧ W.cell? ⟨Bx, 1, none⟩ = some (U x.2.1) ∧ W.cell? ⟨Bx, 2, none⟩ = some (U x.2.2)) ∧
      a' = { tmps := #[.slice Aa A.length ca, .slice Ab B.length cb, undef, undef, .slice none 0 0, .pointer (some ⟨w.heap.size + 1, 0, none⟩), .pointer (some ⟨Bx, 0, none⟩), .slice Aa A.length ca, I A.length, .slice Ab B.length cb, I B.length, I (A.length + B.length), .slice (some ⟨w.heap.size, 0, none⟩) 0 (A.length + B.length), .slice Aa A.length ca, va, .slice Ab B.length cb, vb, .func (.func 177) #[] #[.pointer (some ⟨W2.heap.size, 0, none⟩), .pointer (some ⟨W2.heap.size + 1, 0, none⟩)], pairV x, undef, undef, undef, undef, undef, undef, undef, undef, undef, undef, undef, undef], defers := [] })
    (fun x a' s W W' row ⟨Bx, ⟨h1, h2, h3⟩, h4⟩ hg hr => ⟨Bx, ⟨cell_kept h1 hg (fun r e => (hr r e).2), cell_kept h2 hg (fun r e => (hr r e).2), cell_kept h3 hg (fun r e => (hr r e).2)⟩, h4⟩)
    ?assign ?body ?done ?stop
  case assign =>
    rintro l pre x W K ⟨⟨v, hv1, hv2, hv3, hv4, hv5, hv6⟩, hB⟩ hK
    have hE := (Ext.refl W).alloc (.cells #[St x.1, U x.2.1, U x.2.2] 173)
    dsimp only [pairV]
    gi_wp2
    have hn3 := hB.size
    exact hK _ _ ((KeepsOthers.alloc _ _).from _) (hE.kpS hv5) ⟨⟨v, hE.cell hv1, (hE.frozen (blk_of_cell hv1)).trans hv2, hv3.ext hE, hv4, Nat.le_trans hv5 hE.size, hv6⟩, Below.trans hB (hE.below hn3)⟩
      ⟨W.heap.size, ⟨by simp [go_sem], by simp [go_sem], by simp [go_sem]⟩, rfl⟩
  case body =>
    rintro l pre x a' W hl - ⟨⟨v, hv1, hv2, hv3, hv4, hv5, hv6⟩, hB⟩ ⟨Bx, ⟨p0, p1, p2⟩, rfl⟩ hlt
    have hn3 := hB.size
    have hpl : (joinOf pre).length = pre.length := by simp
    gi_wp2_with (gi_at_builtin; refine wpListIn_append_Own rfl (.tmp 19) (.tmp 28) 26 rfl w.heap.size 25 2 24 (.agg #[St [], U 0]) Tryz.underlying26 info_mark rfl (by omega) v (joinOf pre).length ((joinOf pre).flatMap markC) rfl (hv3.alloc _) _ 1 1 _ rfl (Src.new rfl (by intro u hu; simp at hu; rcases hu with rfl | rfl <;> rfl)) (by omega) (by omega) (by simp; omega) ?_; intro v' w' hown hgr
                 have hE := (Ext.refl W).alloc (.cells #[St x.1, .int .u64 (max x.2.1 x.2.2)] 25)
                 obtain ⟨e1, e2, hbr⟩ := BoxRow.grew (l' := joinOf (pre ++ [x])) (Nat.le_trans hv5 hE.size) hv6 (by omega) (hE.cell hv1) ((hE.frozen (blk_of_cell hv1)).trans hv2) hv4 hgr (by simpa [markC, U, max_cast] using hown)
                 have hko := (KeepsOthers.alloc _ _).trans (hgr.keeps (hv3.alloc _))
                 have hkp : KpS (fun b => w.heap.size + 2 ≤ b ∧ b < W3.heap.size) W3.heap.size W w' := (hE.kpS hv5).trans (KpS.grew hgr (Nat.le_trans hv5 hE.size) (fun b h h2 => by rcases (hv4 b h).2 with h3 | h3 <;> omega))
                 have hBw := Ext.grewOwn (Below.trans hB (hE.below hn3)) hgr (hv3.alloc _) (Nat.le_refl _)
                 have hff := hown.form
                 obtain ⟨g', cap', rfl, -, -⟩ := hff)
    exact ⟨(hko.trans (KeepsOthers.setCell _ _ _)).from _, hkp.trans (KpS.set _ (fun h => by have := h.1; simp at this) _), by rw [hpl] at hbr; exact hbr, hBw.setCell (by simp) _⟩
  case done =>
    rintro D ys W hD rfl ⟨⟨v, hv1, hv2, hv3, hv4, hv5, hv6⟩, hB⟩ hK
    have hff := hv3.form
    obtain ⟨g', cap', rfl, -, -⟩ := hff
    gi_wp2
    refine ⟨by simp, .inl ⟨_, _, rfl, run_takeDeferred hK, ?_⟩⟩
    have hfin : Own (W.putObj D (.deferred none)) w.heap.size 25 2 (.slice g' (pairsL (tidyM A) (tidyM B)).length cap') (joinM A B).length ((joinM A B).flatMap markC) := by
      have h := hv3.kept (grownBy_putObj' W D (.deferred none)) (fun r e => by cases e; exact ⟨_, hK, rfl⟩)
      rw [List.length_map] at h
      simpa [joinM] using h
    refine ⟨_, results_tmp rfl _ _ _, .slice g' (pairsL (tidyM A) (tidyM B)).length cap', rfl, hfin, ?_⟩
    exact (Below.trans hB (belowK_b (w := w) (Nat.le_refl _) W D _ _ (by have := hw3.size; omega) hK rfl rfl))
  case stop =>
    rintro D c pre W _ _ h _
    exact h.elim
end Go.Proofs.YtdikcgmdmcfpfaaGreat
namespace Go.Proofs.YtdikcgmdmcfpfaaGreat
open Go.RowKit Go.Shelf

def coversM (a b : List Mark) : Bool := (pairsL (tidyM a) (tidyM b)).all fun p => !decide (p.2.1 < p.2.2)

section
attribute [local go_sem] Oper.semAt_some
set_option maxRecDepth 100000 in
set_option maxHeartbeats 1000000 in
theorem covers_any {S1 S2 : Nat → Prop} {va vb : Value} {A B : List Mark} {w : World} (ha : Sl markT w S1 va A) (hb : Sl markT w S2 vb B) (hla : A.length ≤ 1099511627776) (hlb : B.length ≤ 1099511627776) :
    Calls Tryz.prog 59 #[va, vb] w fun e w' => e = .returned (.bool (coversM A B)) ∧ Ext w w' := by
  have HA := Lib.hid (fun (W : World) (h : Ext w W) => callsIn_wide (n := 8).2 (tidy_any (ha.ext (by decide) h) hla))
  have HB := Lib.hid (fun (W : World) (h : Ext w W) => callsIn_wide (n := 8).2 (tidy_any (hb.ext (by decide) h) hlb))
  obtain ⟨Aa, ca, rfl, -, -⟩ := ha.form
  obtain ⟨Ab, cb, rfl, -, -⟩ := hb.form
  clear ha hb
  refine (callsIn_wide (n := 9)).1 ?_
  refine callsIn_of_wp_marks Tryz.func59 rfl trivial ?_ rfl
  simp only [Tryz.ntmps59, List.size_toArray, List.length_cons, List.length_nil, Nat.reduceAdd, Nat.reduceSub, Array.replicate_succ, Array.replicate_zero, List.push_toArray, List.append_toArray, List.nil_append, List.cons_append]
  have hx0 : Ext w (w.alloc (.cells #[.bool false] 4)) := (Ext.refl w).alloc _
  have hbox := box_new w (.bool false) 4
  have hsz : (w.alloc (.cells #[.bool false] 4)).heap.size = w.heap.size + 1 := by simp
  gi_wp2
  generalize w.alloc (.cells #[.bool false] 4) = W0 at *
  refine ⟨trivial, (HA.out _ hx0).mono ?_⟩
  rintro e W1 ⟨va, rfl, hva, hx1⟩
  have hx01 := hx0.trans hx1
  gi_wp2
  refine ⟨trivial, (HB.out _ hx01).mono ?_⟩
  rintro e W2 ⟨vb, rfl, hvb, hx2⟩
  have H3 := Lib.hid (callsIn_wide (n := 8).2 (pairs_any va vb W2 (by obtain ⟨_, _, rfl, -⟩ := hva.form; rfl) (by obtain ⟨_, _, rfl, -⟩ := hvb.form; rfl)))
  have hx3 : Ext W2 ((W2.alloc (.cells #[va] 26)).alloc (.cells #[vb] 26)) := ((Ext.refl W2).alloc _).alloc _
  have c1 : ((W2.alloc (.cells #[va] 26)).alloc (.cells #[vb] 26)).cell? ⟨W2.heap.size, 0, none⟩ = some va := by simp [go_sem]
  have c2 : ((W2.alloc (.cells #[va] 26)).alloc (.cells #[vb] 26)).cell? ⟨W2.heap.size + 1, 0, none⟩ = some vb := by simp [go_sem]
  have hsz3 : ((W2.alloc (.cells #[va] 26)).alloc (.cells #[vb] 26)).heap.size = W2.heap.size + 2 := by simp
  gi_wp2
  refine ⟨trivial, H3.out.mono ?_⟩
  rintro e w3 ⟨rfl, rfl⟩
  gi_wp2
  generalize (W2.alloc (.cells #[va] 26)).alloc (.cells #[vb] 26) = W3 at *
  have hx13 : Ext W0 W3 := (hx1.trans hx2).trans hx3
  have hs1 := hx1.size
  have hs2 := hx2.size
  have hw3 : Ext w W3 := hx0.trans hx13
  have sa : Sl markT W3 (fun b => w.heap.size + 1 ≤ b ∧ b < W3.heap.size) va (tidyM A) :=
    ((own_markT (S := fun _ => False).2 hva).ext (hx2.trans hx3)).sl (by decide) (fun _ _ h => h.elim) (fun b h h' => ⟨by omega, h'⟩)
  have sb : Sl markT W3 (fun b => w.heap.size + 1 ≤ b ∧ b < W3.heap.size) vb (tidyM B) :=
    ((own_markT (S := fun _ => False).2 hvb).ext hx3).sl (by decide) (fun _ _ h => h.elim) (fun b h h' => ⟨by omega, h'⟩)
  have hl1 := tidyM_len A
  have hl2 := tidyM_len B
  have hl3 := pairsL_len (tidyM A) (tidyM B)
  refine wpIn_rangeFunc_ownH rfl (by omega) (gf := 177) (lb := #[.pointer (some ⟨W2.heap.size, 0, none⟩), .pointer (some ⟨W2.heap.size + 1, 0, none⟩)]) rfl trivial (enters_of Tryz.func177 (by kernel_rfl) rfl)
    (pairs_stops 8 (by omega) (w := W3) (n₀ := W3.heap.size) (S := fun b => w.heap.size + 1 ≤ b ∧ b < W3.heap.size) (Nat.le_refl _) c1 c2 ⟨by omega, by omega⟩ ⟨by omega, by omega⟩ (fun b h => h.2) sa sb)
    (fun h k => h.trans k) (KpS.put (Nat.le_refl _)) (Below.refl _ _) (fun _ => rfl)
    (fun pre W => (W.cell? ⟨w.heap.size, 0, none⟩ = some (.bool false) ∧ W.frozen? ⟨w.heap.size, 0, none⟩ = false ∧ (∀ p ∈ pre, ¬ p.2.1 < p.2.2) ∧ W3.heap.size ≤ W.heap.size) ∧ Below w.heap.size w W)
    (fun c pre W => (c = .ret ∧ W.cell? ⟨w.heap.size, 0, none⟩ = some (.bool false) ∧ ∃ p ∈ pre, p.2.1 < p.2.2) ∧ Below w.heap.size w W)
    (OwnFrom.and (fun s W W' row hs hg hr => ⟨cell_kept hs.1 hg (fun r e => (hr r e).2), (frozen_kept hs.1 hg (fun r e => (hr r e).2)).trans hs.2.1, hs.2.2.1, Nat.le_trans hs.2.2.2 hg.size⟩) (ownFrom_below (Nat.le_refl _) hw3.size))
    (fun c => OwnFrom.and (fun s W W' row hs hg hr => ⟨hs.1, cell_kept hs.2.1 hg (fun r e => (hr r e).2), hs.2.2⟩) (ownFrom_below (Nat.le_refl _) hw3.size))
    ⟨⟨hx13.cell hbox.1, (hx13.frozen (blk_of_cell hbox.1)).trans hbox.2, by simp, Nat.le_refl _⟩, hw3⟩
    (fun x a' W => ∃ Bx, (W.cell? ⟨Bx, 0, none⟩ = some (St x.1) ∧ W.cell? ⟨Bx, 1, none⟩ = some (U x.2.1) ∧ W.cell? ⟨Bx, 2, none⟩ = some (U x.2.2)) ∧
      a' = { tmps := #[.slice Aa A.length ca, .slice Ab B.length cb, undef, undef, .pointer (some ⟨w.heap.size, 0, none⟩), .pointer (some ⟨Bx, 0, none⟩), .slice Aa A.length ca, va, .slice Ab B.length cb, vb, .func (.func 177) #[] #[.pointer (some ⟨W2.heap.size, 0, none⟩), .pointer (some ⟨W2.heap.size + 1, 0, none⟩)], pairV x, undef, undef, undef, undef, undef], defers := [] })
    (fun x a' s W W' row ⟨Bx, ⟨h1, h2, h3⟩, h4⟩ hg hr => ⟨Bx, ⟨cell_kept h1 hg (fun r e => (hr r e).2), cell_kept h2 hg (fun r e => (hr r e).2), cell_kept h3 hg (fun r e => (hr r e).2)⟩, h4⟩)
    ?assign ?body ?done ?stop
  case assign =>
    rintro l pre x W K ⟨⟨hc, hf, hp, hn⟩, hB⟩ hK
    have hE := (Ext.refl W).alloc (.cells #[St x.1, U x.2.1, U x.2.2] 173)
    dsimp only [pairV]
    gi_wp2
    have hn3 := hB.size
    exact hK _ _ ((KeepsOthers.alloc _ _).from _) (hE.kpS hn) ⟨⟨hE.cell hc, (hE.frozen (blk_of_cell hc)).trans hf, hp, Nat.le_trans hn hE.size⟩, Below.trans hB (hE.below hn3)⟩
      ⟨W.heap.size, ⟨by simp [go_sem], by simp [go_sem], by simp [go_sem]⟩, rfl⟩
  case body =>
    rintro l pre x a' W hl - ⟨⟨hc, hf, hp, hn⟩, hB⟩ ⟨Bx, ⟨p0, p1, p2⟩, rfl⟩ hlt
    by_cases hq : x.2.1 < x.2.2
    · have hq' : (x.2.1 : Int) < x.2.2 := by omega
      gi_wp2
      exact ⟨(KeepsOthers.setCell _ _ _).from _, ⟨rfl, World.cell?_setCell_same' _ _ _ (by rw [hc]; rfl), x, by simp, hq⟩, Below.setCell hB (by simp) _⟩
    · have hq' : ¬ (x.2.1 : Int) < x.2.2 := by omega
      gi_wp2
      exact ⟨KeepsFrom.refl _ _, KpS.refl _ _ _, ⟨hc, hf, fun a b c h => Nat.le_of_not_lt (snoc_all hp hq (a, b, c) h), by rw [← hsz3]; exact hn⟩, hB⟩
  case done =>
    rintro D ys W hD rfl ⟨⟨hc, hf, hp, hn⟩, hB⟩ hK
    gi_wp2
    have hK' := (KeepsOthers.setCell W ⟨w.heap.size, 0, none⟩ (.bool true)).same D _ hK rfl
    refine ⟨by simp, .inl ⟨_, _, rfl, run_takeDeferred hK', ?_⟩⟩
    have hc5 := cell_kept (World.cell?_setCell_same' W ⟨w.heap.size, 0, none⟩ (.bool true) (by rw [hc]; rfl)) (grownBy_putObj' _ D (.deferred none)) (fun r e => by cases e; exact ⟨_, hK', rfl⟩)
    have hcv : coversM A B = true := by
      unfold coversM
      rw [List.all_eq_true]
      intro p hp'
      simpa using hp p hp'
    refine ⟨.bool true, ?_, by rw [hcv], (Below.setCell hB (p := ⟨w.heap.size, 0, none⟩) (by simp) _).trans (belowK_b (w := w) (Nat.le_refl _) _ D _ _ (by have := hw3.size; omega) hK' rfl rfl)⟩
    simp [results, Tryz.f59, go_sem, hc5]
  case stop =>
    rintro D c pre W hD hpre ⟨⟨rfl, hc, p, hp, hq⟩, hB⟩ hK
    gi_wp2
    refine ⟨by simp, .inl ⟨_, _, rfl, run_takeDeferred hK, ?_⟩⟩
    have hc5 := cell_kept hc (grownBy_putObj' _ D (.deferred none)) (fun r e => by cases e; exact ⟨_, hK, rfl⟩)
    have hcv : coversM A B = false := by
      unfold coversM
      rw [List.all_eq_false]
      exact ⟨p, hpre.subset hp, by simpa using hq⟩
    refine ⟨.bool false, ?_, by rw [hcv], Below.trans hB (belowK_b (w := w) (Nat.le_refl _) W D _ _ (by have := hw3.size; omega) hK rfl rfl)⟩
    simp [results, Tryz.f59, go_sem, hc5]
end

set_option maxRecDepth 100000 in
set_option maxHeartbeats 400000 in
theorem drop1_any (s : Str) (m : Mark) {b : Nat} {w : World} (hb : w.cell? ⟨b, 0, none⟩ = some (St s)) :
    Calls Tryz.prog 143 #[.agg #[St m.1, U m.2], .pointer (some ⟨b, 0, none⟩)] w fun e w' => e = .returned (.bool (m.1 == s)) ∧ Ext w w' := by
  have hlt := blk_of_cell hb
  by_cases h : m.1 = s
  · have h' : (m.1 == s) = true := by simpa using h
    go_enter Tryz.func143, Tryz.ntmps143
    go_wp2
    go_ret
    exact ⟨by simp [h], (Ext.refl _).alloc _⟩
  · have h' : (m.1 == s) = false := by simpa using h
    go_enter Tryz.func143, Tryz.ntmps143
    go_wp2
    go_ret
    exact ⟨by simp [h'], (Ext.refl _).alloc _⟩

theorem pred_drop1 (s : Str) (b base : Nat) (hb : b < base) : PredM Tryz.prog 143 #[.pointer (some ⟨b, 0, none⟩)] base (fun W => W.cell? ⟨b, 0, none⟩ = some (St s)) (fun m => m.1 == s) where
  enters := enters_of Tryz.func143 (by kernel_rfl) rfl
  keep W W' h hB := (Below.cell hB (p := ⟨b, 0, none⟩) hb).trans h
  does m W h := drop1_any s m h

def dropM (l : List Mark) (s : Str) : List Mark := (tidyM l).filter fun m => !(m.1 == s)

set_option maxRecDepth 100000 in
set_option maxHeartbeats 400000 in
theorem drop_any {S : Nat → Prop} {v : Value} {l : List Mark} {w : World} (s : Str) (hv : Sl markT w S v l) (hl : l.length ≤ 1099511627776) :
    Calls Tryz.prog 82 #[v, St s] w fun e w' => ∃ v', e = .returned v' ∧ Own w' w.heap.size 25 2 v' (dropM l s).length ((dropM l s).flatMap markC) ∧ Ext w w' := by
  have hx0 := (Ext.refl w).alloc (.cells #[St s] 9)
  have H1 := Lib.hid (tidy_any (hv.ext (by decide) hx0) hl)
  clear hv
  go_enter Tryz.func82, Tryz.ntmps82
  go_wp2_with fail
  refine H1.out.mono ?_
  rintro e w1 ⟨v1, rfl, hv1, hx1⟩
  have H2 := Lib.hid (delete_mark hv1 (pred_drop1 s w.heap.size _ (by simp)) (hx1.cell (by simp [go_sem])) hx1.size)
  clear hv1
  go_wp2_with fail
  refine H2.out.mono ?_
  rintro e w2 ⟨v2, rfl, hv2, hx2⟩
  have HV := Lib.hid hv2
  clear hv2
  go_wp2_with fail
  go_ret
  exact ⟨_, rfl, HV.out.lower (by simp), hx0.trans (Below.trans hx1 hx2)⟩

def setM (l : List Mark) (s : Str) (n : Nat) : List Mark := joinM (dropM l s) [(s, n)]

theorem dropM_len (l : List Mark) (s : Str) : (dropM l s).length ≤ l.length := Nat.le_trans (List.length_filter_le _ _) (tidyM_len l)

set_option maxRecDepth 100000 in
set_option maxHeartbeats 400000 in
theorem set_any {S : Nat → Prop} {v : Value} {l : List Mark} {w : World} (s : Str) (n : Nat) (hv : Sl markT w S v l) (hl : l.length ≤ 1099511627776) :
    Calls Tryz.prog 47 #[v, St s, U n] w fun e w' => ∃ v', e = .returned v' ∧ Own w' w.heap.size 25 2 v' (setM l s n).length ((setM l s n).flatMap markC) ∧ Ext w w' := by
  have H1 := Lib.hid (drop_any s hv hl)
  clear hv
  go_enter Tryz.func47, Tryz.ntmps47
  go_wp2_with fail
  refine H1.out.mono ?_
  rintro e w1 ⟨v1, rfl, hv1, hx1⟩
  have hx2 := (Ext.refl w1).alloc (.cells #[St s, U n] 25)
  have hone : Sl markT (w1.alloc (.cells #[St s, U n] 25)) (fun _ => True) (.slice (some ⟨w1.heap.size, 0, none⟩) 1 1) [(s, n)] :=
    ⟨_, 1, rfl, Nat.le_refl _, by omega, fun pre x post hl => by
      cases pre with
      | nil => simp at hl; obtain ⟨rfl, -⟩ := hl; exact ⟨_, 0, _, rfl, trivial, rfl, fun j u hj => by
          rw [cell_of_row _ w1.heap.size _ #[St s, U n] 25 (0, 0) (Go.heap_alloc_new w1 _)]
          simpa [markC] using hj⟩
      | cons a r => simp at hl⟩
  have H2 := Lib.hid (join_any ((own_markT (S := fun _ => False).2 (hv1.ext hx2)).sl (S' := fun _ => True) (by decide) (fun _ _ h => h.elim) (fun _ _ _ => trivial)) hone (Nat.le_trans (dropM_len l s) hl) (by simp))
  clear hv1 hone
  go_wp2_with fail
  refine H2.out.mono ?_
  rintro e w3 ⟨v3, rfl, hv3, hx3⟩
  have HV := Lib.hid hv3
  have hle := hx1.size
  clear hv3
  go_wp2_with fail
  go_ret
  exact ⟨_, rfl, HV.out.lower (by simp; omega), (hx1.trans hx2).trans hx3⟩

set_option maxRecDepth 100000 in
set_option maxHeartbeats 400000 in
theorem compare_any (a b : Mark) (W : World) : Calls Tryz.prog 205 #[.agg #[St a.1, U a.2], .agg #[St b.1, U b.2]] W fun e w' => e = .returned (I (cmpD a b)) ∧ ∃ q os, w' = Go.Sort.grow (W.drewN q) os := by
  have H1 := Lib.hid scmp_any
  have H2 := Lib.hid ncmp_any
  have H3 := Lib.hid @or_any
  go_enter Tryz.func205, Tryz.ntmps205
  go_wp2_with fail
  go_region_held3 (fun w' => w'.cell? ⟨W.heap.size, 0, none⟩ = some (St a.1) ∧ w'.cell? ⟨W.heap.size, 1, none⟩ = some (U a.2) ∧ w'.cell? ⟨W.heap.size + 1, 0, none⟩ = some (St b.1) ∧ w'.cell? ⟨W.heap.size + 1, 1, none⟩ = some (U b.2)) (first | (simp [go_sem]; done)) (first | (go_at_call 45; refine (H1.out _ _ _).mono ?_; rintro e w' ⟨rfl, rfl⟩) | (go_at_call 182; refine (H2.out _ _ _).mono ?_; rintro e w' ⟨rfl, rfl⟩) | (go_at_call 181; refine (H3.out (cmpS a.1 b.1) (cmpN a.2 b.2) (by simp [go_sem]) (by simp [go_sem])).mono ?_; rintro e w' ⟨rfl, rfl⟩))
  go_wp2
  go_ret
  exact ⟨rfl, 1, _, alloc3_grow _ _ _ _⟩
end Go.Proofs.YtdikcgmdmcfpfaaGreat
namespace Go.Proofs.YtdikcgmdmcfpfaaGreat
open Go.Sort

/-- a linear order is a strict weak one, and parts whatever is not one -/
theorem swo_of_lin {α : Type} {lt : α → α → Bool} (h1 : ∀ x, lt x x = false) (h2 : ∀ x y z, lt x y = true → lt y z = true → lt x z = true) (h3 : ∀ x y, lt x y = true ∨ x = y ∨ lt y x = true) : SWO lt where
  irrefl := h1
  trans x y z := h2 x y z
  ntrans x y z a b := bool_false_of fun c => by
    rcases h3 x y with d | rfl | d
    · rw [d] at a; cases a
    · rw [c] at b; cases b
    · rcases h3 y z with e | rfl | e
      · rw [e] at b; cases b
      · rw [c] at a; cases a
      · have := h2 _ _ _ (h2 _ _ _ e d) c
        rw [h1] at this; cases this
theorem anti_of_lin {α : Type} {lt : α → α → Bool} (h3 : ∀ x y, lt x y = true ∨ x = y ∨ lt y x = true) (x y : α) (a : lt x y = false) (b : lt y x = false) : x = y := by
  rcases h3 x y with c | c | c
  · rw [c] at a; cases a
  · exact c
  · rw [c] at b; cases b

/-! ### dots -/
theorem cmpD_irrefl (a : Mark) : ltOf cmpD a a = false := bool_false_of fun h => by
  rcases cmpD_lt.1 h with h | ⟨-, h⟩
  · rw [ltS_irrefl] at h; cases h
  · omega
theorem cmpD_trans (a b c : Mark) (h : ltOf cmpD a b = true) (k : ltOf cmpD b c = true) : ltOf cmpD a c = true := by
  rw [cmpD_lt] at *
  rcases h with h | ⟨e, h⟩ <;> rcases k with k | ⟨f, k⟩
  · exact .inl (ltS_trans h k)
  · exact .inl (f ▸ h)
  · exact .inl (e ▸ k)
  · exact .inr ⟨e.trans f, by omega⟩
theorem cmpD_tri (a b : Mark) : ltOf cmpD a b = true ∨ a = b ∨ ltOf cmpD b a = true := by
  rw [cmpD_lt, cmpD_lt]
  rcases ltS_tri a.1 b.1 with h | h | h
  · exact .inl (.inl h)
  · rcases Nat.lt_trichotomy a.2 b.2 with k | k | k
    · exact .inl (.inr ⟨h, k⟩)
    · exact .inr (.inl (Prod.ext h k))
    · exact .inr (.inr (.inr ⟨h.symm, k⟩))
  · exact .inr (.inr (.inl h))
theorem cmpD_swo : SWO (ltOf cmpD) := swo_of_lin cmpD_irrefl cmpD_trans cmpD_tri
theorem cmpD_anti (a b : Mark) (h1 : ltOf cmpD a b = false) (h2 : ltOf cmpD b a = false) : a = b := anti_of_lin cmpD_tri a b h1 h2

/-! ### places: by text, then by dot -/
def cmpP (p q : Place) : Int := orI (cmpS p.1 q.1) (cmpD p.2 q.2)
theorem cmpP_lt {a b : Place} : ltOf cmpP a b = true ↔ ltS a.1 b.1 = true ∨ (a.1 = b.1 ∧ ltOf cmpD a.2 b.2 = true) := by
  unfold ltOf cmpP orI
  rw [decide_eq_true_eq]
  by_cases h : a.1 = b.1
  · rw [if_neg (by rw [cmpS_eq.2 h]; simp)]
    simp [h, ltS_irrefl]
  · rw [if_pos (fun e => h (cmpS_eq.1 e)), cmpS_lt]
    simp [h]
theorem cmpP_irrefl (a : Place) : ltOf cmpP a a = false := bool_false_of fun h => by
  rcases cmpP_lt.1 h with h | ⟨-, h⟩
  · rw [ltS_irrefl] at h; cases h
  · rw [cmpD_irrefl] at h; cases h
theorem cmpP_trans (a b c : Place) (h : ltOf cmpP a b = true) (k : ltOf cmpP b c = true) : ltOf cmpP a c = true := by
  rw [cmpP_lt] at *
  rcases h with h | ⟨e, h⟩ <;> rcases k with k | ⟨f, k⟩
  · exact .inl (ltS_trans h k)
  · exact .inl (f ▸ h)
  · exact .inl (e ▸ k)
  · exact .inr ⟨e.trans f, cmpD_trans _ _ _ h k⟩
theorem cmpP_tri (a b : Place) : ltOf cmpP a b = true ∨ a = b ∨ ltOf cmpP b a = true := by
  rw [cmpP_lt, cmpP_lt]
  rcases ltS_tri a.1 b.1 with h | h | h
  · exact .inl (.inl h)
  · rcases cmpD_tri a.2 b.2 with k | k | k
    · exact .inl (.inr ⟨h, k⟩)
    · exact .inr (.inl (Prod.ext h k))
    · exact .inr (.inr (.inr ⟨h.symm, k⟩))
  · exact .inr (.inr (.inl h))
theorem cmpP_swo : SWO (ltOf cmpP) := swo_of_lin cmpP_irrefl cmpP_trans cmpP_tri
theorem cmpP_anti (a b : Place) (h1 : ltOf cmpP a b = false) (h2 : ltOf cmpP b a = false) : a = b := anti_of_lin cmpP_tri a b h1 h2

/-- what is sorted hangs on the elements alone -/
theorem isort_perm_eq {α : Type} {lt : α → α → Bool} (hO : SWO lt) (anti : ∀ a b, lt a b = false → lt b a = false → a = b) {l1 l2 : List α} (h : l1.Perm l2) : isort lt l1 = isort lt l2 :=
  sorted_unique anti (((isort_perm l1).trans h).trans (isort_perm l2).symm) (isort_sorted hO l1) (isort_sorted hO l2)

/-! ### items -/
/-- the dots of the items, each with its text -/
def placesL (l : List Item) : List Place := l.flatMap fun it => it.2.map fun d => (it.1, d)
def groupStep (l : List Item) (p : Place) : List Item :=
  match l.getLast? with
  | none => [(p.1, [p.2])]
  | some it => if it.1 == p.1 then l.dropLast ++ [(it.1, it.2 ++ [p.2])] else l ++ [(p.1, [p.2])]
def groupL (ps : List Place) : List Item := ps.foldl groupStep []
/-- the items of places, rising -/
def itemsL (ks : List Place) : List Item := groupL (isort (ltOf cmpP) ks)
theorem itemsL_perm {a b : List Place} (h : a.Perm b) : itemsL a = itemsL b := by unfold itemsL; rw [isort_perm_eq cmpP_swo cmpP_anti h]
theorem groupStep_nil (p : Place) : groupStep [] p = [(p.1, [p.2])] := rfl
theorem groupStep_same (pre : List Item) (t : Str) (ds : List Dot) (d : Dot) : groupStep (pre ++ [(t, ds)]) (t, d) = pre ++ [(t, ds ++ [d])] := by simp [groupStep]
theorem groupStep_other (pre : List Item) (it : Item) (p : Place) (h : (it.1 == p.1) = false) : groupStep (pre ++ [it]) p = pre ++ [it] ++ [(p.1, [p.2])] := by simp [groupStep, h]
theorem groupL_snoc (ps : List Place) (p : Place) : groupL (ps ++ [p]) = groupStep (groupL ps) p := by simp [groupL]
end Go.Proofs.YtdikcgmdmcfpfaaGreat
