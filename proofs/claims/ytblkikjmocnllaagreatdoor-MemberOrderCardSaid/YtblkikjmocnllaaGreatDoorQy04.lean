/- For every input gossamerlaw20.MemberOrder returns true and leaves its arguments as they were, where the five listed tables of the standard library start as the text lays them; the card ties that. No other condition. -/
import Derived.Test.YtblkikjmocnllaaGreatDoorRows
import Derived.Test.YtblkikjmocnllaaGreatDoorTie
import Derived.Test.YtblkikjmocnllaaGreatDoorCards
import Derived.Test.YtblkikjmocnllaaGreatDoorQy03
import Derived.Test.YtblkikjmocnllaaGreatDoorQv44
import Derived.Test.YtblkikjmocnllaaGreatDoorQv45
import Derived.WalkKit
import Derived.ProofKit
import Derived.OpenShut
import Derived.SizedLaws
import Derived.Lay
import Derived.LaidMore
import Derived.Lib.LaidU8
import Derived.SevenTiedAt
import Derived.Stop.Joined
set_option linter.unusedVariables false
set_option linter.unusedSimpArgs false
set_option linter.unusedSectionVars false
namespace Go.Proofs.YtblkikjmocnllaaGreatDoor.memberOrder
open Go.ChangeShapes Go.WideShapes Go.ChangeAt Go.RowKit

theorem own : ownKnob Tryz.prog.godebug = Option.none := by kernel_rfl
theorem laid : laidOutB Tryz.prog = true := by kernel_rfl
theorem reads : (([22, 22, 22, 9] : List TypeId).all fun t => Tryz.prog.readableRec t && decide (t < Tryz.prog.types.size)) = true := by kernel_rfl

theorem pow_tab : (Rows.laid_internal_strconv_uint64pow10 : DataW Unit) = Lib.tabData .u64 Lib.pow10Tab := by kernel_rfl
theorem plain : (Rows.memberOrderRow.laid.filter fun x => x.2.handleName?.isSome).isEmpty = true := by kernel_rfl
theorem pow_of {W : World} (h : laidMetH Tryz.prog Rows.memberOrderRow.laid W) : Pow W := by
  rw [MakeChecks.laidMetH_plain _ _ _ (by kernel_rfl)] at h
  obtain ⟨g, t, cs, fuel, p, hg, ht, hv, hd⟩ := Lib.laidMet.reads h (n := "internal/strconv.uint64pow10") (d := Rows.laid_internal_strconv_uint64pow10) (.tail _ (.tail _ (.head _)))
  obtain rfl := Option.some.inj ((show Tryz.prog.globalNamed "internal/strconv.uint64pow10" = some 1 by kernel_rfl).symm.trans hg)
  obtain rfl := Option.some.inj ((show (Tryz.prog.globals[1]?).map (·.type) = some 198 by kernel_rfl).symm.trans ht)
  rw [pow_tab] at hd
  have hc := Lib.cells_of_tab Tryz.underlying198 Tryz.underlying23 (by kernel_rfl) (by kernel_rfl) hd
  unfold Pow Lib.TabIs
  rw [hv, ← hc]

set_option maxRecDepth 100000 in
theorem lifted (os : Os) (started : os.Started) (H : Type) (enc : TypeId × Value → H) :
    ReturnsInHanded {} Tryz.checked os 4 .any (fun w args => (Rows.memberOrderSpec.pre enc Tryz.prog Tryz.f4 Rows.memberOrderRow.domain false w args ∧ laidMetH Tryz.prog Rows.memberOrderRow.laid w) ∧ sizedMet enc Tryz.prog Tryz.f4 (OpenSpec.ofChange Rows.memberOrderSpec) false w args)
      (Rows.memberOrderSpec.post enc Tryz.prog Tryz.f4 false true false false) := by
  refine returnsInHanded_of_change_and (C := Tryz.checked) (X := fun w _ => laidMetH Tryz.prog Rows.memberOrderRow.laid w) (fun _ _ _ hh h => h.of_heap hh) own started (by kernel_rfl) Tryz.func4
    (ChangeSpec.witness_shaped (enc := enc) (C := Tryz.checked) (os := os) (X := fun w _ => laidMetH Tryz.prog Rows.memberOrderRow.laid w) false (World.laidAll Tryz.prog os Rows.memberOrderRow.laid) #[.slice none 0 0, .slice none 0 0, .slice none 0 0, St []] 8 (World.laidAll_os _ _ _)
      (World.shaped_of_ZipB (by kernel_rfl) (by kernel_rfl)) (by kernel_rfl) (by kernel_rfl) (by kernel_rfl)
      (by rw [MakeChecks.laidMetH_plain _ _ _ (by kernel_rfl)]; exact laidMet_laidAll _ (by kernel_rfl) (by kernel_rfl))) ?_
  intro W base args ds gs before hval0 hW hcnd hsz0 hL _
  have hpow := pow_of hL
  have hval : ∀ (j : Nat) t v, Tryz.f4.params[j]? = some t → args[j]? = some v → Value.okWide Tryz.prog W .any base t v := hval0
  have hW' := hW
  have hlt := hW.lt
  obtain ⟨p, q, hA0, hV, rfl, hfz, hnd⟩ := hW
  obtain ⟨rfl, rfl⟩ := trodVars_none hV
  have hA : DataW.TrodAll enc Tryz.prog W 0 (fun _ => true) true Tryz.f4.params.toList args.toList ds p := hA0
  have hkeep := fun (W' : World) (hb : Below W.heap.size W W') (sp : Nat → Bool) (hsp : ∀ x ∈ p, sp x.block = true) => law_args laid hb sp (fun t ht => by
    rw [Tryz.params4] at ht
    have h := List.all_eq_true.1 reads t ht
    simpa using h) (fun x hx => hlt x (by simpa using hx)) hsp hA
  have hsz : ∀ x ∈ DataW.weightsEach Tryz.prog Tryz.f4.params.toList ds, x ≤ reachBytes := fun x hx => by
    have h := List.all_eq_true.1 hsz0 x (by
      show x ∈ DataW.weightsEach Tryz.prog (Tryz.f4.params.toList ++ []) (ds ++ [])
      rw [List.append_nil, List.append_nil]
      exact hx)
    simpa using h
  rw [Tryz.params4] at hA hval hsz
  obtain ⟨v0, vs0, d0, ds0, p0, q0, hargs0, rfl, rfl, h0, hr0⟩ := trodAll_cons hA
  obtain ⟨v1, vs1, d1, ds1, p1, q1, rfl, rfl, rfl, h1, hr1⟩ := trodAll_cons hr0
  obtain ⟨v2, vs2, d2, ds2, p2, q2, rfl, rfl, rfl, h2, hr2⟩ := trodAll_cons hr1
  obtain ⟨v3, vs3, d3, ds3, p3, q3, rfl, rfl, rfl, h3, hr3⟩ := trodAll_cons hr2
  obtain ⟨rfl, rfl, rfl⟩ := trodAll_nil hr3
  obtain rfl : args = #[v0, v1, v2, v3] := by cases args; simp_all
  have hw : ∀ x ∈ DataW.weightsEach Tryz.prog [22, 22, 22, 9] [d0, d1, d2, d3], x ≤ reachBytes := hsz
  obtain ⟨l0, hm0, hg0⟩ := open_members (hval 0 22 v0 rfl rfl) h0 (fun x hx => hw x (weights_part 0 rfl rfl hx))
  obtain ⟨l1, hm1, hg1⟩ := open_members (hval 1 22 v1 rfl rfl) h1 (fun x hx => hw x (weights_part 1 rfl rfl hx))
  obtain ⟨l2, hm2, hg2⟩ := open_members (hval 2 22 v2 rfl rfl) h2 (fun x hx => hw x (weights_part 2 rfl rfl hx))
  obtain ⟨t3, rfl, c3⟩ := open_text (hval 3 9 v3 rfl rfl) h3 (fun x hx => hw x (weights_part 3 rfl rfl hx))
  have b3 : t3.length ≤ 1125899906842624 := Nat.le_trans c3 (by decide)
  clear hA0 hval0 hlt
  simp only [List.append_nil] at hW' hkeep
  refine (order_walk hm0 hg0 hm1 hg1 hm2 hg2 b3 hpow).mono fun e W' ⟨he, hg⟩ => ?_
  subst he
  exact ⟨_, rfl, law_below hW' hg (fun _ _ _ => (trodAll_cons_mk (shut_bool Tryz.underlying4 _) trodAll_mk0)) (fun sp hsp => hkeep W' hg sp hsp) (fun _ => rfl)
    (ok_one (by kernel_rfl) rfl (okWide_bool_mk Tryz.underlying4 _))⟩

theorem and_mk {a b : Bool} (h1 : a = true) (h2 : b = true) : (a && b) = true := by rw [h1, h2]; rfl
theorem fact1 : (Rows.memberOrderRow.wf (OpenSpec.ofChange Rows.memberOrderSpec)) = true := by kernel_rfl
theorem fact2 : (laidOutB Tryz.prog) = true := by kernel_rfl
theorem fact3 : (mapsRowed Tryz.prog) = true := by kernel_rfl
theorem fact4 : (Tryz.f4.params.all (Tryz.prog.readableRec ·)) = true := by kernel_rfl
theorem fact5 : (namedTie Tryz.prog Rows.memberOrderRow.named Rows.memberOrderSpec.vars) = true := by kernel_rfl
theorem fact6 : ((Rows.memberOrderRow.stops == [])) = true := by kernel_rfl
theorem fact7 : ((Tryz.prog.stops == [])) = true := by kernel_rfl
theorem fact8 : ((Rows.memberOrderRow.knobs == [])) = true := by kernel_rfl
theorem fact9 : ((Tryz.prog.stopKnobs == [])) = true := by kernel_rfl
theorem fact10 : ((Rows.memberOrderRow.inPlace == Tryz.prog.inPlace 4)) = true := by kernel_rfl
theorem fact11 : ((Rows.memberOrderRow.unfollowed == Tryz.prog.unfollowed 4)) = true := by kernel_rfl
theorem fact12 : ((Rows.memberOrderRow.recurses == Tryz.prog.recurses 4)) = true := by kernel_rfl
theorem fact13 : ((Rows.memberOrderRow.named == Tryz.prog.varsNamed 4)) = true := by kernel_rfl
theorem fact14 : ((Rows.memberOrderRow.maps == (Tryz.f4.params.toList ++ Rows.memberOrderSpec.plain.varTypes Tryz.prog).any (Tryz.prog.mapsRec ·))) = true := by kernel_rfl
theorem fact15 : ((Rows.memberOrderRow.ifaces == (Tryz.f4.params.toList ++ Rows.memberOrderSpec.plain.varTypes Tryz.prog).any (Tryz.prog.ifacesRec ·))) = true := by kernel_rfl
theorem fact16 : ((Rows.memberOrderRow.mapsOut == Tryz.prog.mapsAmong Tryz.f4.resultTypes.toList)) = true := by kernel_rfl
theorem fact17 : ((Rows.memberOrderRow.loops == (Tryz.f4.params.toList ++ Rows.memberOrderSpec.plain.varTypes Tryz.prog).any (Tryz.prog.loopsFrom ·))) = true := by kernel_rfl
theorem fact18 : ((Rows.memberOrderRow.wideKeys == (Tryz.f4.params.toList ++ Rows.memberOrderSpec.plain.varTypes Tryz.prog ++ Tryz.f4.resultTypes.toList).any (Tryz.prog.wideKeysFrom ·))) = true := by kernel_rfl
theorem fact19 : (Rows.memberOrderSpec.vars.all (Tryz.prog.varReadable ·)) = true := by kernel_rfl
theorem fact20 : (Tryz.f4.resultTypes.all (fun t => Tryz.prog.readableRec t && decide (t < Tryz.prog.types.size))) = true := by kernel_rfl
theorem fact21 : ((Rows.memberOrderRow.ifacesOut == Tryz.f4.resultTypes.toList.any (Tryz.prog.ifacesRec ·))) = true := by kernel_rfl
theorem fact22 : ((Rows.memberOrderRow.loopsOut == Tryz.f4.resultTypes.toList.any (Tryz.prog.loopsFrom ·))) = true := by kernel_rfl
theorem fact23 : ((Rows.memberOrderRow.plainKeys == Tryz.prog.plainKeys)) = true := by kernel_rfl
theorem fact24 : (Rows.memberOrderRow.shortTexts.isNone) = true := by kernel_rfl
theorem fact25 : (Tryz.prog.stopsHeard) = true := by kernel_rfl
theorem fact26 : (Tryz.prog.mayEnter) = true := by kernel_rfl
theorem fact27 : ((Rows.memberOrderRow.lifted == Tryz.prog.liftsFinal)) = true := by kernel_rfl
theorem fact28 : ((Tryz.prog.make == some Rows.memberOrderRow.make)) = true := by kernel_rfl
theorem fact29 : ((Rows.memberOrderRow.kinds == (if Rows.memberOrderRow.domain.isEmpty then [] else Tryz.f4.params.toList.map fun t => match Tryz.prog.underlying t with | some (.int k) => some k | _ => none))) = true := by kernel_rfl
theorem fact30 : ((Rows.memberOrderRow.pinned == Rows.memberOrderRow.pinnedBy)) = true := by kernel_rfl
theorem fact31 : ((Rows.memberOrderRow.veiled == (Tryz.f4.params.toList ++ Rows.memberOrderSpec.plain.varTypes Tryz.prog ++ Tryz.f4.resultTypes.toList).any (Tryz.prog.veiledRec ·))) = true := by kernel_rfl
theorem fact32 : (Rows.memberOrderRow.veiledFits Tryz.prog Tryz.f4.params.toList (Tryz.f4.params.toList ++ Rows.memberOrderSpec.plain.varTypes Tryz.prog ++ Tryz.f4.resultTypes.toList)) = true := by kernel_rfl
set_option maxRecDepth 100000 in
theorem closed : joinedFacts Tryz.prog 4 Tryz.f4 Rows.memberOrderSpec Rows.memberOrderRow = true := by
  unfold joinedFacts
  exact (and_mk (and_mk (and_mk (and_mk (and_mk (and_mk (and_mk (and_mk (and_mk (and_mk (and_mk (and_mk (and_mk (and_mk (and_mk (and_mk (and_mk (and_mk (and_mk (and_mk (and_mk (and_mk (and_mk (and_mk (and_mk (and_mk (and_mk (and_mk (and_mk (and_mk (and_mk fact1 fact2) fact3) fact4) fact5) fact6) fact7) fact8) fact9) fact10) fact11) fact12) fact13) fact14) fact15) fact16) fact17) fact18) fact19) fact20) fact21) fact22) fact23) fact24) fact25) fact26) fact27) fact28) fact29) fact30) fact31) fact32)


theorem over : Rows.memberOrderRow.holds Tryz.pinned (OpenSpec.ofChange Rows.memberOrderSpec) :=
  OpenClaim.holds_of_wide 4 Tryz.f4 rfl rfl rfl rfl rfl rfl rfl ⟨rfl, rfl, rfl, rfl, rfl⟩ rfl rfl rfl rfl rfl (by kernel_rfl) Tryz.func4 closed
    (of_decide_eq_true (by kernel_rfl)) (by unfold Func.isWrapper; first | (rw [if_pos (by decide +kernel)]; kernel_rfl) | (rw [if_neg (by decide +kernel)]; exact ⟨rfl, rfl⟩))
    (fun os started H enc _ => lifted os started H enc)

theorem named : Tryz.prog.funcNamed "gossamer/gossamerlaw20.MemberOrder" = some 4 := by kernel_rfl
theorem standless : (([22, 22, 22, 9] : List TypeId).all fun u => !Tryz.prog.wantsStandIn u) = true := by kernel_rfl
theorem proved : Rows.MemberOrderCardSaid :=
  Claim7.holds_tied_plain_at .later [] [.data, .data, .data, .data, .pinned] true (true, "72e0ca8385f4d1a8ac6acfd43ca54da02d9e9f1d66856de97416567bab6de55d") false
    over (fun _ h => by cases h) (by kernel_rfl) (fun _ h => by cases h) memberOrder_row_tie rfl ⟨rfl, rfl⟩ (by kernel_rfl) rfl
    (fun f fn hf hfn => by
      obtain rfl : f = 4 := Option.some.inj (named.symm.trans hf) |>.symm
      obtain rfl : fn = Tryz.f4 := (Option.some.inj (Tryz.func4.symm.trans hfn)).symm
      exact ⟨by kernel_rfl, fun j t ht => by
        rw [Tryz.params4] at ht
        have hm : t ∈ ([22, 22, 22, 9] : List TypeId) := by simpa using Array.mem_of_getElem? ht
        exact (show Tryz.prog.wantsStandIn t = false by simpa using List.all_eq_true.1 standless t hm)⟩)
    (by kernel_rfl)
end Go.Proofs.YtblkikjmocnllaaGreatDoor.memberOrder
