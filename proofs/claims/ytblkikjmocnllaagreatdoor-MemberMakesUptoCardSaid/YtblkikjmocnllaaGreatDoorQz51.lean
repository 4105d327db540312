/- For every input gossamerlaw20.MemberMakes returns true and leaves its arguments as they were, where what it reads is of a bulk of at most 1048576 and the five listed tables of the standard library start as the text lays them; the card ties that. No other condition. -/
import Derived.Test.YtblkikjmocnllaaGreatDoorRows
import Derived.Test.YtblkikjmocnllaaGreatDoorTie
import Derived.Test.YtblkikjmocnllaaGreatDoorCards
import Derived.Test.YtblkikjmocnllaaGreatDoorQz49
import Derived.Test.YtblkikjmocnllaaGreatDoorQz48
import Derived.Deep.DeepHandedRow
import Derived.JoinedCond
import Derived.Test.YtblkikjmocnllaaGreatDoorQz50
import Derived.WalkKit
import Derived.ProofKit
import Derived.OpenShut
import Derived.SizedLaws
import Derived.Lay
import Derived.LaidMore
import Derived.Lib.LaidU8
import Derived.SevenTiedAt
import Derived.Stop.Joined
set_option linter.unusedVariables false
set_option linter.unusedSimpArgs false
set_option maxRecDepth 100000
set_option maxHeartbeats 40000000
namespace Go.Proofs.YtblkikjmocnllaaGreatDoor.memberMakes
open Go.ChangeShapes Go.WideShapes Go.ChangeAt Go.RowKit
theorem own:ownKnob Tryz.prog.godebug=Option.none:=by kernel_rfl
theorem laid:laidOutB Tryz.prog=true:=by kernel_rfl
theorem reads:(([22,22,9,23]:List TypeId).all fun t=>Tryz.prog.readableRec t && decide (t < Tryz.prog.types.size))=true:=by kernel_rfl
theorem pow_tab:(Rows.laid_internal_strconv_uint64pow10:DataW Unit)=Lib.tabData .u64 Lib.pow10Tab:=by kernel_rfl
theorem plain:(Rows.memberMakesUptoRow.laid.filter fun x=>x.2.handleName?.isSome).isEmpty=true:=by kernel_rfl
theorem pow_of {W:World} (h:laidMetH Tryz.prog Rows.memberMakesUptoRow.laid W):Pow W:=by
 rw [MakeChecks.laidMetH_plain _ _ _ (by kernel_rfl)] at h
 obtain ⟨g, t, cs, fuel, p, hg, ht, hv, hd⟩ := Lib.laidMet.reads h (n := "internal/strconv.uint64pow10") (d := Rows.laid_internal_strconv_uint64pow10) (.tail _ (.tail _ (.head _)))
 obtain rfl := Option.some.inj ((show Tryz.prog.globalNamed "internal/strconv.uint64pow10" = some 1 by kernel_rfl).symm.trans hg)
 obtain rfl:=Option.some.inj ((show (Tryz.prog.globals[1]?).map (·.type)=some 198 by kernel_rfl).symm.trans ht)
 rw [pow_tab] at hd
 have hc:=Lib.cells_of_tab Tryz.underlying198 Tryz.underlying23 (by kernel_rfl) (by kernel_rfl) hd
 unfold Pow Lib.TabIs
 rw [hv,← hc]
theorem witness (os:Os) {H:Type} (enc:TypeId × Value->H):∃ (w:World) (tape:Tape) (i:Input),w.os=os/\(w.forCall tape i).Shaped Tryz.prog/\i.vars = []/\Input.okWide Tryz.prog (w.forCall tape i) .any w.heap.size 3 i /\
  (Rows.OpenSpec.upto Rows.memberMakesSpec).preRow enc Tryz.prog Tryz.f3 Rows.memberMakesUptoRow.domain false Rows.memberMakesUptoRow.laid (w.forCall tape i).memory i.args/\({}:Assume).holds Tryz.prog (lone (Frame.enter Tryz.prog 3 i.args .normal) [] (w.forCall tape i)):=by
 have hb:((DataW.whole enc Tryz.prog ((World.laidAll Tryz.prog os Rows.memberMakesUptoRow.laid).forCall (fun _ _=>0) ⟨#[],#[.slice none 0 0,.slice none 0 0,St [],.int .u64 0],[]⟩).memory Tryz.f3.params.toList (Rows.OpenSpec.upto Rows.memberMakesSpec).vars false #[.slice none 0 0,.slice none 0 0,St [],.int .u64 0].toList 8).map fun x=>Rows.uptoSmall H (x.1++x.2.1))=some true:=by kernel_rfl
 obtain⟨x,hx,hbx⟩:=Option.map_eq_some_iff.1 hb
 have hok:Input.okWideB Tryz.prog ((World.laidAll Tryz.prog os Rows.memberMakesUptoRow.laid).forCall (fun _ _=>0) ⟨#[],#[.slice none 0 0,.slice none 0 0,St [],.int .u64 0],[]⟩) 3 ⟨#[],#[.slice none 0 0,.slice none 0 0,St [],.int .u64 0],[]⟩=true:=by kernel_rfl
 refine ⟨World.laidAll Tryz.prog os Rows.memberMakesUptoRow.laid,fun _ _=>0,⟨#[],#[.slice none 0 0,.slice none 0 0,St [],.int .u64 0],[]⟩,World.laidAll_os _ _ _,World.shaped_of_ZipB (by kernel_rfl) (by kernel_rfl),(Input.okWide_of_okWideB (base:=0) hok).1,(Input.okWide_of_okWideB hok).2,
  OpenSpec.preRow_of_cond 8 hx rfl (fun k hk=>by cases hk;exact hbx) (by kernel_rfl) (by rw [MakeChecks.laidMetH_plain _ _ _ (by kernel_rfl)];exact laidMet_laidAll _ (by kernel_rfl) (by kernel_rfl)),?_⟩
 simp only [Assume.holds]
 exact⟨by simp,by simp,fun _=>Modest.zero,by simp,by simp⟩
theorem lifted (os:Os) (started:os.Started) (H:Type) (enc:TypeId × Value->H) (F:Stop.Interp) :
  ReturnsInHanded {} Tryz.checked os 3 .any ((Rows.OpenSpec.upto Rows.memberMakesSpec).preRow enc Tryz.prog Tryz.f3 Rows.memberMakesUptoRow.domain false Rows.memberMakesUptoRow.laid) (((Rows.OpenSpec.upto Rows.memberMakesSpec).at F).post enc Tryz.prog Tryz.f3 false true false false):=by
 refine returnsInHanded_of_row (C:=Tryz.checked) (s:=Rows.OpenSpec.upto Rows.memberMakesSpec) own started (by kernel_rfl) Tryz.func3 (witness os enc) ?_
 intro W base args ds gs before hval0 hW0 hcnd hcond hsz0 hL _ _
 have hW:DataW.Whole enc Tryz.prog Tryz.f3.params.toList Rows.memberMakesSpec.vars false W args.toList ds gs before:=hW0
 have hbk0:Rows.uptoBulkAll (ds++gs)<=1048576:=of_decide_eq_true (hcond _ rfl)
 clear hW0 hcond hcnd hsz0
 have hpow:=pow_of hL
 have hval:∀ (j:Nat) t v,Tryz.f3.params[j]? = some t->args[j]? = some v->Value.okWide Tryz.prog W .any base t v:=hval0
 have hW':=hW
 have hlt:=hW.lt
 obtain⟨p,q,hA0,hV,rfl,hfz,hnd⟩:=hW
 obtain⟨rfl,rfl⟩:=trodVars_none hV
 have hA:DataW.TrodAll enc Tryz.prog W 0 (fun _=>true) true Tryz.f3.params.toList args.toList ds p:=hA0
 have hkeep:=fun (W':World) (hb:Below W.heap.size W W') (sp:Nat->Bool) (hsp:∀ x ∈ p,sp x.block=true)=>law_args laid hb sp (fun t ht=>by
  rw [Tryz.params3] at ht
  have h:=List.all_eq_true.1 reads t ht
  simpa using h) (fun x hx=>hlt x (by simpa using hx)) hsp hA
 rw [Tryz.params3] at hA hval
 rw [List.append_nil] at hbk0
 obtain⟨v0,vs0,d0,ds0,p0,q0,hargs0,rfl,rfl,h0,hr0⟩:=trodAll_cons hA
 obtain⟨v1,vs1,d1,ds1,p1,q1,rfl,rfl,rfl,h1,hr1⟩:=trodAll_cons hr0
 obtain⟨v2,vs2,d2,ds2,p2,q2,rfl,rfl,rfl,h2,hr2⟩:=trodAll_cons hr1
 obtain⟨v3,vs3,d3,ds3,p3,q3,rfl,rfl,rfl,h3,hr3⟩:=trodAll_cons hr2
 obtain⟨rfl,rfl,rfl⟩:=trodAll_nil hr3
 obtain rfl:args=#[v0,v1,v2,v3]:=by cases args;simp_all
 have hbk:∀ d ∈ [d0,d1,d2,d3],Rows.uptoBulk d<=1048576:=fun d hd=>Nat.le_trans (bulk_mem hd) hbk0
 obtain⟨l0,hm0,hg0⟩:=open_members (B:=1048576) (hval 0 22 v0 rfl rfl) h0 (hbk d0 (by simp))
 obtain⟨l1,hm1,hg1⟩:=open_members (B:=1048576) (hval 1 22 v1 rfl rfl) h1 (hbk d1 (by simp))
 obtain⟨t2,rfl,b2⟩:=open_text (B:=1048576) (hval 2 9 v2 rfl rfl) h2 (hbk d2 (by simp))
 obtain⟨n3,rfl⟩:=open_u64 (hval 3 23 v3 rfl rfl) h3
 clear hA0 hval0 hlt
 simp only [List.append_nil] at hW' hkeep
 refine (makes_walk hm0 hg0 hm1 hg1 b2 hpow).mono fun e W' ⟨he,hg⟩=>?_
 subst he
 exact⟨_,rfl,law_below hW' hg (fun _ _ _=>(trodAll_cons_mk (shut_bool Tryz.underlying4 _) trodAll_mk0)) (fun sp hsp=>hkeep W' hg sp hsp) (fun _=>rfl)
  (ok_one (by kernel_rfl) rfl (okWide_bool_mk Tryz.underlying4 _))⟩
theorem and_mk {a b:Bool} (h1:a=true) (h2:b=true):(a && b)=true:=by rw [h1,h2];rfl
theorem fact1:(Rows.memberMakesUptoRow.wf (OpenSpec.ofChange Rows.memberMakesSpec))=true:=by kernel_rfl
theorem fact2:(laidOutB Tryz.prog)=true:=by kernel_rfl
theorem fact3:(mapsRowed Tryz.prog)=true:=by kernel_rfl
theorem fact4:(Tryz.f3.params.all (Tryz.prog.readableRec ·))=true:=by kernel_rfl
theorem fact5:(namedTie Tryz.prog Rows.memberMakesUptoRow.named Rows.memberMakesSpec.vars)=true:=by kernel_rfl
theorem fact6:((Rows.memberMakesUptoRow.stops == []))=true:=by kernel_rfl
theorem fact7:((Tryz.prog.stops == []))=true:=by kernel_rfl
theorem fact8:((Rows.memberMakesUptoRow.knobs == []))=true:=by kernel_rfl
theorem fact9:((Tryz.prog.stopKnobs == []))=true:=by kernel_rfl
theorem fact10:((Rows.memberMakesUptoRow.inPlace == Tryz.prog.inPlace 3))=true:=by kernel_rfl
theorem fact11:((Rows.memberMakesUptoRow.unfollowed == Tryz.prog.unfollowed 3))=true:=by kernel_rfl
theorem fact12:((Rows.memberMakesUptoRow.recurses == Tryz.prog.recurses 3))=true:=by kernel_rfl
theorem fact13:((Rows.memberMakesUptoRow.named == Tryz.prog.varsNamed 3))=true:=by kernel_rfl
theorem fact14:((Rows.memberMakesUptoRow.maps == (Tryz.f3.params.toList++Rows.memberMakesSpec.plain.varTypes Tryz.prog).any (Tryz.prog.mapsRec ·)))=true:=by kernel_rfl
theorem fact15:((Rows.memberMakesUptoRow.ifaces == (Tryz.f3.params.toList++Rows.memberMakesSpec.plain.varTypes Tryz.prog).any (Tryz.prog.ifacesRec ·)))=true:=by kernel_rfl
theorem fact16:((Rows.memberMakesUptoRow.mapsOut == Tryz.prog.mapsAmong Tryz.f3.resultTypes.toList))=true:=by kernel_rfl
theorem fact17:((Rows.memberMakesUptoRow.loops == (Tryz.f3.params.toList++Rows.memberMakesSpec.plain.varTypes Tryz.prog).any (Tryz.prog.loopsFrom ·)))=true:=by kernel_rfl
theorem fact18:((Rows.memberMakesUptoRow.wideKeys == (Tryz.f3.params.toList++Rows.memberMakesSpec.plain.varTypes Tryz.prog++Tryz.f3.resultTypes.toList).any (Tryz.prog.wideKeysFrom ·)))=true:=by kernel_rfl
theorem fact19:(Rows.memberMakesSpec.vars.all (Tryz.prog.varReadable ·))=true:=by kernel_rfl
theorem fact20:(Tryz.f3.resultTypes.all (fun t=>Tryz.prog.readableRec t && decide (t < Tryz.prog.types.size)))=true:=by kernel_rfl
theorem fact21:((Rows.memberMakesUptoRow.ifacesOut == Tryz.f3.resultTypes.toList.any (Tryz.prog.ifacesRec ·)))=true:=by kernel_rfl
theorem fact22:((Rows.memberMakesUptoRow.loopsOut == Tryz.f3.resultTypes.toList.any (Tryz.prog.loopsFrom ·)))=true:=by kernel_rfl
theorem fact23:((Rows.memberMakesUptoRow.plainKeys == Tryz.prog.plainKeys))=true:=by kernel_rfl
theorem fact24:(Rows.memberMakesUptoRow.shortTexts.isNone)=true:=by kernel_rfl
theorem fact25:(Tryz.prog.stopsHeard)=true:=by kernel_rfl
theorem fact26:(Tryz.prog.mayEnter)=true:=by kernel_rfl
theorem fact27:((Rows.memberMakesUptoRow.lifted == Tryz.prog.liftsFinal))=true:=by kernel_rfl
theorem fact28:((Tryz.prog.make == some Rows.memberMakesUptoRow.make))=true:=by kernel_rfl
theorem fact29:((Rows.memberMakesUptoRow.kinds == (if Rows.memberMakesUptoRow.domain.isEmpty then [] else Tryz.f3.params.toList.map fun t=>match Tryz.prog.underlying t with | some (.int k)=>some k | _=>none)))=true:=by kernel_rfl
theorem fact30:((Rows.memberMakesUptoRow.pinned == Rows.memberMakesUptoRow.pinnedBy))=true:=by kernel_rfl
theorem fact31:((Rows.memberMakesUptoRow.veiled == (Tryz.f3.params.toList++Rows.memberMakesSpec.plain.varTypes Tryz.prog++Tryz.f3.resultTypes.toList).any (Tryz.prog.veiledRec ·)))=true:=by kernel_rfl
theorem fact32:(Rows.memberMakesUptoRow.veiledFits Tryz.prog Tryz.f3.params.toList (Tryz.f3.params.toList++Rows.memberMakesSpec.plain.varTypes Tryz.prog++Tryz.f3.resultTypes.toList))=true:=by kernel_rfl
theorem closed:joinedFacts Tryz.prog 3 Tryz.f3 Rows.memberMakesSpec Rows.memberMakesUptoRow=true:=by
 unfold joinedFacts
 exact (and_mk (and_mk (and_mk (and_mk (and_mk (and_mk (and_mk (and_mk (and_mk (and_mk (and_mk (and_mk (and_mk (and_mk (and_mk (and_mk (and_mk (and_mk (and_mk (and_mk (and_mk (and_mk (and_mk (and_mk (and_mk (and_mk (and_mk (and_mk (and_mk (and_mk (and_mk fact1 fact2) fact3) fact4) fact5) fact6) fact7) fact8) fact9) fact10) fact11) fact12) fact13) fact14) fact15) fact16) fact17) fact18) fact19) fact20) fact21) fact22) fact23) fact24) fact25) fact26) fact27) fact28) fact29) fact30) fact31) fact32)
theorem over:Rows.MemberMakesUptoSaid :=
 OpenClaim.holds_of_cond 3 Tryz.f3 rfl rfl rfl rfl rfl rfl rfl ⟨rfl,rfl,rfl,rfl,rfl⟩ rfl rfl rfl rfl rfl (by kernel_rfl) Tryz.func3 closed
  (of_decide_eq_true (by kernel_rfl)) (by unfold Func.isWrapper;first | (rw [if_pos (by decide +kernel)];kernel_rfl) | (rw [if_neg (by decide +kernel)];exact⟨rfl,rfl⟩))
  (fun os started H enc _ F=>by rw [OpenClaim.pre_eq_preRow];exact lifted os started H enc F)
theorem named : Tryz.prog.funcNamed "gossamer/gossamerlaw20.MemberMakes" = some 3 := by kernel_rfl
theorem standless:(([22,22,9,23]:List TypeId).all fun u=>!Tryz.prog.wantsStandIn u)=true:=by kernel_rfl
theorem proved:Rows.MemberMakesUptoCardSaid :=
 Claim7.holds_tied_plain_at .later [] [.data, .data, .data, .data, .pinned] true (true, "72e0ca8385f4d1a8ac6acfd43ca54da02d9e9f1d66856de97416567bab6de55d") false
  over (fun _ h=>by cases h) (by kernel_rfl) (fun _ h=>by cases h) memberMakesUpto_row_tie rfl ⟨rfl,rfl⟩ (by kernel_rfl) rfl
  (fun f fn hf hfn=>by
   obtain rfl:f=3:=Option.some.inj (named.symm.trans hf) |>.symm
   obtain rfl:fn=Tryz.f3:=(Option.some.inj (Tryz.func3.symm.trans hfn)).symm
   exact⟨by kernel_rfl,fun j t ht=>by
    rw [Tryz.params3] at ht
    have hm:t ∈ ([22,22,9,23]:List TypeId):=by simpa using Array.mem_of_getElem? ht
    exact (show Tryz.prog.wantsStandIn t=false by simpa using List.all_eq_true.1 standless t hm)⟩)
  (by kernel_rfl)
end Go.Proofs.YtblkikjmocnllaaGreatDoor.memberMakes
