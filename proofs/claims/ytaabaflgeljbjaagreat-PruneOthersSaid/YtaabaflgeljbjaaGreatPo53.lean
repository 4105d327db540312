/- For every input gossamerlaw17.PruneOthers returns true and leaves its arguments as they were. No condition. -/
import Derived.Test.YtaabaflgeljbjaaGreatRows
import Derived.Test.YtaabaflgeljbjaaGreatPo49
import Derived.Test.YtaabaflgeljbjaaGreatPo51
import Derived.Test.YtaabaflgeljbjaaGreatPo52
import Derived.WalkKit
import Derived.ProofKit
import Derived.OpenShut
import Derived.SizedLaws
set_option linter.unusedVariables false
set_option linter.unusedSimpArgs false
set_option maxRecDepth 100000
set_option maxHeartbeats 40000000
namespace Go.Proofs.YtaabaflgeljbjaaGreat.pruneOthers
open Go.ChangeShapes Go.WideShapes Go.ChangeAt Go.RowKit
theorem own:ownKnob Tryz.prog.godebug=none:=by kernel_rfl
theorem laid:laidOutB Tryz.prog=true:=by kernel_rfl
theorem reads:(([26,29]:List TypeId).all fun t=>Tryz.prog.readableRec t && decide (t < Tryz.prog.types.size))=true:=by kernel_rfl
theorem lifted (os:Os) (started:os.Started) (H:Type) (enc:TypeId × Value->H) :
  ReturnsInHanded {} Tryz.checked os 3 .any (Rows.pruneOthersSpec.pre6 enc Tryz.prog Tryz.f3 Rows.pruneOthersRow.domain false) (Rows.pruneOthersSpec.post enc Tryz.prog Tryz.f3 false true false false):=by
 refine returnsInHanded_of_change_sized (C:=Tryz.checked) own started (by kernel_rfl) Tryz.func3
  (ChangeSpec.witness6 (enc:=enc) (C:=Tryz.checked) false ⟨#[],#[stV (.slice none 0 0) (.slice none 0 0) (.slice none 0 0),prV ([],0,[],0)],[]⟩ 8 (by kernel_rfl) (by kernel_rfl) (by kernel_rfl) (by kernel_rfl)) ?_
 intro W base args ds gs before hval0 hW hcnd hsz0 _;have hval:∀ (j:Nat) t v,Tryz.f3.params[j]? = some t->args[j]? = some v->Value.okWide Tryz.prog W .any base t v:=hval0;have hW':=hW;have hlt:=hW.lt;obtain⟨p,q,hA0,hV,rfl,hfz,hnd⟩:=hW;obtain⟨rfl,rfl⟩:=trodVars_none hV;have hA:DataW.TrodAll enc Tryz.prog W 0 (fun _=>true) true Tryz.f3.params.toList args.toList ds p:=hA0
 have hkeep:=fun (W':World) (hb:Below W.heap.size W W') (sp:Nat->Bool) (hsp:∀ x ∈ p,sp x.block=true)=>zpo laid hb sp (fun t ht=>by
  rw [Tryz.params3] at ht;have h:=List.all_eq_true.1 reads t ht
  simpa using h) (fun x hx=>hlt x (by simpa using hx)) hsp hA
 have hsz:∀ x ∈ DataW.weightsEach Tryz.prog Tryz.f3.params.toList ds,x<=reachBytes:=fun x hx=>by
  have h:=List.all_eq_true.1 hsz0 x (by
   show x ∈ DataW.weightsEach Tryz.prog (Tryz.f3.params.toList++[]) (ds++[])
   rw [List.append_nil,List.append_nil];exact hx)
  simpa using h
 rw [Tryz.params3] at hA hval hsz;obtain⟨v0,vs0,d0,ds0,p0,q0,hargs0,rfl,rfl,h0,hr0⟩:=trodAll_cons hA;obtain⟨v1,vs1,d1,ds1,p1,q1,rfl,rfl,rfl,h1,hr1⟩:=trodAll_cons hr0;obtain⟨rfl,rfl,rfl⟩:=trodAll_nil hr1;obtain rfl:args=#[v0,v1]:=by cases args;simp_all
 have hw:∀ x ∈ DataW.weightsEach Tryz.prog [26,29] [d0,d1],x<=reachBytes:=hsz;obtain⟨s0,x01,x02,x03,rfl,hs0,r0⟩:=ztn (hval 0 26 v0 rfl rfl) h0 (fun x hx=>hw x (zbu 0 rfl rfl hx));obtain⟨o1,rfl,b1,c1⟩:=zq6 (hval 1 29 v1 rfl rfl) h1 (fun x hx=>hw x (zbu 1 rfl rfl hx));clear hA0 hval0 hlt;simp only [List.append_nil] at hW' hkeep;refine (zq1 o1 b1 c1 hs0 r0).mono fun e W' ⟨he,hg⟩=>?_
 subst he
 exact⟨_,rfl,zvy hW' hg (fun _ _ _=>(trodAll_cons_mk (shut_bool Tryz.underlying4 _) trodAll_mk0)) (fun sp hsp=>hkeep W' hg sp hsp) (fun _=>rfl)
  (ok_one (by kernel_rfl) rfl (okWide_bool_mk Tryz.underlying4 _))⟩
theorem and_mk {a b:Bool} (h1:a=true) (h2:b=true):(a && b)=true:=by rw [h1,h2];rfl
theorem fact1:(Rows.pruneOthersRow.wf (OpenSpec.ofChange Rows.pruneOthersSpec))=true:=by kernel_rfl
theorem fact2:(laidOutB Tryz.prog)=true:=by kernel_rfl
theorem fact3:(mapsRowed Tryz.prog)=true:=by kernel_rfl
theorem fact4:(Tryz.f3.params.all (Tryz.prog.readableRec ·))=true:=by kernel_rfl
theorem fact5:(namedTie Tryz.prog Rows.pruneOthersRow.named Rows.pruneOthersSpec.vars)=true:=by kernel_rfl
theorem fact6:((Rows.pruneOthersRow.stops == []))=true:=by kernel_rfl
theorem fact7:((Tryz.prog.stops == []))=true:=by kernel_rfl
theorem fact8:((Rows.pruneOthersRow.knobs == []))=true:=by kernel_rfl
theorem fact9:((Tryz.prog.stopKnobs == []))=true:=by kernel_rfl
theorem fact10:((Rows.pruneOthersRow.inPlace == Tryz.prog.inPlace 3))=true:=by kernel_rfl
theorem fact11:((Rows.pruneOthersRow.unfollowed == Tryz.prog.unfollowed 3))=true:=by kernel_rfl
theorem fact12:((Rows.pruneOthersRow.recurses == Tryz.prog.recurses 3))=true:=by kernel_rfl
theorem fact13:((Rows.pruneOthersRow.named == Tryz.prog.varsNamed 3))=true:=by kernel_rfl
theorem fact14:((Rows.pruneOthersRow.maps == (Tryz.f3.params.toList++Rows.pruneOthersSpec.plain.varTypes Tryz.prog).any (Tryz.prog.mapsRec ·)))=true:=by kernel_rfl
theorem fact15:((Rows.pruneOthersRow.ifaces == (Tryz.f3.params.toList++Rows.pruneOthersSpec.plain.varTypes Tryz.prog).any (Tryz.prog.ifacesRec ·)))=true:=by kernel_rfl
theorem fact16:((Rows.pruneOthersRow.mapsOut == Tryz.prog.mapsAmong Tryz.f3.resultTypes.toList))=true:=by kernel_rfl
theorem fact17:((Rows.pruneOthersRow.loops == (Tryz.f3.params.toList++Rows.pruneOthersSpec.plain.varTypes Tryz.prog).any (Tryz.prog.loopsFrom ·)))=true:=by kernel_rfl
theorem fact18:((Rows.pruneOthersRow.wideKeys == (Tryz.f3.params.toList++Rows.pruneOthersSpec.plain.varTypes Tryz.prog++Tryz.f3.resultTypes.toList).any (Tryz.prog.wideKeysFrom ·)))=true:=by kernel_rfl
theorem fact19:(Rows.pruneOthersSpec.vars.all (Tryz.prog.varReadable ·))=true:=by kernel_rfl
theorem fact20:(Tryz.f3.resultTypes.all (fun t=>Tryz.prog.readableRec t && decide (t < Tryz.prog.types.size)))=true:=by kernel_rfl
theorem fact21:((Rows.pruneOthersRow.ifacesOut == Tryz.f3.resultTypes.toList.any (Tryz.prog.ifacesRec ·)))=true:=by kernel_rfl
theorem fact22:((Rows.pruneOthersRow.loopsOut == Tryz.f3.resultTypes.toList.any (Tryz.prog.loopsFrom ·)))=true:=by kernel_rfl
theorem fact23:((Rows.pruneOthersRow.plainKeys == Tryz.prog.plainKeys))=true:=by kernel_rfl
theorem fact24:(Rows.pruneOthersRow.shortTexts.isNone)=true:=by kernel_rfl
theorem fact25:(Tryz.prog.stopsHeard)=true:=by kernel_rfl
theorem fact26:(Tryz.prog.mayEnter)=true:=by kernel_rfl
theorem fact27:((Rows.pruneOthersRow.lifted == Tryz.prog.liftsFinal))=true:=by kernel_rfl
theorem fact28:((Tryz.prog.make == some Rows.pruneOthersRow.make))=true:=by kernel_rfl
theorem fact29:((Rows.pruneOthersRow.kinds == (if Rows.pruneOthersRow.domain.isEmpty then [] else Tryz.f3.params.toList.map fun t=>match Tryz.prog.underlying t with | some (.int k)=>some k | _=>none)))=true:=by kernel_rfl
theorem fact30:((Rows.pruneOthersRow.pinned == Rows.pruneOthersRow.pinnedBy))=true:=by kernel_rfl
theorem fact31:((Rows.pruneOthersRow.veiled == (Tryz.f3.params.toList++Rows.pruneOthersSpec.plain.varTypes Tryz.prog++Tryz.f3.resultTypes.toList).any (Tryz.prog.veiledRec ·)))=true:=by kernel_rfl
theorem fact32:(Rows.pruneOthersRow.veiledFits Tryz.prog Tryz.f3.params.toList (Tryz.f3.params.toList++Rows.pruneOthersSpec.plain.varTypes Tryz.prog++Tryz.f3.resultTypes.toList))=true:=by kernel_rfl
theorem closed:joinedFacts Tryz.prog 3 Tryz.f3 Rows.pruneOthersSpec Rows.pruneOthersRow=true:=by
 unfold joinedFacts;exact (and_mk (and_mk (and_mk (and_mk (and_mk (and_mk (and_mk (and_mk (and_mk (and_mk (and_mk (and_mk (and_mk (and_mk (and_mk (and_mk (and_mk (and_mk (and_mk (and_mk (and_mk (and_mk (and_mk (and_mk (and_mk (and_mk (and_mk (and_mk (and_mk (and_mk (and_mk fact1 fact2) fact3) fact4) fact5) fact6) fact7) fact8) fact9) fact10) fact11) fact12) fact13) fact14) fact15) fact16) fact17) fact18) fact19) fact20) fact21) fact22) fact23) fact24) fact25) fact26) fact27) fact28) fact29) fact30) fact31) fact32)
theorem over:Rows.pruneOthersRow.holds Tryz.pinned (OpenSpec.ofChange Rows.pruneOthersSpec) :=
 OpenClaim.holds_of_wide 3 Tryz.f3 rfl rfl rfl rfl rfl rfl rfl ⟨rfl,rfl,rfl,rfl,rfl⟩ rfl rfl rfl rfl rfl (by kernel_rfl) Tryz.func3 closed
  (of_decide_eq_true (by kernel_rfl)) (by unfold Func.isWrapper;first | (rw [if_pos (by decide +kernel)];kernel_rfl) | (rw [if_neg (by decide +kernel)];exact⟨rfl,rfl⟩))
  (fun os started H enc _=>lifted os started H enc)
theorem proved:Rows.PruneOthersSaid :=
 over
end Go.Proofs.YtaabaflgeljbjaaGreat.pruneOthers
