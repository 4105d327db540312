/- For every input gossamerlaw17.PruneOnce returns true and leaves its arguments as they were. No condition. -/
import Derived.Test.YtaabaflgeljbjaaGreatRows
import Derived.Test.YtaabaflgeljbjaaGreatQx46
import Derived.Test.YtaabaflgeljbjaaGreatQx47
import Derived.Test.YtaabaflgeljbjaaGreatQx48
import Derived.Test.YtaabaflgeljbjaaGreatQx49
import Derived.WalkKit
import Derived.ProofKit
import Derived.OpenShut
import Derived.SizedLaws
set_option linter.unusedVariables false
set_option linter.unusedSimpArgs false
set_option maxRecDepth 100000
set_option maxHeartbeats 40000000
namespace Go.Proofs.YtaabaflgeljbjaaGreat.pruneOnce
open Go.ChangeShapes Go.WideShapes Go.ChangeAt Go.RowKit
theorem own:ownKnob Tryz.prog.godebug=none:=by kernel_rfl
theorem laid:laidOutB Tryz.prog=true:=by kernel_rfl
theorem reads:(([60]:List TypeId).all fun t=>Tryz.prog.readableRec t && decide (t < Tryz.prog.types.size))=true:=by kernel_rfl
theorem lifted (os:Os) (started:os.Started) (H:Type) (enc:TypeId × Value->H) :
  ReturnsInHanded {} Tryz.checked os 5 .any (Rows.pruneOnceSpec.pre6 enc Tryz.prog Tryz.f5 Rows.pruneOnceRow.domain false) (Rows.pruneOnceSpec.post enc Tryz.prog Tryz.f5 false true false false):=by
 refine returnsInHanded_of_change_sized (C:=Tryz.checked) own started (by kernel_rfl) Tryz.func5
  (ChangeSpec.witness6 (enc:=enc) (C:=Tryz.checked) false ⟨#[],#[.slice none 0 0],[]⟩ 8 (by kernel_rfl) (by kernel_rfl) (by kernel_rfl) (by kernel_rfl)) ?_
 intro W base args ds gs before hval0 hW hcnd hsz0 _;have hval:∀ (j:Nat) t v,Tryz.f5.params[j]? = some t->args[j]? = some v->Value.okWide Tryz.prog W .any base t v:=hval0;have hW':=hW;have hlt:=hW.lt;obtain⟨p,q,hA0,hV,rfl,hfz,hnd⟩:=hW;obtain⟨rfl,rfl⟩:=trodVars_none hV;have hA:DataW.TrodAll enc Tryz.prog W 0 (fun _=>true) true Tryz.f5.params.toList args.toList ds p:=hA0
 have hkeep:=fun (W':World) (hb:Below W.heap.size W W') (sp:Nat->Bool) (hsp:∀ x ∈ p,sp x.block=true)=>zsi laid hb sp (fun t ht=>by
  rw [Tryz.params5] at ht;have h:=List.all_eq_true.1 reads t ht
  simpa using h) (fun x hx=>hlt x (by simpa using hx)) hsp hA
 have hsz:∀ x ∈ DataW.weightsEach Tryz.prog Tryz.f5.params.toList ds,x<=reachBytes:=fun x hx=>by
  have h:=List.all_eq_true.1 hsz0 x (by
   show x ∈ DataW.weightsEach Tryz.prog (Tryz.f5.params.toList++[]) (ds++[])
   rw [List.append_nil,List.append_nil];exact hx)
  simpa using h
 rw [Tryz.params5] at hA hval hsz;obtain⟨v0,vs0,d0,ds0,p0,q0,hargs0,rfl,rfl,h0,hr0⟩:=trodAll_cons hA;obtain⟨rfl,rfl,rfl⟩:=trodAll_nil hr0;obtain rfl:args=#[v0]:=by cases args;simp_all
 have hw:∀ x ∈ DataW.weightsEach Tryz.prog [60] [d0],x<=reachBytes:=hsz;obtain⟨l0,hm0,hd0⟩:=zv5 (hval 0 60 v0 rfl rfl) h0 (fun x hx=>hw x (zmc 0 rfl rfl hx));clear hA0 hval0 hlt;simp only [List.append_nil] at hW' hkeep;refine (ydg hm0 hd0).mono fun e W' ⟨he,hg⟩=>?_
 subst he
 exact⟨_,rfl,zyv hW' hg (fun _ _ _=>(trodAll_cons_mk (shut_bool Tryz.underlying4 _) trodAll_mk0)) (fun sp hsp=>hkeep W' hg sp hsp) (fun _=>rfl)
  (ok_one (by kernel_rfl) rfl (okWide_bool_mk Tryz.underlying4 _))⟩
theorem and_mk {a b:Bool} (h1:a=true) (h2:b=true):(a && b)=true:=by rw [h1,h2];rfl
theorem fact1:(Rows.pruneOnceRow.wf (OpenSpec.ofChange Rows.pruneOnceSpec))=true:=by kernel_rfl
theorem fact2:(laidOutB Tryz.prog)=true:=by kernel_rfl
theorem fact3:(mapsRowed Tryz.prog)=true:=by kernel_rfl
theorem fact4:(Tryz.f5.params.all (Tryz.prog.readableRec ·))=true:=by kernel_rfl
theorem fact5:(namedTie Tryz.prog Rows.pruneOnceRow.named Rows.pruneOnceSpec.vars)=true:=by kernel_rfl
theorem fact6:((Rows.pruneOnceRow.stops == []))=true:=by kernel_rfl
theorem fact7:((Tryz.prog.stops == []))=true:=by kernel_rfl
theorem fact8:((Rows.pruneOnceRow.knobs == []))=true:=by kernel_rfl
theorem fact9:((Tryz.prog.stopKnobs == []))=true:=by kernel_rfl
theorem fact10:((Rows.pruneOnceRow.inPlace == Tryz.prog.inPlace 5))=true:=by kernel_rfl
theorem fact11:((Rows.pruneOnceRow.unfollowed == Tryz.prog.unfollowed 5))=true:=by kernel_rfl
theorem fact12:((Rows.pruneOnceRow.recurses == Tryz.prog.recurses 5))=true:=by kernel_rfl
theorem fact13:((Rows.pruneOnceRow.named == Tryz.prog.varsNamed 5))=true:=by kernel_rfl
theorem fact14:((Rows.pruneOnceRow.maps == (Tryz.f5.params.toList++Rows.pruneOnceSpec.plain.varTypes Tryz.prog).any (Tryz.prog.mapsRec ·)))=true:=by kernel_rfl
theorem fact15:((Rows.pruneOnceRow.ifaces == (Tryz.f5.params.toList++Rows.pruneOnceSpec.plain.varTypes Tryz.prog).any (Tryz.prog.ifacesRec ·)))=true:=by kernel_rfl
theorem fact16:((Rows.pruneOnceRow.mapsOut == Tryz.prog.mapsAmong Tryz.f5.resultTypes.toList))=true:=by kernel_rfl
theorem fact17:((Rows.pruneOnceRow.loops == (Tryz.f5.params.toList++Rows.pruneOnceSpec.plain.varTypes Tryz.prog).any (Tryz.prog.loopsFrom ·)))=true:=by kernel_rfl
theorem fact18:((Rows.pruneOnceRow.wideKeys == (Tryz.f5.params.toList++Rows.pruneOnceSpec.plain.varTypes Tryz.prog++Tryz.f5.resultTypes.toList).any (Tryz.prog.wideKeysFrom ·)))=true:=by kernel_rfl
theorem fact19:(Rows.pruneOnceSpec.vars.all (Tryz.prog.varReadable ·))=true:=by kernel_rfl
theorem fact20:(Tryz.f5.resultTypes.all (fun t=>Tryz.prog.readableRec t && decide (t < Tryz.prog.types.size)))=true:=by kernel_rfl
theorem fact21:((Rows.pruneOnceRow.ifacesOut == Tryz.f5.resultTypes.toList.any (Tryz.prog.ifacesRec ·)))=true:=by kernel_rfl
theorem fact22:((Rows.pruneOnceRow.loopsOut == Tryz.f5.resultTypes.toList.any (Tryz.prog.loopsFrom ·)))=true:=by kernel_rfl
theorem fact23:((Rows.pruneOnceRow.plainKeys == Tryz.prog.plainKeys))=true:=by kernel_rfl
theorem fact24:(Rows.pruneOnceRow.shortTexts.isNone)=true:=by kernel_rfl
theorem fact25:(Tryz.prog.stopsHeard)=true:=by kernel_rfl
theorem fact26:(Tryz.prog.mayEnter)=true:=by kernel_rfl
theorem fact27:((Rows.pruneOnceRow.lifted == Tryz.prog.liftsFinal))=true:=by kernel_rfl
theorem fact28:((Tryz.prog.make == some Rows.pruneOnceRow.make))=true:=by kernel_rfl
theorem fact29:((Rows.pruneOnceRow.kinds == (if Rows.pruneOnceRow.domain.isEmpty then [] else Tryz.f5.params.toList.map fun t=>match Tryz.prog.underlying t with | some (.int k)=>some k | _=>none)))=true:=by kernel_rfl
theorem fact30:((Rows.pruneOnceRow.pinned == Rows.pruneOnceRow.pinnedBy))=true:=by kernel_rfl
theorem fact31:((Rows.pruneOnceRow.veiled == (Tryz.f5.params.toList++Rows.pruneOnceSpec.plain.varTypes Tryz.prog++Tryz.f5.resultTypes.toList).any (Tryz.prog.veiledRec ·)))=true:=by kernel_rfl
theorem fact32:(Rows.pruneOnceRow.veiledFits Tryz.prog Tryz.f5.params.toList (Tryz.f5.params.toList++Rows.pruneOnceSpec.plain.varTypes Tryz.prog++Tryz.f5.resultTypes.toList))=true:=by kernel_rfl
theorem closed:joinedFacts Tryz.prog 5 Tryz.f5 Rows.pruneOnceSpec Rows.pruneOnceRow=true:=by
 unfold joinedFacts;exact (and_mk (and_mk (and_mk (and_mk (and_mk (and_mk (and_mk (and_mk (and_mk (and_mk (and_mk (and_mk (and_mk (and_mk (and_mk (and_mk (and_mk (and_mk (and_mk (and_mk (and_mk (and_mk (and_mk (and_mk (and_mk (and_mk (and_mk (and_mk (and_mk (and_mk (and_mk fact1 fact2) fact3) fact4) fact5) fact6) fact7) fact8) fact9) fact10) fact11) fact12) fact13) fact14) fact15) fact16) fact17) fact18) fact19) fact20) fact21) fact22) fact23) fact24) fact25) fact26) fact27) fact28) fact29) fact30) fact31) fact32)
theorem over:Rows.pruneOnceRow.holds Tryz.pinned (OpenSpec.ofChange Rows.pruneOnceSpec) :=
 OpenClaim.holds_of_wide 5 Tryz.f5 rfl rfl rfl rfl rfl rfl rfl ⟨rfl,rfl,rfl,rfl,rfl⟩ rfl rfl rfl rfl rfl (by kernel_rfl) Tryz.func5 closed
  (of_decide_eq_true (by kernel_rfl)) (by unfold Func.isWrapper;first | (rw [zP (by decide +kernel)];kernel_rfl) | (rw [zN (by decide +kernel)];exact⟨rfl,rfl⟩))
  (fun os started H enc _=>lifted os started H enc)
theorem proved:Rows.PruneOnceSaid :=
 over
end Go.Proofs.YtaabaflgeljbjaaGreat.pruneOnce
