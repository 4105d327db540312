/- For every input gossamerlaw17.PruneOrder returns true and leaves its arguments as they were. No condition. -/
import Derived.Test.YtaabaflgeljbjaaGreatRows
import Derived.Test.YtaabaflgeljbjaaGreatPr43
import Derived.Test.YtaabaflgeljbjaaGreatPr44
import Derived.Test.YtaabaflgeljbjaaGreatPr45
import Derived.Test.YtaabaflgeljbjaaGreatPr46
import Derived.WalkKit
import Derived.ProofKit
import Derived.OpenShut
import Derived.SizedLaws
set_option linter.unusedVariables false
set_option linter.unusedSimpArgs false
set_option maxRecDepth 100000
set_option maxHeartbeats 40000000
namespace Go.Proofs.YtaabaflgeljbjaaGreat.pruneOrder
open Go.ChangeShapes Go.WideShapes Go.ChangeAt Go.RowKit
theorem own:ownKnob Tryz.prog.godebug=none:=by kernel_rfl
theorem laid:laidOutB Tryz.prog=true:=by kernel_rfl
theorem reads:(([60]:List TypeId).all fun t=>Tryz.prog.readableRec t && decide (t < Tryz.prog.types.size))=true:=by kernel_rfl
theorem lifted (os:Os) (started:os.Started) (H:Type) (enc:TypeId × Value->H) :
  ReturnsInHanded {} Tryz.checked os 6 .any (Rows.pruneOrderSpec.pre6 enc Tryz.prog Tryz.f6 Rows.pruneOrderRow.domain false) (Rows.pruneOrderSpec.post enc Tryz.prog Tryz.f6 false true false false):=by
 refine returnsInHanded_of_change_sized (C:=Tryz.checked) own started (by kernel_rfl) Tryz.func6
  (ChangeSpec.witness6 (enc:=enc) (C:=Tryz.checked) false ⟨#[],#[.slice none 0 0],[]⟩ 8 (by kernel_rfl) (by kernel_rfl) (by kernel_rfl) (by kernel_rfl)) ?_
 intro W base args ds gs before hval0 hW hcnd hsz0 _;have hval:∀ (j:Nat) t v,Tryz.f6.params[j]? = some t->args[j]? = some v->Value.okWide Tryz.prog W .any base t v:=hval0;have hW':=hW;have hlt:=hW.lt;obtain⟨p,q,hA0,hV,rfl,hfz,hnd⟩:=hW;obtain⟨rfl,rfl⟩:=trodVars_none hV;have hA:DataW.TrodAll enc Tryz.prog W 0 (fun _=>true) true Tryz.f6.params.toList args.toList ds p:=hA0
 have hkeep:=fun (W':World) (hb:Below W.heap.size W W') (sp:Nat->Bool) (hsp:∀ x ∈ p,sp x.block=true)=>zsi laid hb sp (fun t ht=>by
  rw [Tryz.params6] at ht;have h:=List.all_eq_true.1 reads t ht
  simpa using h) (fun x hx=>hlt x (by simpa using hx)) hsp hA
 have hsz:∀ x ∈ DataW.weightsEach Tryz.prog Tryz.f6.params.toList ds,x<=reachBytes:=fun x hx=>by
  have h:=List.all_eq_true.1 hsz0 x (by
   show x ∈ DataW.weightsEach Tryz.prog (Tryz.f6.params.toList++[]) (ds++[])
   rw [List.append_nil,List.append_nil];exact hx)
  simpa using h
 rw [Tryz.params6] at hA hval hsz;obtain⟨v0,vs0,d0,ds0,p0,q0,hargs0,rfl,rfl,h0,hr0⟩:=trodAll_cons hA;obtain⟨rfl,rfl,rfl⟩:=trodAll_nil hr0;obtain rfl:args=#[v0]:=by cases args;simp_all
 have hw:∀ x ∈ DataW.weightsEach Tryz.prog [60] [d0],x<=reachBytes:=hsz;obtain⟨l0,hm0,hd0⟩:=zv5 (hval 0 60 v0 rfl rfl) h0 (fun x hx=>hw x (zmc 0 rfl rfl hx));clear hA0 hval0 hlt;simp only [List.append_nil] at hW' hkeep;refine (zsg hm0 hd0).mono fun e W' ⟨he,hg⟩=>?_
 subst he
 exact⟨_,rfl,zyv hW' hg (fun _ _ _=>(trodAll_cons_mk (shut_bool Tryz.underlying4 _) trodAll_mk0)) (fun sp hsp=>hkeep W' hg sp hsp) (fun _=>rfl)
  (ok_one (by kernel_rfl) rfl (okWide_bool_mk Tryz.underlying4 _))⟩
theorem and_mk {a b:Bool} (h1:a=true) (h2:b=true):(a && b)=true:=by rw [h1,h2];rfl
theorem fact1:(Rows.pruneOrderRow.wf (OpenSpec.ofChange Rows.pruneOrderSpec))=true:=by kernel_rfl
theorem fact2:(laidOutB Tryz.prog)=true:=by kernel_rfl
theorem fact3:(mapsRowed Tryz.prog)=true:=by kernel_rfl
theorem fact4:(Tryz.f6.params.all (Tryz.prog.readableRec ·))=true:=by kernel_rfl
theorem fact5:(namedTie Tryz.prog Rows.pruneOrderRow.named Rows.pruneOrderSpec.vars)=true:=by kernel_rfl
theorem fact6:((Rows.pruneOrderRow.stops == []))=true:=by kernel_rfl
theorem fact7:((Tryz.prog.stops == []))=true:=by kernel_rfl
theorem fact8:((Rows.pruneOrderRow.knobs == []))=true:=by kernel_rfl
theorem fact9:((Tryz.prog.stopKnobs == []))=true:=by kernel_rfl
theorem fact10:((Rows.pruneOrderRow.inPlace == Tryz.prog.inPlace 6))=true:=by kernel_rfl
theorem fact11:((Rows.pruneOrderRow.unfollowed == Tryz.prog.unfollowed 6))=true:=by kernel_rfl
theorem fact12:((Rows.pruneOrderRow.recurses == Tryz.prog.recurses 6))=true:=by kernel_rfl
theorem fact13:((Rows.pruneOrderRow.named == Tryz.prog.varsNamed 6))=true:=by kernel_rfl
theorem fact14:((Rows.pruneOrderRow.maps == (Tryz.f6.params.toList++Rows.pruneOrderSpec.plain.varTypes Tryz.prog).any (Tryz.prog.mapsRec ·)))=true:=by kernel_rfl
theorem fact15:((Rows.pruneOrderRow.ifaces == (Tryz.f6.params.toList++Rows.pruneOrderSpec.plain.varTypes Tryz.prog).any (Tryz.prog.ifacesRec ·)))=true:=by kernel_rfl
theorem fact16:((Rows.pruneOrderRow.mapsOut == Tryz.prog.mapsAmong Tryz.f6.resultTypes.toList))=true:=by kernel_rfl
theorem fact17:((Rows.pruneOrderRow.loops == (Tryz.f6.params.toList++Rows.pruneOrderSpec.plain.varTypes Tryz.prog).any (Tryz.prog.loopsFrom ·)))=true:=by kernel_rfl
theorem fact18:((Rows.pruneOrderRow.wideKeys == (Tryz.f6.params.toList++Rows.pruneOrderSpec.plain.varTypes Tryz.prog++Tryz.f6.resultTypes.toList).any (Tryz.prog.wideKeysFrom ·)))=true:=by kernel_rfl
theorem fact19:(Rows.pruneOrderSpec.vars.all (Tryz.prog.varReadable ·))=true:=by kernel_rfl
theorem fact20:(Tryz.f6.resultTypes.all (fun t=>Tryz.prog.readableRec t && decide (t < Tryz.prog.types.size)))=true:=by kernel_rfl
theorem fact21:((Rows.pruneOrderRow.ifacesOut == Tryz.f6.resultTypes.toList.any (Tryz.prog.ifacesRec ·)))=true:=by kernel_rfl
theorem fact22:((Rows.pruneOrderRow.loopsOut == Tryz.f6.resultTypes.toList.any (Tryz.prog.loopsFrom ·)))=true:=by kernel_rfl
theorem fact23:((Rows.pruneOrderRow.plainKeys == Tryz.prog.plainKeys))=true:=by kernel_rfl
theorem fact24:(Rows.pruneOrderRow.shortTexts.isNone)=true:=by kernel_rfl
theorem fact25:(Tryz.prog.stopsHeard)=true:=by kernel_rfl
theorem fact26:(Tryz.prog.mayEnter)=true:=by kernel_rfl
theorem fact27:((Rows.pruneOrderRow.lifted == Tryz.prog.liftsFinal))=true:=by kernel_rfl
theorem fact28:((Tryz.prog.make == some Rows.pruneOrderRow.make))=true:=by kernel_rfl
theorem fact29:((Rows.pruneOrderRow.kinds == (if Rows.pruneOrderRow.domain.isEmpty then [] else Tryz.f6.params.toList.map fun t=>match Tryz.prog.underlying t with | some (.int k)=>some k | _=>none)))=true:=by kernel_rfl
theorem fact30:((Rows.pruneOrderRow.pinned == Rows.pruneOrderRow.pinnedBy))=true:=by kernel_rfl
theorem fact31:((Rows.pruneOrderRow.veiled == (Tryz.f6.params.toList++Rows.pruneOrderSpec.plain.varTypes Tryz.prog++Tryz.f6.resultTypes.toList).any (Tryz.prog.veiledRec ·)))=true:=by kernel_rfl
theorem fact32:(Rows.pruneOrderRow.veiledFits Tryz.prog Tryz.f6.params.toList (Tryz.f6.params.toList++Rows.pruneOrderSpec.plain.varTypes Tryz.prog++Tryz.f6.resultTypes.toList))=true:=by kernel_rfl
theorem closed:joinedFacts Tryz.prog 6 Tryz.f6 Rows.pruneOrderSpec Rows.pruneOrderRow=true:=by
 unfold joinedFacts;exact (and_mk (and_mk (and_mk (and_mk (and_mk (and_mk (and_mk (and_mk (and_mk (and_mk (and_mk (and_mk (and_mk (and_mk (and_mk (and_mk (and_mk (and_mk (and_mk (and_mk (and_mk (and_mk (and_mk (and_mk (and_mk (and_mk (and_mk (and_mk (and_mk (and_mk (and_mk fact1 fact2) fact3) fact4) fact5) fact6) fact7) fact8) fact9) fact10) fact11) fact12) fact13) fact14) fact15) fact16) fact17) fact18) fact19) fact20) fact21) fact22) fact23) fact24) fact25) fact26) fact27) fact28) fact29) fact30) fact31) fact32)
theorem over:Rows.pruneOrderRow.holds Tryz.pinned (OpenSpec.ofChange Rows.pruneOrderSpec) :=
 OpenClaim.holds_of_wide 6 Tryz.f6 rfl rfl rfl rfl rfl rfl rfl ⟨rfl,rfl,rfl,rfl,rfl⟩ rfl rfl rfl rfl rfl (by kernel_rfl) Tryz.func6 closed
  (of_decide_eq_true (by kernel_rfl)) (by unfold Func.isWrapper;first | (rw [if_pos (by decide +kernel)];kernel_rfl) | (rw [if_neg (by decide +kernel)];exact⟨rfl,rfl⟩))
  (fun os started H enc _=>lifted os started H enc)
theorem proved:Rows.PruneOrderSaid :=
 over
end Go.Proofs.YtaabaflgeljbjaaGreat.pruneOrder
