/- For every input gossamerlaw16.StateJoins returns true and leaves its arguments as they were. No condition. -/
import Derived.Test.YtdikcgmdmcfpfaaGreatRows
import Derived.Test.YtdikcgmdmcfpfaaGreatJo49
import Derived.Test.YtdikcgmdmcfpfaaGreatJo51
import Derived.Test.YtdikcgmdmcfpfaaGreatJo52
import Derived.WalkKit
import Derived.ProofKit
import Derived.OpenShut
import Derived.SizedLaws
set_option linter.unusedVariables false
set_option linter.unusedSimpArgs false
set_option maxRecDepth 100000
set_option maxHeartbeats 40000000
namespace Go.Proofs.YtdikcgmdmcfpfaaGreat.stateJoins
open Go.ChangeShapes Go.WideShapes Go.ChangeAt Go.RowKit
theorem own:ownKnob Tryz.prog.godebug=none:=by kernel_rfl
theorem laid:laidOutB Tryz.prog=true:=by kernel_rfl
theorem reads:(([30,30,26,26]:List TypeId).all fun t=>Tryz.prog.readableRec t && decide (t < Tryz.prog.types.size))=true:=by kernel_rfl
theorem lifted (os:Os) (started:os.Started) (H:Type) (enc:TypeId × Value->H) :
  ReturnsInHanded {} Tryz.checked os 9 .any (Rows.stateJoinsSpec.pre6 enc Tryz.prog Tryz.f9 Rows.stateJoinsRow.domain false) (Rows.stateJoinsSpec.post enc Tryz.prog Tryz.f9 false true false false):=by
 refine returnsInHanded_of_change_sized (C:=Tryz.checked) own started (by kernel_rfl) Tryz.func9
  (ChangeSpec.witness6 (enc:=enc) (C:=Tryz.checked) false ⟨#[],#[stV (.slice none 0 0) (.slice none 0 0) (.slice none 0 0),stV (.slice none 0 0) (.slice none 0 0) (.slice none 0 0),.slice none 0 0,.slice none 0 0],[]⟩ 8 (by kernel_rfl) (by kernel_rfl) (by kernel_rfl) (by kernel_rfl)) ?_
 intro W base args ds gs before hval0 hW hcnd hsz0 _;have hval:∀ (j:Nat) t v,Tryz.f9.params[j]? = some t->args[j]? = some v->Value.okWide Tryz.prog W .any base t v:=hval0;have hW':=hW;have hlt:=hW.lt;obtain⟨p,q,hA0,hV,rfl,hfz,hnd⟩:=hW;obtain⟨rfl,rfl⟩:=trodVars_none hV;have hA:DataW.TrodAll enc Tryz.prog W 0 (fun _=>true) true Tryz.f9.params.toList args.toList ds p:=hA0
 have hkeep:=fun (W':World) (hb:Below W.heap.size W W') (sp:Nat->Bool) (hsp:∀ x ∈ p,sp x.block=true)=>zrp laid hb sp (fun t ht=>by
  rw [Tryz.params9] at ht;have h:=List.all_eq_true.1 reads t ht
  simpa using h) (fun x hx=>hlt x (by simpa using hx)) hsp hA
 have hsz:∀ x ∈ DataW.weightsEach Tryz.prog Tryz.f9.params.toList ds,x<=reachBytes:=fun x hx=>by
  have h:=List.all_eq_true.1 hsz0 x (by
   show x ∈ DataW.weightsEach Tryz.prog (Tryz.f9.params.toList++[]) (ds++[])
   rw [List.append_nil,List.append_nil];exact hx)
  simpa using h
 rw [Tryz.params9] at hA hval hsz;obtain⟨v0,vs0,d0,ds0,p0,q0,hargs0,rfl,rfl,h0,hr0⟩:=trodAll_cons hA;obtain⟨v1,vs1,d1,ds1,p1,q1,rfl,rfl,rfl,h1,hr1⟩:=trodAll_cons hr0;obtain⟨v2,vs2,d2,ds2,p2,q2,rfl,rfl,rfl,h2,hr2⟩:=trodAll_cons hr1;obtain⟨v3,vs3,d3,ds3,p3,q3,rfl,rfl,rfl,h3,hr3⟩:=trodAll_cons hr2;obtain⟨rfl,rfl,rfl⟩:=trodAll_nil hr3;obtain rfl:args=#[v0,v1,v2,v3]:=by cases args;simp_all
 have hw:∀ x ∈ DataW.weightsEach Tryz.prog [30,30,26,26] [d0,d1,d2,d3],x<=reachBytes:=hsz;obtain⟨s0,x01,x02,x03,rfl,hs0,r0⟩:=zn2 (hval 0 30 v0 rfl rfl) h0 (fun x hx=>hw x (zbu 0 rfl rfl hx));obtain⟨s1,x11,x12,x13,rfl,hs1,r1⟩:=zn2 (hval 1 30 v1 rfl rfl) h1 (fun x hx=>hw x (zbu 1 rfl rfl hx));obtain⟨l2,hm2⟩:=zn3 (hval 2 26 v2 rfl rfl) h2 (fun x hx=>hw x (zbu 2 rfl rfl hx));obtain⟨l3,hm3⟩:=zn3 (hval 3 26 v3 rfl rfl) h3 (fun x hx=>hw x (zbu 3 rfl rfl hx));clear hA0 hval0 hlt;simp only [List.append_nil] at hW' hkeep;refine (zuz hs0 hs1 hm2 hm3 r0 r1).mono fun e W' ⟨he,hg⟩=>?_
 subst he
 exact⟨_,rfl,zxm hW' hg (fun _ _ _=>(trodAll_cons_mk (shut_bool Tryz.underlying4 _) trodAll_mk0)) (fun sp hsp=>hkeep W' hg sp hsp) (fun _=>rfl)
  (ok_one (by kernel_rfl) rfl (okWide_bool_mk Tryz.underlying4 _))⟩
theorem and_mk {a b:Bool} (h1:a=true) (h2:b=true):(a && b)=true:=by rw [h1,h2];rfl
theorem fact1:(Rows.stateJoinsRow.wf (OpenSpec.ofChange Rows.stateJoinsSpec))=true:=by kernel_rfl
theorem fact2:(laidOutB Tryz.prog)=true:=by kernel_rfl
theorem fact3:(mapsRowed Tryz.prog)=true:=by kernel_rfl
theorem fact4:(Tryz.f9.params.all (Tryz.prog.readableRec ·))=true:=by kernel_rfl
theorem fact5:(namedTie Tryz.prog Rows.stateJoinsRow.named Rows.stateJoinsSpec.vars)=true:=by kernel_rfl
theorem fact6:((Rows.stateJoinsRow.stops == []))=true:=by kernel_rfl
theorem fact7:((Tryz.prog.stops == []))=true:=by kernel_rfl
theorem fact8:((Rows.stateJoinsRow.knobs == []))=true:=by kernel_rfl
theorem fact9:((Tryz.prog.stopKnobs == []))=true:=by kernel_rfl
theorem fact10:((Rows.stateJoinsRow.inPlace == Tryz.prog.inPlace 9))=true:=by kernel_rfl
theorem fact11:((Rows.stateJoinsRow.unfollowed == Tryz.prog.unfollowed 9))=true:=by kernel_rfl
theorem fact12:((Rows.stateJoinsRow.recurses == Tryz.prog.recurses 9))=true:=by kernel_rfl
theorem fact13:((Rows.stateJoinsRow.named == Tryz.prog.varsNamed 9))=true:=by kernel_rfl
theorem fact14:((Rows.stateJoinsRow.maps == (Tryz.f9.params.toList++Rows.stateJoinsSpec.plain.varTypes Tryz.prog).any (Tryz.prog.mapsRec ·)))=true:=by kernel_rfl
theorem fact15:((Rows.stateJoinsRow.ifaces == (Tryz.f9.params.toList++Rows.stateJoinsSpec.plain.varTypes Tryz.prog).any (Tryz.prog.ifacesRec ·)))=true:=by kernel_rfl
theorem fact16:((Rows.stateJoinsRow.mapsOut == Tryz.prog.mapsAmong Tryz.f9.resultTypes.toList))=true:=by kernel_rfl
theorem fact17:((Rows.stateJoinsRow.loops == (Tryz.f9.params.toList++Rows.stateJoinsSpec.plain.varTypes Tryz.prog).any (Tryz.prog.loopsFrom ·)))=true:=by kernel_rfl
theorem fact18:((Rows.stateJoinsRow.wideKeys == (Tryz.f9.params.toList++Rows.stateJoinsSpec.plain.varTypes Tryz.prog++Tryz.f9.resultTypes.toList).any (Tryz.prog.wideKeysFrom ·)))=true:=by kernel_rfl
theorem fact19:(Rows.stateJoinsSpec.vars.all (Tryz.prog.varReadable ·))=true:=by kernel_rfl
theorem fact20:(Tryz.f9.resultTypes.all (fun t=>Tryz.prog.readableRec t && decide (t < Tryz.prog.types.size)))=true:=by kernel_rfl
theorem fact21:((Rows.stateJoinsRow.ifacesOut == Tryz.f9.resultTypes.toList.any (Tryz.prog.ifacesRec ·)))=true:=by kernel_rfl
theorem fact22:((Rows.stateJoinsRow.loopsOut == Tryz.f9.resultTypes.toList.any (Tryz.prog.loopsFrom ·)))=true:=by kernel_rfl
theorem fact23:((Rows.stateJoinsRow.plainKeys == Tryz.prog.plainKeys))=true:=by kernel_rfl
theorem fact24:(Rows.stateJoinsRow.shortTexts.isNone)=true:=by kernel_rfl
theorem fact25:(Tryz.prog.stopsHeard)=true:=by kernel_rfl
theorem fact26:(Tryz.prog.mayEnter)=true:=by kernel_rfl
theorem fact27:((Rows.stateJoinsRow.lifted == Tryz.prog.liftsFinal))=true:=by kernel_rfl
theorem fact28:((Tryz.prog.make == some Rows.stateJoinsRow.make))=true:=by kernel_rfl
theorem fact29:((Rows.stateJoinsRow.kinds == (if Rows.stateJoinsRow.domain.isEmpty then [] else Tryz.f9.params.toList.map fun t=>match Tryz.prog.underlying t with | some (.int k)=>some k | _=>none)))=true:=by kernel_rfl
theorem fact30:((Rows.stateJoinsRow.pinned == Rows.stateJoinsRow.pinnedBy))=true:=by kernel_rfl
theorem fact31:((Rows.stateJoinsRow.veiled == (Tryz.f9.params.toList++Rows.stateJoinsSpec.plain.varTypes Tryz.prog++Tryz.f9.resultTypes.toList).any (Tryz.prog.veiledRec ·)))=true:=by kernel_rfl
theorem fact32:(Rows.stateJoinsRow.veiledFits Tryz.prog Tryz.f9.params.toList (Tryz.f9.params.toList++Rows.stateJoinsSpec.plain.varTypes Tryz.prog++Tryz.f9.resultTypes.toList))=true:=by kernel_rfl
theorem closed:joinedFacts Tryz.prog 9 Tryz.f9 Rows.stateJoinsSpec Rows.stateJoinsRow=true:=by
 unfold joinedFacts;exact (and_mk (and_mk (and_mk (and_mk (and_mk (and_mk (and_mk (and_mk (and_mk (and_mk (and_mk (and_mk (and_mk (and_mk (and_mk (and_mk (and_mk (and_mk (and_mk (and_mk (and_mk (and_mk (and_mk (and_mk (and_mk (and_mk (and_mk (and_mk (and_mk (and_mk (and_mk fact1 fact2) fact3) fact4) fact5) fact6) fact7) fact8) fact9) fact10) fact11) fact12) fact13) fact14) fact15) fact16) fact17) fact18) fact19) fact20) fact21) fact22) fact23) fact24) fact25) fact26) fact27) fact28) fact29) fact30) fact31) fact32)
theorem over:Rows.stateJoinsRow.holds Tryz.pinned (OpenSpec.ofChange Rows.stateJoinsSpec) :=
 OpenClaim.holds_of_wide 9 Tryz.f9 rfl rfl rfl rfl rfl rfl rfl ⟨rfl,rfl,rfl,rfl,rfl⟩ rfl rfl rfl rfl rfl (by kernel_rfl) Tryz.func9 closed
  (of_decide_eq_true (by kernel_rfl)) (by unfold Func.isWrapper;first | (rw [if_pos (by decide +kernel)];kernel_rfl) | (rw [if_neg (by decide +kernel)];exact⟨rfl,rfl⟩))
  (fun os started H enc _=>lifted os started H enc)
theorem proved:Rows.StateJoinsSaid :=
 over
end Go.Proofs.YtdikcgmdmcfpfaaGreat.stateJoins
