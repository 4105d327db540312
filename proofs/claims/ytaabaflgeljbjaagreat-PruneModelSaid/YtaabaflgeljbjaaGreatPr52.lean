/- For every input gossamerlaw17.PruneModel returns true and leaves its arguments as they were. No condition. -/
import Derived.Test.YtaabaflgeljbjaaGreatRows
import Derived.Test.YtaabaflgeljbjaaGreatPr48
import Derived.Test.YtaabaflgeljbjaaGreatPr49
import Derived.Test.YtaabaflgeljbjaaGreatPr50
import Derived.Test.YtaabaflgeljbjaaGreatPr51
import Derived.WalkKit
import Derived.ProofKit
import Derived.OpenShut
import Derived.SizedLaws
set_option linter.unusedVariables false
set_option linter.unusedSimpArgs false
set_option maxRecDepth 100000
set_option maxHeartbeats 40000000
namespace Go.Proofs.YtaabaflgeljbjaaGreat.pruneModel
open Go.ChangeShapes Go.WideShapes Go.ChangeAt Go.RowKit
theorem own:ownKnob Tryz.prog.godebug=none:=by kernel_rfl
theorem laid:laidOutB Tryz.prog=true:=by kernel_rfl
theorem reads:(([60,61]:List TypeId).all fun t=>Tryz.prog.readableRec t&&decide (t<Tryz.prog.types.size))=true:=by kernel_rfl
theorem lifted (os:Os)(L:os.Started)(A:Type)(enc:TypeId×Value->A) :
  ReturnsInHanded {} Tryz.checked os 4 .any (Rows.pruneModelSpec.pre6 enc Tryz.prog Tryz.f4 Rows.pruneModelRow.domain false) (Rows.pruneModelSpec.post enc Tryz.prog Tryz.f4 false true false false):=by
 refine returnsInHanded_of_change_sized (C:=Tryz.checked) own L (by kernel_rfl) Tryz.func4
  (ChangeSpec.witness6 (enc:=enc) (C:=Tryz.checked) false ⟨#[],#[.slice none 0 0,.slice none 0 0],[]⟩ 8 (by kernel_rfl) (by kernel_rfl) (by kernel_rfl) (by kernel_rfl)) ?_
 intro W base args d P M w h R K _;have k:∀(j:Nat) t v,Tryz.f4.params[j]? = some t->args[j]? = some v->Value.okWide Tryz.prog W .any base t v:=w;have m:=h;have r:=h.lt;obtain⟨p,q,l,B,rfl,S,T⟩:=h;obtain⟨rfl,rfl⟩:=trodVars_none B;have g:DataW.TrodAll enc Tryz.prog W 0 (fun _=>true) true Tryz.f4.params.toList args.toList d p:=l
 have o:=fun(c:World) (hb:Below W.heap.size W c) (b:Nat->Bool) (i:∀x∈p,b x.block=true)=>zsi laid hb b (fun t u=>by
  rw[Tryz.params4]at u;have f:=List.all_eq_true.1 reads t u
  simpa using f) (fun x a=>r x (by simpa using a)) i g
 have s:∀x∈DataW.weightsEach Tryz.prog Tryz.f4.params.toList d,x<=reachBytes:=fun x a=>by
  have f:=List.all_eq_true.1 K x (by
   show x∈DataW.weightsEach Tryz.prog (Tryz.f4.params.toList++[]) (d++[])
   rw[List.append_nil,List.append_nil];exact a)
  simpa using f
 rw[Tryz.params4]at g k s;obtain⟨z,aa,d0,N,X,Z,Q,rfl,rfl,h0,I⟩:=trodAll_cons g;obtain⟨v1,ab,d1,O,Y,q1,rfl,rfl,rfl,h1,J⟩:=trodAll_cons I;obtain⟨rfl,rfl,rfl⟩:=trodAll_nil J;obtain rfl:args=#[z,v1]:=by cases args;simp_all
 have y:∀x∈DataW.weightsEach Tryz.prog [60,61] [d0,d1],x<=reachBytes:=s;obtain⟨U,G,D⟩:=zv5 (k 0 60 z rfl rfl) h0 (fun x a=>y x (zmc 0 rfl rfl a));obtain⟨V,H,E⟩:=yi0 (k 1 61 v1 rfl rfl) h1 (fun x a=>y x (zmc 1 rfl rfl a));clear l w r;simp only[List.append_nil]at m o;refine(yiy G D H E).mono fun e c ⟨F,n⟩=>?_
 subst F
 exact⟨_,rfl,zyv m n (fun _ _ _=>(trodAll_cons_mk (shut_bool Tryz.underlying4 _) trodAll_mk0)) (fun b i=>o c n b i) (fun _=>rfl)
  (ok_one (by kernel_rfl) rfl (okWide_bool_mk Tryz.underlying4 _))⟩
theorem and_mk {a b:Bool}(h1:a=true)(c:b=true):(a&&b)=true:=by rw[h1,c];rfl
theorem fact1:(Rows.pruneModelRow.wf (OpenSpec.ofChange Rows.pruneModelSpec))=true:=by kernel_rfl
theorem fact2:(laidOutB Tryz.prog)=true:=by kernel_rfl
theorem fact3:(mapsRowed Tryz.prog)=true:=by kernel_rfl
theorem fact4:(Tryz.f4.params.all (Tryz.prog.readableRec ·))=true:=by kernel_rfl
theorem fact5:(namedTie Tryz.prog Rows.pruneModelRow.named Rows.pruneModelSpec.vars)=true:=by kernel_rfl
theorem fact6:((Rows.pruneModelRow.stops==[]))=true:=by kernel_rfl
theorem fact7:((Tryz.prog.stops==[]))=true:=by kernel_rfl
theorem fact8:((Rows.pruneModelRow.knobs==[]))=true:=by kernel_rfl
theorem fact9:((Tryz.prog.stopKnobs==[]))=true:=by kernel_rfl
theorem fact10:((Rows.pruneModelRow.inPlace==Tryz.prog.inPlace 4))=true:=by kernel_rfl
theorem fact11:((Rows.pruneModelRow.unfollowed==Tryz.prog.unfollowed 4))=true:=by kernel_rfl
theorem fact12:((Rows.pruneModelRow.recurses==Tryz.prog.recurses 4))=true:=by kernel_rfl
theorem fact13:((Rows.pruneModelRow.named==Tryz.prog.varsNamed 4))=true:=by kernel_rfl
theorem fact14:((Rows.pruneModelRow.maps==(Tryz.f4.params.toList++Rows.pruneModelSpec.plain.varTypes Tryz.prog).any (Tryz.prog.mapsRec ·)))=true:=by kernel_rfl
theorem fact15:((Rows.pruneModelRow.ifaces==(Tryz.f4.params.toList++Rows.pruneModelSpec.plain.varTypes Tryz.prog).any (Tryz.prog.ifacesRec ·)))=true:=by kernel_rfl
theorem fact16:((Rows.pruneModelRow.mapsOut==Tryz.prog.mapsAmong Tryz.f4.resultTypes.toList))=true:=by kernel_rfl
theorem fact17:((Rows.pruneModelRow.loops==(Tryz.f4.params.toList++Rows.pruneModelSpec.plain.varTypes Tryz.prog).any (Tryz.prog.loopsFrom ·)))=true:=by kernel_rfl
theorem fact18:((Rows.pruneModelRow.wideKeys==(Tryz.f4.params.toList++Rows.pruneModelSpec.plain.varTypes Tryz.prog++Tryz.f4.resultTypes.toList).any (Tryz.prog.wideKeysFrom ·)))=true:=by kernel_rfl
theorem fact19:(Rows.pruneModelSpec.vars.all (Tryz.prog.varReadable ·))=true:=by kernel_rfl
theorem fact20:(Tryz.f4.resultTypes.all (fun t=>Tryz.prog.readableRec t&&decide (t<Tryz.prog.types.size)))=true:=by kernel_rfl
theorem fact21:((Rows.pruneModelRow.ifacesOut==Tryz.f4.resultTypes.toList.any (Tryz.prog.ifacesRec ·)))=true:=by kernel_rfl
theorem fact22:((Rows.pruneModelRow.loopsOut==Tryz.f4.resultTypes.toList.any (Tryz.prog.loopsFrom ·)))=true:=by kernel_rfl
theorem fact23:((Rows.pruneModelRow.plainKeys==Tryz.prog.plainKeys))=true:=by kernel_rfl
theorem fact24:(Rows.pruneModelRow.shortTexts.isNone)=true:=by kernel_rfl
theorem fact25:(Tryz.prog.stopsHeard)=true:=by kernel_rfl
theorem fact26:(Tryz.prog.mayEnter)=true:=by kernel_rfl
theorem fact27:((Rows.pruneModelRow.lifted==Tryz.prog.liftsFinal))=true:=by kernel_rfl
theorem fact28:((Tryz.prog.make==some Rows.pruneModelRow.make))=true:=by kernel_rfl
theorem fact29:((Rows.pruneModelRow.kinds==(if Rows.pruneModelRow.domain.isEmpty then[]else Tryz.f4.params.toList.map fun t=>match Tryz.prog.underlying t with|some (.int k)=>some k|_=>none)))=true:=by kernel_rfl
theorem fact30:((Rows.pruneModelRow.pinned==Rows.pruneModelRow.pinnedBy))=true:=by kernel_rfl
theorem fact31:((Rows.pruneModelRow.veiled==(Tryz.f4.params.toList++Rows.pruneModelSpec.plain.varTypes Tryz.prog++Tryz.f4.resultTypes.toList).any (Tryz.prog.veiledRec ·)))=true:=by kernel_rfl
theorem fact32:(Rows.pruneModelRow.veiledFits Tryz.prog Tryz.f4.params.toList (Tryz.f4.params.toList++Rows.pruneModelSpec.plain.varTypes Tryz.prog++Tryz.f4.resultTypes.toList))=true:=by kernel_rfl
theorem closed:joinedFacts Tryz.prog 4 Tryz.f4 Rows.pruneModelSpec Rows.pruneModelRow=true:=by
 unfold joinedFacts;exact(and_mk (and_mk (and_mk (and_mk (and_mk (and_mk (and_mk (and_mk (and_mk (and_mk (and_mk (and_mk (and_mk (and_mk (and_mk (and_mk (and_mk (and_mk (and_mk (and_mk (and_mk (and_mk (and_mk (and_mk (and_mk (and_mk (and_mk (and_mk (and_mk (and_mk (and_mk fact1 fact2) fact3) fact4) fact5) fact6) fact7) fact8) fact9) fact10) fact11) fact12) fact13) fact14) fact15) fact16) fact17) fact18) fact19) fact20) fact21) fact22) fact23) fact24) fact25) fact26) fact27) fact28) fact29) fact30) fact31) fact32)
theorem over:Rows.pruneModelRow.holds Tryz.pinned (OpenSpec.ofChange Rows.pruneModelSpec) :=
 OpenClaim.holds_of_wide 4 Tryz.f4 rfl rfl rfl rfl rfl rfl rfl ⟨rfl,rfl,rfl,rfl,rfl⟩ rfl rfl rfl rfl rfl (by kernel_rfl) Tryz.func4 closed
  (of_decide_eq_true (by kernel_rfl)) (by unfold Func.isWrapper;first|(rw[zP (by decide +kernel)];kernel_rfl)|(rw[zN (by decide +kernel)];exact⟨rfl,rfl⟩))
  (fun os b a enc _=>lifted os b a enc)
theorem proved:Rows.PruneModelSaid :=
 over
end Go.Proofs.YtaabaflgeljbjaaGreat.pruneModel
