/- slices.Equal at spans, words; == at spans, words, plans: of two that are one. Printed by gen_libeqm.py. -/
import Derived.Test.YtblkikjmocnllaaGreatDoorQz15
set_option linter.unusedVariables false
set_option linter.unusedSimpArgs false
set_option maxRecDepth 100000
set_option maxHeartbeats 40000000
namespace Go.Proofs.YtblkikjmocnllaaGreatDoor
section
open Go.RowKit Go.Shelf
section
set_option maxRecDepth 100000
theorem eqIn_span (d:Nat) (x:Span) (w:World):(Op.equalIn (d+1+1) 76 (.agg #[I x.1,I x.2]) (.agg #[I x.1,I x.2])).run Tryz.prog w=.ok true w:=by
 have hS:Tryz.prog.underlying 76=some (.struct (Tryz.prog.fieldsOf 76)):=by kernel_rfl
 have hp:Tryz.prog.stoodInHeld 76=false:=by kernel_rfl
 have u1:=Tryz.underlying3
 have a1:=Tryz.isAgg3
 have z1:=Tryz.sizeOf3
 rw [run_equalIn_agg w (d+1) 76 _ _ hS hp]
 simp only [Program.fieldsOf,Tryz.underlying76]
 go_simp
theorem eqIn_word (d:Nat) (x:Word) (w:World):(Op.equalIn (d+1+1) 71 (wordV x) (wordV x)).run Tryz.prog w=.ok true w:=by
 have hS:Tryz.prog.underlying 71=some (.struct (Tryz.prog.fieldsOf 71)):=by kernel_rfl
 have hp:Tryz.prog.stoodInHeld 71=false:=by kernel_rfl
 have u1:=Tryz.underlying9
 have u2:=Tryz.underlying23
 have u3:=Tryz.underlying4
 have a1:=Tryz.isAgg9
 have a2:=Tryz.isAgg23
 have a3:=Tryz.isAgg4
 have z1:=Tryz.sizeOf9
 have z2:=Tryz.sizeOf23
 have z3:=Tryz.sizeOf4
 unfold wordV
 rw [run_equalIn_agg w (d+1) 71 _ _ hS hp]
 simp only [Program.fieldsOf,Tryz.underlying71]
 go_simp
theorem eqIn_pruned (d:Nat) (a c:Str) (b e:Nat) (w:World):(Op.equalIn (d+1+1) 43 (.agg #[St a,U b,St c,U e]) (.agg #[St a,U b,St c,U e])).run Tryz.prog w=.ok true w:=by
 have hS:Tryz.prog.underlying 43=some (.struct (Tryz.prog.fieldsOf 43)):=by kernel_rfl
 have hp:Tryz.prog.stoodInHeld 43=false:=by kernel_rfl
 have u1:=Tryz.underlying9
 have u2:=Tryz.underlying23
 have a1:=Tryz.isAgg9
 have a2:=Tryz.isAgg23
 have z1:=Tryz.sizeOf9
 have z2:=Tryz.sizeOf23
 rw [run_equalIn_agg w (d+1) 43 _ _ hS hp]
 simp only [Program.fieldsOf,Tryz.underlying43]
 go_simp
theorem eqIn_plan (d:Nat) (p:Plan) (w:World):(Op.equalIn (d+1+1+1) 45 (planV p) (planV p)).run Tryz.prog w=.ok true w:=by
 have hS:Tryz.prog.underlying 45=some (.struct (Tryz.prog.fieldsOf 45)):=by kernel_rfl
 have hp:Tryz.prog.stoodInHeld 45=false:=by kernel_rfl
 have u1:=Tryz.underlying9
 have u2:=Tryz.underlying23
 have u3:=Tryz.underlying4
 have a1:=Tryz.isAgg9
 have a2:=Tryz.isAgg23
 have a3:=Tryz.isAgg4
 have a4:=Tryz.isAgg43
 have z1:=Tryz.sizeOf9
 have z2:=Tryz.sizeOf23
 have z3:=Tryz.sizeOf4
 have z4:=Tryz.sizeOf43
 have hq:=fun w=>eqIn_pruned d p.by_ p.owner p.cap p.base w
 unfold planV
 rw [run_equalIn_agg w (d+1+1) 45 _ _ hS hp]
 simp only [Program.fieldsOf,Tryz.underlying45]
 go_simp
theorem eql_plan (p:Plan) (w:World):(binOp .eql 45 (planV p) (planV p)).run Tryz.prog w=.ok (.bool true) w:=by
 have h:=eqIn_plan 9997 p w
 unfold planV at h ⊢
 rw [run_eql_struct,show (10000:Nat)=9997+1+1+1 from rfl,h];rfl
theorem neq_span (x:Span) (w:World):(binOp .neq 76 (.agg #[I x.1,I x.2]) (.agg #[I x.1,I x.2])).run Tryz.prog w=.ok (.bool false) w:=by
 rw [run_neq_struct,show (10000:Nat)=9998+1+1 from rfl,eqIn_span];rfl
theorem neq_word (x:Word) (w:World):(binOp .neq 71 (wordV x) (wordV x)).run Tryz.prog w=.ok (.bool false) w:=by
 have h:=eqIn_word 9998 x w
 unfold wordV at h ⊢
 rw [run_neq_struct,show (10000:Nat)=9998+1+1 from rfl,h];rfl
end
theorem equal_span {S S':Nat->Prop} {va vb:Value} {A:List Span} {w:World} (ha:Sl spanT w S va A) (hb:Sl spanT w S' vb A) :
  Calls Tryz.prog 100 #[va,vb] w fun e w'=>e=.returned (.bool true)/\∃ n,w'=w.drewN n:=by
 have ha':=ha
 have hb':=hb
 obtain⟨Aa,ca,rfl,h1,h2⟩:=ha.form
 obtain⟨Ab,cb,rfl,h3,h4⟩:=hb.form
 clear ha hb
 have HAT:=Lib.hid (fun (pre post:List Span) (m:Span) (wr:World) (h:Ext w wr) (hl:A=pre++m :: post)=>span_at ha' h hl)
 have HBT:=Lib.hid (fun (pre post:List Span) (m:Span) (wr:World) (h:Ext w wr) (hl:A=pre++m :: post)=>span_at hb' h hl)
 have k0:((A.length:Int) != (A.length:Int))=false:=by simp
 clear ha' hb'
 have hgd:Tryz.prog.eqGuardType Tryz.prog.depth 76=false:=by kernel_rfl
 go_enter Tryz.func100,Tryz.ntmps100
 go_wp2_with fail
 clear k0
 go_loopw [13] (fun i wr=>∃ pre pa,A=pre++pa/\i=I pre.length/\∃ n,wr=w.drewN n) (fun i _=>A.length - (intOf i).toNat)
 case atStart=>exact⟨[],A,rfl,rfl,0,rfl⟩
 case round =>
  obtain⟨pre,pa,hla,rfl,nn,rfl⟩:=hrel
  cases pa with
  | cons x pa =>
   have hq1:=HAT.out pre pa x w (Ext.refl _) hla
   have hq2:=HBT.out pre pa x w (Ext.refl _) hla
   obtain⟨b1,o1,rfl,p0,p1⟩:=hq1
   obtain⟨b2,o2,rfl,q0,q1⟩:=hq2
   have hlt:pre.length < A.length:=by rw [hla];simp
   have HLA:=Lib.hid hla
   have hne:=fun W=>neq_span x W
   clear hla
   go_wp2_with fail
   go_quiet (fail)
   go_wp2_with fail
   go_roundw
   case rel=>exact⟨pre++[x],pa,by rw [HLA.out];simp,by simp,_,rfl⟩
   case measure=>simp [intOf];omega
  | nil =>
   rw [List.append_nil] at hla
   have hlen:A.length=pre.length:=by rw [hla]
   clear hla
   go_wp2_with fail
   go_ret
   exact⟨rfl,nn,rfl⟩
theorem equal_word {S S':Nat->Prop} {va vb:Value} {A:List Word} {w:World} (ha:Sl wordT w S va A) (hb:Sl wordT w S' vb A) :
  Calls Tryz.prog 101 #[va,vb] w fun e w'=>e=.returned (.bool true)/\∃ n,w'=w.drewN n:=by
 have ha':=ha
 have hb':=hb
 obtain⟨Aa,ca,rfl,h1,h2⟩:=ha.form
 obtain⟨Ab,cb,rfl,h3,h4⟩:=hb.form
 clear ha hb
 have HAT:=Lib.hid (fun (pre post:List Word) (m:Word) (wr:World) (h:Ext w wr) (hl:A=pre++m :: post)=>word_at ha' h hl)
 have HBT:=Lib.hid (fun (pre post:List Word) (m:Word) (wr:World) (h:Ext w wr) (hl:A=pre++m :: post)=>word_at hb' h hl)
 have k0:((A.length:Int) != (A.length:Int))=false:=by simp
 clear ha' hb'
 have hgd:Tryz.prog.eqGuardType Tryz.prog.depth 71=false:=by kernel_rfl
 go_enter Tryz.func101,Tryz.ntmps101
 go_wp2_with fail
 clear k0
 go_loopw [13] (fun i wr=>∃ pre pa,A=pre++pa/\i=I pre.length/\∃ n,wr=w.drewN n) (fun i _=>A.length - (intOf i).toNat)
 case atStart=>exact⟨[],A,rfl,rfl,0,rfl⟩
 case round =>
  obtain⟨pre,pa,hla,rfl,nn,rfl⟩:=hrel
  cases pa with
  | cons x pa =>
   have hq1:=HAT.out pre pa x w (Ext.refl _) hla
   have hq2:=HBT.out pre pa x w (Ext.refl _) hla
   obtain⟨b1,o1,rfl,p0,p1,p2,p3,p4,p5,p6⟩:=hq1
   obtain⟨b2,o2,rfl,q0,q1,q2,q3,q4,q5,q6⟩:=hq2
   have hlt:pre.length < A.length:=by rw [hla];simp
   have HLA:=Lib.hid hla
   have hne:=fun W=>neq_word x W
   unfold wordV at hne
   clear hla
   go_wp2_with fail
   go_quiet (fail)
   go_wp2_with fail
   go_roundw
   case rel=>exact⟨pre++[x],pa,by rw [HLA.out];simp,by simp,_,rfl⟩
   case measure=>simp [intOf];omega
  | nil =>
   rw [List.append_nil] at hla
   have hlen:A.length=pre.length:=by rw [hla]
   clear hla
   go_wp2_with fail
   go_ret
   exact⟨rfl,nn,rfl⟩
end
end Go.Proofs.YtblkikjmocnllaaGreatDoor
