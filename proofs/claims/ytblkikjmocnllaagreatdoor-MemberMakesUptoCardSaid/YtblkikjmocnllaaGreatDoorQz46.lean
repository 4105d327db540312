/- gossamerref20.sameOne, Same: of two that are one: true. Printed by gen_refs1.py. -/
import Derived.Test.YtblkikjmocnllaaGreatDoorQz18
import Derived.StillTailTactics
set_option linter.unusedVariables false
set_option linter.unusedSimpArgs false
set_option maxRecDepth 100000
set_option maxHeartbeats 40000000
namespace Go.Proofs.YtblkikjmocnllaaGreatDoor
section
open Go.RowKit Go.Shelf
theorem rneq_plan (p:Plan) (w:World):(binOp .neq 45 (planV p) (planV p)).run Tryz.prog w=.ok (.bool false) w:=by
 have h:=eqIn_plan 9997 p w
 unfold planV at h ⊢
 rw [run_neq_struct,show (10000:Nat)=9997+1+1+1 from rfl,h];rfl
theorem refSame1_any {S S':Nat->Prop} (x:Mbr) {A1 A2 B1 B2:Option Addr} {c1 c2 d1 d2:Nat} {w:World} (h1:Sl spanT w S (.slice A1 x.gone.length c1) x.gone) (h2:Sl wordT w S (.slice A2 x.words.length c2) x.words) (g1:Sl spanT w S' (.slice B1 x.gone.length d1) x.gone) (g2:Sl wordT w S' (.slice B2 x.words.length d2) x.words) :
  Calls Tryz.prog 41 #[.agg #[St x.path,U8 x.status,I x.kids,I x.cut,U x.last,.slice A1 x.gone.length c1,St x.plan.keeper,U x.plan.round,St x.plan.live,St x.plan.by_,U x.plan.cap,St x.plan.owner,U x.plan.base,.bool x.plan.done,.slice A2 x.words.length c2],.agg #[St x.path,U8 x.status,I x.kids,I x.cut,U x.last,.slice B1 x.gone.length d1,St x.plan.keeper,U x.plan.round,St x.plan.live,St x.plan.by_,U x.plan.cap,St x.plan.owner,U x.plan.base,.bool x.plan.done,.slice B2 x.words.length d2]] w fun e w'=>e=.returned (.bool true)/\Ext w w':=by
 have rA:=rowNew w 48 [St x.path,U8 x.status,I x.kids,I x.cut,U x.last,.slice A1 x.gone.length c1,St x.plan.keeper,U x.plan.round,St x.plan.live,St x.plan.by_,U x.plan.cap,St x.plan.owner,U x.plan.base,.bool x.plan.done,.slice A2 x.words.length c2]
 have xA:=(Ext.refl w).alloc (.cells #[St x.path,U8 x.status,I x.kids,I x.cut,U x.last,.slice A1 x.gone.length c1,St x.plan.keeper,U x.plan.round,St x.plan.live,St x.plan.by_,U x.plan.cap,St x.plan.owner,U x.plan.base,.bool x.plan.done,.slice A2 x.words.length c2] 48)
 have rB:=rowNew (w.alloc (.cells #[St x.path,U8 x.status,I x.kids,I x.cut,U x.last,.slice A1 x.gone.length c1,St x.plan.keeper,U x.plan.round,St x.plan.live,St x.plan.by_,U x.plan.cap,St x.plan.owner,U x.plan.base,.bool x.plan.done,.slice A2 x.words.length c2] 48)) 48 [St x.path,U8 x.status,I x.kids,I x.cut,U x.last,.slice B1 x.gone.length d1,St x.plan.keeper,U x.plan.round,St x.plan.live,St x.plan.by_,U x.plan.cap,St x.plan.owner,U x.plan.base,.bool x.plan.done,.slice B2 x.words.length d2]
 have xB:=xA.alloc (.cells #[St x.path,U8 x.status,I x.kids,I x.cut,U x.last,.slice B1 x.gone.length d1,St x.plan.keeper,U x.plan.round,St x.plan.live,St x.plan.by_,U x.plan.cap,St x.plan.owner,U x.plan.base,.bool x.plan.done,.slice B2 x.words.length d2] 48)
 rw [World.size_alloc] at rB
 have rA:=rA.alloc (.cells #[St x.path,U8 x.status,I x.kids,I x.cut,U x.last,.slice B1 x.gone.length d1,St x.plan.keeper,U x.plan.round,St x.plan.live,St x.plan.by_,U x.plan.cap,St x.plan.owner,U x.plan.base,.bool x.plan.done,.slice B2 x.words.length d2] 48)
 obtain⟨a0,a1,a2,a3,a4,a5,a6,a7,a8,a9,a10,a11,a12,a13,a14⟩:=RowIs.c15 rA
 obtain⟨b0,b1,b2,b3,b4,b5,b6,b7,b8,b9,b10,b11,b12,b13,b14⟩:=RowIs.c15 rB
 have HRA:=Lib.hid (And.intro rA rB)
 have HQ:∀ w,(binOp .neq 45 (.agg #[St x.plan.keeper,U x.plan.round,St x.plan.live,St x.plan.by_,U x.plan.cap,St x.plan.owner,U x.plan.base,.bool x.plan.done]) (.agg #[St x.plan.keeper,U x.plan.round,St x.plan.live,St x.plan.by_,U x.plan.cap,St x.plan.owner,U x.plan.base,.bool x.plan.done])).run Tryz.prog w=.ok (.bool false) w:=rneq_plan x.plan
 have HA1:=Lib.hid (fun (pre post:List Span) (m:Span) (wr:World) (h:Ext w wr) (hl:x.gone=pre++m :: post)=>span_at h1 h hl)
 have HB1:=Lib.hid (fun (pre post:List Span) (m:Span) (wr:World) (h:Ext w wr) (hl:x.gone=pre++m :: post)=>span_at g1 h hl)
 have HA2:=Lib.hid (fun (pre post:List Word) (m:Word) (wr:World) (h:Ext w wr) (hl:x.words=pre++m :: post)=>word_at h2 h hl)
 have HB2:=Lib.hid (fun (pre post:List Word) (m:Word) (wr:World) (h:Ext w wr) (hl:x.words=pre++m :: post)=>word_at g2 h hl)
 have hgd1:Tryz.prog.eqGuardType Tryz.prog.depth 76=false:=by kernel_rfl
 have hgd2:Tryz.prog.eqGuardType Tryz.prog.depth 71=false:=by kernel_rfl
 have q0:(x.path != x.path)=false:=by simp
 have q1:((x.status:Int) != x.status)=false:=by simp
 have q2:(x.kids != x.kids)=false:=by simp
 have q3:(x.cut != x.cut)=false:=by simp
 have q4:((x.last:Int) != x.last)=false:=by simp
 have q5:((x.gone.length:Int) != x.gone.length)=false:=by simp
 have q6:((x.words.length:Int) != x.words.length)=false:=by simp
 have HXB:=Lib.hid xB
 have hG:x.gone.length<=9223372036854775807:=by obtain⟨_,_,_,l1,l2⟩:=h1.form;omega
 have hW:x.words.length<=9223372036854775807:=by obtain⟨_,_,_,l1,l2⟩:=h2.form;omega
 clear h1 h2 g1 g2 rA rB xA xB
 go_enter Tryz.func41,Tryz.ntmps41
 go_wp2_with fail
 clear q0 q1 q2 q3 q4 q5 q6 HQ a0 a1 a2 a3 a4 a5 a6 a7 a8 a9 a10 a11 a12 a13 a14 b0 b1 b2 b3 b4 b5 b6 b7 b8 b9 b10 b11 b12 b13 b14
 generalize ((w.alloc (.cells #[St x.path,U8 x.status,I x.kids,I x.cut,U x.last,.slice A1 x.gone.length c1,St x.plan.keeper,U x.plan.round,St x.plan.live,St x.plan.by_,U x.plan.cap,St x.plan.owner,U x.plan.base,.bool x.plan.done,.slice A2 x.words.length c2] 48)).alloc (.cells #[St x.path,U8 x.status,I x.kids,I x.cut,U x.last,.slice B1 x.gone.length d1,St x.plan.keeper,U x.plan.round,St x.plan.live,St x.plan.by_,U x.plan.cap,St x.plan.owner,U x.plan.base,.bool x.plan.done,.slice B2 x.words.length d2] 48))=W2 at *
 go_loopw [5] (fun i wr=>∃ pre pa,x.gone=pre++pa/\i=I pre.length/\Ext W2 wr) (fun i _=>x.gone.length - (intOf i).toNat)
 case atStart=>exact⟨[],x.gone,rfl,rfl,Ext.refl _⟩
 case round =>
  obtain⟨pre,pa,hla,rfl,hx⟩:=hrel
  have HX:=Lib.hid hx
  clear hx
  obtain⟨a0,a1,a2,a3,a4,a5,a6,a7,a8,a9,a10,a11,a12,a13,a14⟩:=RowIs.c15 (HRA.out.1.ext HX.out)
  obtain⟨b0,b1,b2,b3,b4,b5,b6,b7,b8,b9,b10,b11,b12,b13,b14⟩:=RowIs.c15 (HRA.out.2.ext HX.out)
  cases pa with
  | cons s pa =>
   obtain⟨k1,o1,rfl,p0,p1⟩:=HA1.out pre pa s _ (HXB.out.trans HX.out) hla
   obtain⟨k2,o2,rfl,r0,r1⟩:=HB1.out pre pa s _ (HXB.out.trans HX.out) hla
   have hlt:pre.length < x.gone.length:=by rw [hla];simp
   have HLA:=Lib.hid hla
   have hne:=fun W=>neq_span s W
   skip
   clear hla
   go_wp2_with fail
   go_quiet (fail)
   go_wp2_with fail
   go_roundw
   case rel=>exact⟨pre++[s],pa,by rw [HLA.out];simp,by simp,HX.out.drewN _⟩
   case measure=>simp [intOf];omega
  | nil =>
   rw [List.append_nil] at hla
   have hlen:pre.length=x.gone.length:=by rw [hla]
   have d1:¬ (pre.length:Int) < x.gone.length:=by omega
   clear hla hlen
   go_wp2_with fail
   clear d1 a0 a1 a2 a3 a4 a5 a6 a7 a8 a9 a10 a11 a12 a13 a14 b0 b1 b2 b3 b4 b5 b6 b7 b8 b9 b10 b11 b12 b13 b14
   go_loopw [6] (fun i wr=>∃ pre pa,x.words=pre++pa/\i=I pre.length/\Ext W2 wr) (fun i _=>x.words.length - (intOf i).toNat)
   case atStart=>exact⟨[],x.words,rfl,rfl,HX.out⟩
   case round =>
    obtain⟨pre,pa,hla,rfl,hx⟩:=hrel
    have HX:=Lib.hid hx
    clear hx
    obtain⟨a0,a1,a2,a3,a4,a5,a6,a7,a8,a9,a10,a11,a12,a13,a14⟩:=RowIs.c15 (HRA.out.1.ext HX.out)
    obtain⟨b0,b1,b2,b3,b4,b5,b6,b7,b8,b9,b10,b11,b12,b13,b14⟩:=RowIs.c15 (HRA.out.2.ext HX.out)
    cases pa with
    | cons s pa =>
     obtain⟨k1,o1,rfl,p0,p1,p2,p3,p4,p5,p6⟩:=HA2.out pre pa s _ (HXB.out.trans HX.out) hla
     obtain⟨k2,o2,rfl,r0,r1,r2,r3,r4,r5,r6⟩:=HB2.out pre pa s _ (HXB.out.trans HX.out) hla
     have hlt:pre.length < x.words.length:=by rw [hla];simp
     have HLA:=Lib.hid hla
     have hne:=fun W=>neq_word s W
     unfold wordV at hne
     clear hla
     go_wp2_with fail
     go_quiet (fail)
     go_wp2_with fail
     go_roundw
     case rel=>exact⟨pre++[s],pa,by rw [HLA.out];simp,by simp,HX.out.drewN _⟩
     case measure=>simp [intOf];omega
    | nil =>
     rw [List.append_nil] at hla
     have hlen:pre.length=x.words.length:=by rw [hla]
     have d1:¬ (pre.length:Int) < x.words.length:=by omega
     clear hla hlen
     go_wp2_with fail
     go_ret
     exact⟨rfl,HXB.out.trans HX.out⟩
theorem refSame_any {S S':Nat->Prop} {v u:Value} {l:List Mbr} {w:World} (hv:Sl mbrT w S v l) (hu:Sl mbrT w S' u l) :
  Calls Tryz.prog 17 #[v,u] w fun e w'=>e=.returned (.bool true)/\Ext w w':=by
 have hv':=hv
 have hu':=hu
 obtain⟨A,ca,rfl,hc1,hc2⟩:=hv.form
 obtain⟨B,cb,rfl,-,-⟩:=hu.form
 have HAT:=Lib.hid (fun (pre post:List Mbr) (x:Mbr) w1 (hx:Ext w w1) (hl:l=pre++x :: post)=>mbr_at (wr:=w1) hv' (fun b _ hb=>hx.block b hb) hl)
 have HBT:=Lib.hid (fun (pre post:List Mbr) (x:Mbr) w1 (hx:Ext w w1) (hl:l=pre++x :: post)=>mbr_at (wr:=w1) hu' (fun b _ hb=>hx.block b hb) hl)
 have k0:((l.length:Int) != (l.length:Int))=false:=by simp
 clear hv hu hv' hu'
 go_enter Tryz.func17,Tryz.ntmps17
 go_wp2_with fail
 clear k0
 go_loopw [5] (fun i wr=>∃ pre post,l=pre++post/\i=I pre.length/\Ext w wr) (fun i _=>l.length - (intOf i).toNat)
 case atStart=>exact⟨[],l,rfl,rfl,Ext.refl _⟩
 case round =>
  obtain⟨pre,post,hl,rfl,hx⟩:=hrel
  cases post with
  | nil =>
   rw [List.append_nil] at hl
   have hlen:pre.length=l.length:=by rw [hl]
   have d1:¬ (pre.length:Int) < l.length:=by omega
   have HX:=Lib.hid hx
   clear hx hl hlen
   go_wp2_with fail
   go_ret
   exact⟨rfl,HX.out⟩
  | cons x post =>
   obtain⟨b,o,A1,c1,A2,c2,rfl,-,h1,h2,hc⟩:=HAT.out pre post x wr hx hl
   obtain⟨b',o',B1,d1,B2,d2,rfl,-,g1,g2,hd⟩:=HBT.out pre post x wr hx hl
   obtain⟨Wd,hWd⟩:∃ Wd,wr.drew=Wd:=⟨_,rfl⟩
   have hdx:Ext wr Wd:=hWd ▸ (Ext.refl _).drew
   obtain⟨k0,k1,k2,k3,k4,k5,k6,k7,k8,k9,k10,k11,k12,k13,k14⟩:=mbr_c15 (fun j u hj=>hdx.cell (hc j u hj))
   obtain⟨j0,j1,j2,j3,j4,j5,j6,j7,j8,j9,j10,j11,j12,j13,j14⟩:=mbr_c15 (fun j u hj=>hdx.cell (hd j u hj))
   have hlt:pre.length < l.length:=by rw [hl];simp
   have hlt2:(pre.length:Int) < l.length:=by omega
   have HS:=Lib.hid (refSame1_any x (h1.ext (by decide) hdx) (h2.ext (by decide) hdx) (g1.ext (by decide) hdx) (g2.ext (by decide) hdx))
   have HL:=Lib.hid hl
   have HX:=Lib.hid (hx.trans hdx)
   have HWD:=Lib.hid hWd
   clear hl hx hc hd h1 h2 g1 g2 hdx hWd
   go_wp2_with fail
   refine wp_region_still_tail 8 (by kernel_rfl) (by kernel_rfl) ?_
   simp only [List.take_succ_cons,List.take_zero,List.drop_succ_cons,List.drop_zero]
   change wpStill _ _ (wr).drew (fun a'=>wpList _ _ _ _ a' (wr).drew) _ _
   rw [HWD.out]
   generalize hA:Act.mk _ _=A0;repeat (refine wpStill_step (fun K2 hK2=>?_);subst hA;go_simp;generalize hA:Act.mk _ _=A0;refine hK2 A0 ?_;clear hK2 K2)
   refine wpStill_nil ?_
   subst hA
   go_wp2_with fail
   refine HS.out.mono ?_
   rintro e w4 ⟨rfl,hx4⟩
   go_wp2_with fail
   go_roundw
   case rel=>exact⟨pre++[x],post,by rw [HL.out];simp,by simp,HX.out.trans hx4⟩
   case measure=>simp [intOf];omega
end
end Go.Proofs.YtblkikjmocnllaaGreatDoor
