/- Laws. -/
import Derived.Test.YtblkikjmocnllaaGreatDoorQz23
import Derived.Test.YtblkikjmocnllaaGreatDoorQz16
import Derived.Test.YtblkikjmocnllaaGreatDoorQz38
set_option linter.unusedVariables false
set_option linter.unusedSimpArgs false
set_option maxRecDepth 100000
set_option maxHeartbeats 40000000
namespace Go.Proofs.YtblkikjmocnllaaGreatDoor
section
open Go.RowKit Go.Shelf
def pathsLe (t x:Str):Bool:=decide (cmpPath t x < 0)
def pathsM (s:Str):Bool:=decide (s.count 44 < 24) && chkF mayP pathsLe none (splitC 44 s)
def asZ (p:Plan):Bool:=decide (p.by_ = []/\p.cap=0/\p.owner = []/\p.base=0)
def planOk (x:Mbr):Bool:=decide (x.plan=plan0) || (decide (x.status=4) && underP x.path x.plan.keeper && roundM x.plan.round && pathsM x.plan.live &&
 (if asZ x.plan then !x.plan.done else decide (x.plan.by_=x.path) && underP x.path x.plan.owner && decide (x.plan.base<=281474976710656) && decide (x.plan.cap+x.plan.base<=281474976710656)))
theorem splitC_short {c:UInt8}:∀ {s f:Str},f ∈ splitC c s->f.length<=s.length
 | [],f,h=>by simp [splitC] at h;subst h;simp
 | b :: r,f,h=>by
  rw [splitC] at h
  split at h
  ·rcases List.mem_cons.1 h with rfl | h
   ·simp
   ·have:=splitC_short h
    simp;omega
  ·split at h
   ·rw [List.mem_singleton] at h;subst h;simp
   ·rename_i g gs hs
    rcases List.mem_cons.1 h with rfl | h
    ·have:=splitC_short (s:=r) (f:=g) (by rw [hs];exact List.mem_cons_self)
     simp;omega
    ·have:=splitC_short (s:=r) (f:=f) (by rw [hs];exact List.mem_cons_of_mem _ h)
     simp;omega
theorem paths_any (s:Str) (hl:s.length < 4611686018427387904) (w:World):Calls Tryz.prog 123 #[St s] w fun e w'=>e=.returned (.bool (pathsM s))/\Ext w w':=by
 obtain⟨n,hn⟩:∃ n,s.count 44=n:=⟨_,rfl⟩
 have hcs:n<=s.length:=by rw [<- hn];exact List.count_le_length
 have HC:=Lib.hid ((Any.strings_Count_one { Tryz.lays146 with } ⟨s.toArray⟩ 44 w).mono (R':=fun e w'=>e=.returned (I n)/\w'=w) (by rintro e w' ⟨rfl,rfl⟩;exact⟨by rw [<- hn];rfl,rfl⟩))
 obtain⟨K,hK⟩:∃ K,pathsM s=K:=⟨_,rfl⟩
 rw [hK]
 have HK:=Lib.hid hK
 clear hK
 unfold pathsM at HK
 rw [hn] at HK
 by_cases h24:n < 24
 case neg =>
  have e1:(n:Int) ≥ 24:=by omega
  have HF:=Lib.hid (show false=K by rw [<- HK.out,decide_eq_false h24];rfl)
  clear HK h24
  go_enter Tryz.func123,Tryz.ntmps123
  go_wp2_with fail
  refine HC.out.mono ?_
  rintro e w ⟨rfl,rfl⟩
  go_wp2_with fail
  go_ret
  exact⟨by rw [<- HF.out];rfl,Ext.refl _⟩
 have e1:¬ (n:Int) ≥ 24:=by omega
 have HK:=Lib.hid (show chkF mayP pathsLe none (splitC 44 s)=K by rw [<- HK.out,decide_eq_true h24];rfl)
 have HS:=Lib.hid (split44_any s hl (by omega) w)
 have HPM:=Lib.hid (fun (p:Str) (h:p.length<=s.length) w=>may_any p (by omega) w)
 have HPC:=Lib.hid (fun (p q:Str) (h:p.length<=s.length) (h':q.length<=s.length) w=>pcmp_any p q (by omega) (by omega) w)
 have hlen:=splitC_len 44 s
 have HSH:=Lib.hid (fun f (h:f ∈ splitC 44 s)=>splitC_short h)
 rw [hn] at hlen
 clear hn
 go_enter Tryz.func123,Tryz.ntmps123
 go_wp2_with fail
 refine HC.out.mono ?_
 rintro e w ⟨rfl,rfl⟩
 go_wp2_with fail
 refine HS.out.mono ?_
 rintro e w1 ⟨g,rfl,hg,hr,hx1⟩
 have HR:=Lib.hid (fun W (he:Ext w1 W) (i:Nat) (f:Str) (hf:(splitC 44 s)[i]? = some f)=>strCells_at (hr.ext he) hf)
 have HX1:=Lib.hid hx1
 clear hr hx1 HC HS
 generalize splitC 44 s=L at *
 go_wp2_with fail
 go_loopw [13] (fun i wr=>∃ pre post,L=pre++post/\i=I pre.length/\Hid (chkF mayP pathsLe pre.getLast? post=K)/\Ext w1 wr) (fun i _=>L.length - (intOf i).toNat)
 case atStart=>exact⟨[],L,rfl,rfl,Lib.hid HK.out,Ext.refl _⟩
 case round =>
  obtain⟨pre,post,hl,rfl,hch,hx⟩:=hrel
  cases post with
  | nil =>
   rw [List.append_nil] at hl
   subst hl
   have HF:=Lib.hid (show true=K from hch.out)
   clear hch
   go_wp2_with fail
   go_ret
   exact⟨by rw [<- HF.out];rfl,HX1.out.trans hx⟩
  | cons f post =>
   have c0:=HR.out wr hx pre.length f (by rw [hl];simp)
   have hlt:pre.length < L.length:=by rw [hl];simp
   have hfs:=HSH.out f (by rw [hl];simp)
   have HL:=Lib.hid hl
   have HX:=Lib.hid hx
   clear hx hl
   have HM:=Lib.hid (HPM.out f hfs)
   cases hm:mayP f with
   | false =>
    rw [hm] at HM
    have HF:=Lib.hid (show false=K by rw [<- hch.out];symm;exact chkF_bad hm)
    clear hch hm
    go_wp2_with fail
    refine (HM.out _).mono ?_
    rintro e w2 ⟨rfl,hx2⟩
    go_wp2_with fail
    go_ret
    exact⟨by rw [<- HF.out];rfl,(HX1.out.trans HX.out).trans hx2⟩
   | true =>
    rw [hm] at HM
    rcases List.eq_nil_or_concat pre with rfl | ⟨pre',t,rfl⟩
    case inl =>
     have HQ:=Lib.hid (show chkF mayP pathsLe (some f) post=K from (chkF_one hm).symm.trans hch.out)
     simp only [List.length_nil] at c0 hlt ⊢
     clear hch hm
     go_wp2_with fail
     refine (HM.out _).mono ?_
     rintro e w2 ⟨rfl,hx2⟩
     go_wp2_with fail
     go_roundw
     case rel=>exact⟨[]++[f],post,by rw [HL.out];simp,by simp <;> omega,Lib.hid (by rw [last_snoc];exact HQ.out),HX.out.trans hx2⟩
     case measure=>simp [intOf];omega
    rw [show (pre'.concat t).getLast? = some t by simp] at hch
    have p0:=HR.out wr HX.out pre'.length t (by rw [HL.out];simp)
    have hts:=HSH.out t (by rw [HL.out];simp)
    simp only [List.length_concat] at c0 hlt ⊢
    have k0:(0:Int)<=(pre'.length:Int):=by omega
    have k1:((pre'.length:Int)) < (L.length:Int):=by omega
    have k2:((pre'.length:Int)+1) > 0:=by omega
    have k3:(((pre'.length+1:Nat):Int)) > 0:=by omega
    have k4:IntKind.i64.wrap ((pre'.length:Int)+1 - 1)=pre'.length:=by rw [show (pre'.length:Int)+1 - 1=pre'.length by omega];simp [IntKind.wrap,IntKind.signed,IntKind.bits];omega
    have k6:((pre'.length:Int)).toNat=pre'.length:=by omega
    have HPC2:=Lib.hid (HPC.out t f hts hfs)
    obtain⟨cz,hcz⟩:∃ cz,cmpPath t f=cz:=⟨_,rfl⟩
    rw [hcz] at HPC2
    by_cases hlt2:cz ≥ 0
    case pos =>
     have HF:=Lib.hid (show false=K by rw [<- hch.out];symm;exact chkF_less (by unfold pathsLe;exact decide_eq_false (by omega)))
     clear hch hm
     go_wp2_with fail
     refine (HM.out _).mono ?_
     rintro e w2 ⟨rfl,hx2⟩
     have p0:=hx2.cell p0
     go_wp2_with fail
     refine (HPC2.out _).mono ?_
     rintro e w3 ⟨rfl,hx3⟩
     go_wp2_with fail
     go_ret
     exact⟨by rw [<- HF.out];rfl,((HX1.out.trans HX.out).trans hx2).trans hx3⟩
    have HQ:=Lib.hid (show chkF mayP pathsLe (some f) post=K from (chkF_on hm (by unfold pathsLe;exact decide_eq_true (by omega))).symm.trans hch.out)
    clear hch hm
    go_wp2_with fail
    refine (HM.out _).mono ?_
    rintro e w2 ⟨rfl,hx2⟩
    have p0:=hx2.cell p0
    go_wp2_with fail
    refine (HPC2.out _).mono ?_
    rintro e w3 ⟨rfl,hx3⟩
    go_wp2_with fail
    go_roundw
    case rel=>exact⟨(pre'++[t])++[f],post,by rw [HL.out];simp,by simp <;> omega,Lib.hid (by rw [last_snoc];exact HQ.out),(HX.out.trans hx2).trans hx3⟩
    case measure=>simp [intOf];omega
section
set_option maxRecDepth 100000
theorem eqIn_pruned0 (d:Nat) (a c:Str) (b e:Nat) (w:World):(Op.equalIn (d+1+1) 43 (.agg #[St a,U b,St c,U e]) (.agg #[St [],U 0,St [],U 0])).run Tryz.prog w=.ok (decide (a = []/\b=0/\c = []/\e=0)) w:=by
 have hS:Tryz.prog.underlying 43=some (.struct (Tryz.prog.fieldsOf 43)):=by kernel_rfl
 have hp:Tryz.prog.stoodInHeld 43=false:=by kernel_rfl
 have u1:=Tryz.underlying9
 have u2:=Tryz.underlying23
 have a1:=Tryz.isAgg9
 have a2:=Tryz.isAgg23
 have z1:=Tryz.sizeOf9
 have z2:=Tryz.sizeOf23
 rw [run_equalIn_agg w (d+1) 43 _ _ hS hp]
 simp only [Program.fieldsOf,Tryz.underlying43]
 go_simp
 repeat' split
 all_goals simp [*]
theorem eqIn_plan0 (d:Nat) (p:Plan) (w:World):(Op.equalIn (d+1+1+1) 45 (planV p) (planV plan0)).run Tryz.prog w=.ok (decide (p=plan0)) w:=by
 have hS:Tryz.prog.underlying 45=some (.struct (Tryz.prog.fieldsOf 45)):=by kernel_rfl
 have hp:Tryz.prog.stoodInHeld 45=false:=by kernel_rfl
 have u1:=Tryz.underlying9
 have u2:=Tryz.underlying23
 have u3:=Tryz.underlying4
 have a1:=Tryz.isAgg9
 have a2:=Tryz.isAgg23
 have a3:=Tryz.isAgg4
 have a4:=Tryz.isAgg43
 have z1:=Tryz.sizeOf9
 have z2:=Tryz.sizeOf23
 have z3:=Tryz.sizeOf4
 have z4:=Tryz.sizeOf43
 have hq:=fun w=>eqIn_pruned0 d p.by_ p.owner p.cap p.base w
 obtain⟨k,r,l,b,c,o,e,dn⟩:=p
 simp only [plan0,Plan.mk.injEq]
 unfold planV
 generalize hz:decide (b = []/\c=0/\o = []/\e=0)=zz at hq
 rw [run_equalIn_agg w (d+1+1) 45 _ _ hS hp]
 simp only [Program.fieldsOf,Tryz.underlying45]
 go_simp
 subst hz
 repeat' split
 all_goals simp_all
theorem eql_plan0 (p:Plan) (w:World):(binOp .eql 45 (planV p) (planV plan0)).run Tryz.prog w=.ok (.bool (decide (p=plan0))) w:=by
 have h:=eqIn_plan0 9997 p w
 unfold planV at h ⊢
 rw [run_eql_struct,show (10000:Nat)=9997+1+1+1 from rfl,h];rfl
theorem eql_pruned0 (a c:Str) (b e:Nat) (w:World):(binOp .eql 43 (.agg #[St a,U b,St c,U e]) (.agg #[St [],U 0,St [],U 0])).run Tryz.prog w=.ok (.bool (decide (a = []/\b=0/\c = []/\e=0))) w:=by
 rw [run_eql_struct,show (10000:Nat)=9998+1+1 from rfl,eqIn_pruned0];rfl
end
theorem plan_any (x:Mbr) {A1 A2:Option Addr} {n1 c1 n2 c2:Nat} (h1:x.path.length < 4611686018427387904) (h2:x.plan.keeper.length < 4611686018427387904) (h3:x.plan.live.length < 4611686018427387904) (h4:x.plan.owner.length < 4611686018427387904) (w:World) :
  Calls Tryz.prog 55 #[mbrV x (.slice A1 n1 c1) (.slice A2 n2 c2)] w fun e w'=>e=.returned (.bool (planOk x))/\Ext w w':=by
 have rA:=rowNew w 48 (mbrC x (.slice A1 n1 c1) (.slice A2 n2 c2))
 have xA:=(Ext.refl w).alloc (.cells (mbrC x (.slice A1 n1 c1) (.slice A2 n2 c2)).toArray 48)
 have rB:=rowNew (w.alloc (.cells (mbrC x (.slice A1 n1 c1) (.slice A2 n2 c2)).toArray 48)) 45 (planC x.plan)
 have xB:=xA.alloc (.cells (planC x.plan).toArray 45)
 rw [World.size_alloc] at rB
 have HU:=Lib.hid (under_any x.path x.plan.keeper h1 h2)
 have HR:=Lib.hid (round_any x.plan.round)
 have HP:=Lib.hid (paths_any x.plan.live h3)
 have HV:=Lib.hid (under_any x.path x.plan.owner h1 h4)
 have HQ1:∀ w,(binOp .eql 45 (.agg #[St x.plan.keeper,U x.plan.round,St x.plan.live,St x.plan.by_,U x.plan.cap,St x.plan.owner,U x.plan.base,.bool x.plan.done]) (.agg #[.string ⟨#[]⟩,.int .u64 0,.string ⟨#[]⟩,.string ⟨#[]⟩,.int .u64 0,.string ⟨#[]⟩,.int .u64 0,.bool false])).run Tryz.prog w=.ok (.bool (decide (x.plan=plan0))) w:=eql_plan0 x.plan
 have HQ2:∀ w,(binOp .eql 43 (.agg #[St x.plan.by_,U x.plan.cap,St x.plan.owner,U x.plan.base]) (.agg #[.string ⟨#[]⟩,.int .u64 0,.string ⟨#[]⟩,.int .u64 0])).run Tryz.prog w=.ok (.bool (asZ x.plan)) w:=eql_pruned0 x.plan.by_ x.plan.owner x.plan.cap x.plan.base
 have q0:=rA.cell (j:=6) rfl
 obtain⟨K,hK⟩:∃ K,planOk x=K:=⟨_,rfl⟩
 rw [hK]
 have HK:=Lib.hid hK
 clear hK h1 h2 h3 h4
 unfold mbrV
 unfold mbrC at rA xA rB xB
 unfold planC at rB xB
 have HCL:=Lib.hid (fun W (he:Ext ((w.alloc (.cells #[St x.path,U8 x.status,I x.kids,I x.cut,U x.last,.slice A1 n1 c1,St x.plan.keeper,U x.plan.round,St x.plan.live,St x.plan.by_,U x.plan.cap,St x.plan.owner,U x.plan.base,.bool x.plan.done,.slice A2 n2 c2] 48)).alloc (.cells #[St x.plan.keeper,U x.plan.round,St x.plan.live,St x.plan.by_,U x.plan.cap,St x.plan.owner,U x.plan.base,.bool x.plan.done] 45)) W)=>And.intro (RowIs.c15 ((rA.alloc _).ext he)) (RowIs.p8 (rB.ext he) rfl))
 obtain⟨⟨a0,a1,a2,a3,a4,a5,a6,a7,a8,a9,a10,a11,a12,a13,a14⟩,⟨b0,b1,b2,b3⟩,b4,b5,b6,b7⟩:=HCL.out _ (Ext.refl _)
 obtain⟨k0,k1,k2,k3,k4,k5,k6,k7,k8,k9,k10,k11,k12,k13,k14⟩:=RowIs.c15 rA
 clear rA rB
 unfold planOk at HK
 by_cases hp:x.plan=plan0
 case pos =>
  rw [decide_eq_true hp] at HQ1
  have HF:=Lib.hid (show true=K by rw [<- HK.out,decide_eq_true hp];rfl)
  clear HK hp
  go_enter Tryz.func55,Tryz.ntmps55
  go_wp2_with fail
  go_ret
  exact⟨by rw [<- HF.out];rfl,xB⟩
 rw [decide_eq_false hp] at HQ1 HK
 clear hp
 by_cases hs:x.status=4
 case neg =>
  have e1:((x.status:Int) != 4)=true:=by rw [bne_iff_ne];omega
  have HF:=Lib.hid (show false=K by rw [<- HK.out,decide_eq_false hs];simp)
  clear HK hs
  go_enter Tryz.func55,Tryz.ntmps55
  go_wp2_with fail
  go_ret
  exact⟨by rw [<- HF.out];rfl,xB⟩
 have e1:((x.status:Int) != 4)=false:=by rw [hs];rfl
 rw [decide_eq_true hs] at HK
 clear hs
 cases hu:underP x.path x.plan.keeper with
 | false =>
  rw [hu] at HU HK
  have HF:=Lib.hid (show false=K by rw [<- HK.out];simp)
  clear HK hu
  go_enter Tryz.func55,Tryz.ntmps55
  go_wp2_with fail
  refine (HU.out _).mono ?_
  rintro e w1 ⟨rfl,y1⟩
  obtain⟨⟨a0,a1,a2,a3,a4,a5,a6,a7,a8,a9,a10,a11,a12,a13,a14⟩,⟨b0,b1,b2,b3⟩,b4,b5,b6,b7⟩:=HCL.out w1 y1
  go_wp2_with fail
  go_ret
  exact⟨by rw [<- HF.out];rfl,xB.trans y1⟩
 | true =>
  rw [hu] at HU HK
  clear hu
  cases hr:roundM x.plan.round with
  | false =>
   rw [hr] at HR HK
   have HF:=Lib.hid (show false=K by rw [<- HK.out];simp)
   clear HK hr
   go_enter Tryz.func55,Tryz.ntmps55
   go_wp2_with fail
   refine (HU.out _).mono ?_
   rintro e w1 ⟨rfl,y1⟩
   obtain⟨⟨a0,a1,a2,a3,a4,a5,a6,a7,a8,a9,a10,a11,a12,a13,a14⟩,⟨b0,b1,b2,b3⟩,b4,b5,b6,b7⟩:=HCL.out w1 y1
   go_wp2_with fail
   refine (HR.out _).mono ?_
   rintro e w2 ⟨rfl,rfl⟩
   go_wp2_with fail
   go_ret
   exact⟨by rw [<- HF.out];rfl,xB.trans y1⟩
  | true =>
   rw [hr] at HR HK
   clear hr
   cases hq:pathsM x.plan.live with
   | false =>
    rw [hq] at HP HK
    have HF:=Lib.hid (show false=K by rw [<- HK.out];simp)
    clear HK hq
    go_enter Tryz.func55,Tryz.ntmps55
    go_wp2_with fail
    refine (HU.out _).mono ?_
    rintro e w1 ⟨rfl,y1⟩
    obtain⟨⟨a0,a1,a2,a3,a4,a5,a6,a7,a8,a9,a10,a11,a12,a13,a14⟩,⟨b0,b1,b2,b3⟩,b4,b5,b6,b7⟩:=HCL.out w1 y1
    go_wp2_with fail
    refine (HR.out _).mono ?_
    rintro e w2 ⟨rfl,rfl⟩
    go_wp2_with fail
    refine (HP.out _).mono ?_
    rintro e w3 ⟨rfl,y3⟩
    obtain⟨⟨a0,a1,a2,a3,a4,a5,a6,a7,a8,a9,a10,a11,a12,a13,a14⟩,⟨b0,b1,b2,b3⟩,b4,b5,b6,b7⟩:=HCL.out w3 (y1.trans y3)
    go_wp2_with fail
    go_ret
    exact⟨by rw [<- HF.out];rfl,(xB.trans y1).trans y3⟩
   | true =>
    rw [hq] at HP HK
    clear hq
    cases hz:asZ x.plan with
    | true =>
     rw [hz] at HQ2 HK
     have HF:=Lib.hid (show (!x.plan.done)=K by rw [<- HK.out];simp)
     clear HK hz
     go_enter Tryz.func55,Tryz.ntmps55
     go_wp2_with fail
     refine (HU.out _).mono ?_
     rintro e w1 ⟨rfl,y1⟩
     obtain⟨⟨a0,a1,a2,a3,a4,a5,a6,a7,a8,a9,a10,a11,a12,a13,a14⟩,⟨b0,b1,b2,b3⟩,b4,b5,b6,b7⟩:=HCL.out w1 y1
     go_wp2_with fail
     refine (HR.out _).mono ?_
     rintro e w2 ⟨rfl,rfl⟩
     go_wp2_with fail
     refine (HP.out _).mono ?_
     rintro e w3 ⟨rfl,y3⟩
     obtain⟨⟨a0,a1,a2,a3,a4,a5,a6,a7,a8,a9,a10,a11,a12,a13,a14⟩,⟨b0,b1,b2,b3⟩,b4,b5,b6,b7⟩:=HCL.out w3 (y1.trans y3)
     go_wp2_with fail
     go_ret
     exact⟨by rw [<- HF.out];rfl,(xB.trans y1).trans y3⟩
    | false =>
     rw [hz] at HQ2 HK
     clear hz
     by_cases hb:x.plan.by_=x.path
     case neg =>
      have e2:(x.plan.by_ == x.path)=false:=by simpa using hb
      have HF:=Lib.hid (show false=K by rw [<- HK.out,decide_eq_false hb];simp)
      clear HK
      go_enter Tryz.func55,Tryz.ntmps55
      go_wp2_with fail
      refine (HU.out _).mono ?_
      rintro e w1 ⟨rfl,y1⟩
      obtain⟨⟨a0,a1,a2,a3,a4,a5,a6,a7,a8,a9,a10,a11,a12,a13,a14⟩,⟨b0,b1,b2,b3⟩,b4,b5,b6,b7⟩:=HCL.out w1 y1
      go_wp2_with fail
      refine (HR.out _).mono ?_
      rintro e w2 ⟨rfl,rfl⟩
      go_wp2_with fail
      refine (HP.out _).mono ?_
      rintro e w3 ⟨rfl,y3⟩
      obtain⟨⟨a0,a1,a2,a3,a4,a5,a6,a7,a8,a9,a10,a11,a12,a13,a14⟩,⟨b0,b1,b2,b3⟩,b4,b5,b6,b7⟩:=HCL.out w3 (y1.trans y3)
      go_wp2_with fail
      go_ret
      exact⟨by rw [<- HF.out];rfl,(xB.trans y1).trans y3⟩
     have e2:(x.plan.by_ == x.path)=true:=by simpa using hb
     rw [decide_eq_true hb] at HK
     clear hb
     cases hv:underP x.path x.plan.owner with
     | false =>
      rw [hv] at HV HK
      have HF:=Lib.hid (show false=K by rw [<- HK.out];simp)
      clear HK hv
      go_enter Tryz.func55,Tryz.ntmps55
      go_wp2_with fail
      refine (HU.out _).mono ?_
      rintro e w1 ⟨rfl,y1⟩
      obtain⟨⟨a0,a1,a2,a3,a4,a5,a6,a7,a8,a9,a10,a11,a12,a13,a14⟩,⟨b0,b1,b2,b3⟩,b4,b5,b6,b7⟩:=HCL.out w1 y1
      go_wp2_with fail
      refine (HR.out _).mono ?_
      rintro e w2 ⟨rfl,rfl⟩
      go_wp2_with fail
      refine (HP.out _).mono ?_
      rintro e w3 ⟨rfl,y3⟩
      obtain⟨⟨a0,a1,a2,a3,a4,a5,a6,a7,a8,a9,a10,a11,a12,a13,a14⟩,⟨b0,b1,b2,b3⟩,b4,b5,b6,b7⟩:=HCL.out w3 (y1.trans y3)
      go_wp2_with fail
      refine (HV.out _).mono ?_
      rintro e w4 ⟨rfl,y4⟩
      obtain⟨⟨a0,a1,a2,a3,a4,a5,a6,a7,a8,a9,a10,a11,a12,a13,a14⟩,⟨b0,b1,b2,b3⟩,b4,b5,b6,b7⟩:=HCL.out w4 ((y1.trans y3).trans y4)
      go_wp2_with fail
      go_ret
      exact⟨by rw [<- HF.out];rfl,((xB.trans y1).trans y3).trans y4⟩
     | true =>
      rw [hv] at HV HK
      clear hv
      by_cases hb:(x.plan.base:Int)<=281474976710656
      case neg =>
       have HF:=Lib.hid (show false=K by rw [<- HK.out,decide_eq_false (show ¬ x.plan.base<=281474976710656 by omega)];simp)
       clear HK
       go_enter Tryz.func55,Tryz.ntmps55
       go_wp2_with fail
       refine (HU.out _).mono ?_
       rintro e w1 ⟨rfl,y1⟩
       obtain⟨⟨a0,a1,a2,a3,a4,a5,a6,a7,a8,a9,a10,a11,a12,a13,a14⟩,⟨b0,b1,b2,b3⟩,b4,b5,b6,b7⟩:=HCL.out w1 y1
       go_wp2_with fail
       refine (HR.out _).mono ?_
       rintro e w2 ⟨rfl,rfl⟩
       go_wp2_with fail
       refine (HP.out _).mono ?_
       rintro e w3 ⟨rfl,y3⟩
       obtain⟨⟨a0,a1,a2,a3,a4,a5,a6,a7,a8,a9,a10,a11,a12,a13,a14⟩,⟨b0,b1,b2,b3⟩,b4,b5,b6,b7⟩:=HCL.out w3 (y1.trans y3)
       go_wp2_with fail
       refine (HV.out _).mono ?_
       rintro e w4 ⟨rfl,y4⟩
       obtain⟨⟨a0,a1,a2,a3,a4,a5,a6,a7,a8,a9,a10,a11,a12,a13,a14⟩,⟨b0,b1,b2,b3⟩,b4,b5,b6,b7⟩:=HCL.out w4 ((y1.trans y3).trans y4)
       go_wp2_with fail
       go_ret
       exact⟨by rw [<- HF.out];rfl,((xB.trans y1).trans y3).trans y4⟩
      have c1:IntKind.u64.wrap (281474976710656 - (x.plan.base:Int))=281474976710656 - x.plan.base:=by simp [IntKind.wrap,IntKind.signed,IntKind.bits];omega
      have HF:=Lib.hid (show decide ((x.plan.cap:Int)<=281474976710656 - x.plan.base)=K by rw [<- HK.out,decide_eq_true (show x.plan.base<=281474976710656 by omega)];simp only [Bool.false_or,Bool.and_true,Bool.true_and,Bool.and_self,Bool.false_eq_true,if_false];rw [decide_eq_decide];omega)
      clear HK
      go_enter Tryz.func55,Tryz.ntmps55
      go_wp2_with fail
      refine (HU.out _).mono ?_
      rintro e w1 ⟨rfl,y1⟩
      obtain⟨⟨a0,a1,a2,a3,a4,a5,a6,a7,a8,a9,a10,a11,a12,a13,a14⟩,⟨b0,b1,b2,b3⟩,b4,b5,b6,b7⟩:=HCL.out w1 y1
      go_wp2_with fail
      refine (HR.out _).mono ?_
      rintro e w2 ⟨rfl,rfl⟩
      go_wp2_with fail
      refine (HP.out _).mono ?_
      rintro e w3 ⟨rfl,y3⟩
      obtain⟨⟨a0,a1,a2,a3,a4,a5,a6,a7,a8,a9,a10,a11,a12,a13,a14⟩,⟨b0,b1,b2,b3⟩,b4,b5,b6,b7⟩:=HCL.out w3 (y1.trans y3)
      go_wp2_with fail
      refine (HV.out _).mono ?_
      rintro e w4 ⟨rfl,y4⟩
      obtain⟨⟨a0,a1,a2,a3,a4,a5,a6,a7,a8,a9,a10,a11,a12,a13,a14⟩,⟨b0,b1,b2,b3⟩,b4,b5,b6,b7⟩:=HCL.out w4 ((y1.trans y3).trans y4)
      go_wp2_with fail
      go_ret
      exact⟨by rw [<- HF.out];rfl,((xB.trans y1).trans y3).trans y4⟩
def wOk (l:List Mbr) (p:Str) (s:Word):Bool:=keepW l s && !decide (s.of=p) && wordOk s
def wLe (t s:Word):Bool:=decide (cmpPath t.of s.of < 0)
def wordsB (l:List Mbr) (x:Mbr):Bool:=chkF (wOk l x.path) wLe none x.words
theorem words_any {S S':Nat->Prop} {v:Value} {l:List Mbr} {q:Nat} (x:Mbr) {A1:Option Addr} {n1 c1:Nat} {v2:Value} {w:World} (hv:Sl mbrT w S v l) (hm:MapIs St (fun n:Nat=>I n) w q (placesL l)) (h2:Sl wordT w S' v2 x.words) (hln:x.words.length<=4294967296)
  (hk:∀ s ∈ x.words,s.of.length < 4611686018427387904/\s.keeper.length < 4611686018427387904) :
  Calls Tryz.prog 56 #[v,.map (some q),mbrV x (.slice A1 n1 c1) v2] w fun e w'=>e=.returned (.bool (wordsB l x))/\Ext w w':=by
 have hv':=hv
 have h2':=h2
 obtain⟨Al,cl,rfl,-,-⟩:=hv.form
 obtain⟨A,c,rfl,hc1,hc2⟩:=h2.form
 have r0:=rowNew w 48 (mbrC x (.slice A1 n1 c1) (.slice A x.words.length c))
 have hx0:=(Ext.refl w).alloc (.cells (mbrC x (.slice A1 n1 c1) (.slice A x.words.length c)).toArray 48)
 have hz:∀ w,(zeroValue 3).run Tryz.prog w=.ok (I (0:Nat)) w:=Tryz.zeroValue3
 have HLK:=Lib.hid (fun w1 (hx:Ext w w1) (k:Str)=>places_run (hm.ext hx) hz k)
 have HAT:=Lib.hid (fun (pre post:List Mbr) (y:Mbr) w1 (hx:Ext w w1) (hl:l=pre++y :: post)=>mbr_at (wr:=w1) hv' (fun b _ hb=>hx.block b hb) hl)
 have HWT:=Lib.hid (fun (pre post:List Word) (m:Word) (wr:World) (h:Ext w wr) (hl:x.words=pre++m :: post)=>word_at h2' h hl)
 unfold mbrV
 unfold mbrC at r0 hx0
 have HR:=Lib.hid (fun W (he:Ext (w.alloc (.cells #[St x.path,U8 x.status,I x.kids,I x.cut,U x.last,.slice A1 n1 c1,St x.plan.keeper,U x.plan.round,St x.plan.live,St x.plan.by_,U x.plan.cap,St x.plan.owner,U x.plan.base,.bool x.plan.done,.slice A x.words.length c] 48)) W)=>And.intro ((r0.ext he).cell (j:=0) rfl) ((r0.ext he).cell (j:=14) rfl))
 obtain⟨q0,q14⟩:=HR.out _ (Ext.refl _)
 obtain⟨K,hK⟩:∃ K,wordsB l x=K:=⟨_,rfl⟩
 rw [hK]
 have HK:=Lib.hid hK
 have HX0:=Lib.hid hx0
 have HKW:=Lib.hid hk
 clear r0 hv hv' hm h2 h2' hK hx0 hk
 unfold wordsB at HK
 generalize x.words=G at *
 go_enter Tryz.func56,Tryz.ntmps56
 go_wp2_with fail
 generalize w.alloc (.cells #[St x.path,U8 x.status,I x.kids,I x.cut,U x.last,.slice A1 n1 c1,St x.plan.keeper,U x.plan.round,St x.plan.live,St x.plan.by_,U x.plan.cap,St x.plan.owner,U x.plan.base,.bool x.plan.done,.slice A G.length c] 48)=W0 at *
 generalize w.heap.size=gx at *
 clear q0 q14
 go_loopw [14] (fun i wr=>∃ pre post,G=pre++post/\i=I pre.length/\Hid (chkF (wOk l x.path) wLe pre.getLast? post=K)/\Ext W0 wr) (fun i _=>G.length - (intOf i).toNat)
 case atStart=>exact⟨[],G,rfl,rfl,Lib.hid HK.out,Ext.refl _⟩
 case round =>
  obtain⟨pre,post,hl,rfl,hch,hx⟩:=hrel
  cases post with
  | nil =>
   rw [List.append_nil] at hl
   subst hl
   have HF:=Lib.hid (show true=K from hch.out)
   clear hch
   go_wp2_with fail
   go_ret
   exact⟨by rw [<- HF.out];rfl,HX0.out.trans hx⟩
  | cons s post =>
   obtain⟨b,o,rfl,c0,c1,c2,c3,c4,c5,c6⟩:=HWT.out pre post s wr (HX0.out.trans hx) hl
   have hlt:pre.length < G.length:=by rw [hl];simp
   have hsk:=HKW.out s (by rw [hl];simp)
   have HL:=Lib.hid hl
   have hx1:=(Ext.refl wr).alloc (.cells #[St s.of,U s.has,St s.keeper,U s.round,.bool s.agreed,U s.cap,.bool s.pruned] 71)
   have r1:=rowNew wr 71 [St s.of,U s.has,St s.keeper,U s.round,.bool s.agreed,U s.cap,.bool s.pruned]
   have HX1:=Lib.hid ((HX0.out.trans hx).trans hx1)
   have HXR:=Lib.hid (hx.trans hx1)
   have HSC:=Lib.hid (fun W (he:Ext (wr.alloc (.cells #[St s.of,U s.has,St s.keeper,U s.round,.bool s.agreed,U s.cap,.bool s.pruned] 71)) W)=>(show W.cell? ⟨wr.heap.size,0,none⟩=some (St s.of)/\W.cell? ⟨wr.heap.size,1,none⟩=some (U s.has)/\W.cell? ⟨wr.heap.size,2,none⟩=some (St s.keeper)/\W.cell? ⟨wr.heap.size,3,none⟩=some (U s.round)/\W.cell? ⟨wr.heap.size,4,none⟩=some (.bool s.agreed)/\W.cell? ⟨wr.heap.size,5,none⟩=some (U s.cap)/\W.cell? ⟨wr.heap.size,6,none⟩=some (.bool s.pruned) from ⟨(r1.ext he).cell (j:=0) rfl,(r1.ext he).cell (j:=1) rfl,(r1.ext he).cell (j:=2) rfl,(r1.ext he).cell (j:=3) rfl,(r1.ext he).cell (j:=4) rfl,(r1.ext he).cell (j:=5) rfl,(r1.ext he).cell (j:=6) rfl⟩))
   have HWD:=Lib.hid (fun W=>show Calls Tryz.prog 124 #[.agg #[St s.of,U s.has,St s.keeper,U s.round,.bool s.agreed,U s.cap,.bool s.pruned]] W _ from word_any s hsk.1 hsk.2 W)
   obtain⟨q0,q14⟩:=HR.out _ (hx.trans hx1)
   obtain⟨s0,s1,s2,s3,s4,s5,s6⟩:=HSC.out _ (Ext.refl _)
   clear r1 hx1 hx hl
   have hq:∃ Q,Q=(match pre.getLast? with | some t=>wLe t s | none=>true):=⟨_,rfl⟩
   rcases List.eq_nil_or_concat pre with rfl | ⟨pre',t,rfl⟩
   case' inl =>
    have HCH:=Lib.hid (show wOk l x.path s=false->false=K from fun h=>by rw [<- hch.out];symm;exact chkF_bad h)
    have HCG:=Lib.hid (show wOk l x.path s=true->chkF (wOk l x.path) wLe (some s) post=K from fun h=>(chkF_one h).symm.trans hch.out)
    simp only [List.length_nil,Nat.zero_mul,Nat.add_zero] at c0 c1 c2 c3 c4 c5 c6 hlt ⊢
    clear hch hq
    go_wp2_with fail
    generalize wr.alloc (.cells #[St s.of,U s.has,St s.keeper,U s.round,.bool s.agreed,U s.cap,.bool s.pruned] 71)=W1 at *
    generalize wr.heap.size=gs at *
    go_quiet (fail)
    have hX:=(Ext.refl W1).drewN nq
    have HREL:=Lib.hid (show ∀ W,Ext W0 W->∀ i:Value,chkF (wOk l x.path) wLe (some s) post=K->i=.int .i64 1->∃ pre post,G=pre++post/\i=I pre.length/\Hid (chkF (wOk l x.path) wLe pre.getLast? post=K)/\Ext W0 W from fun W hW i h1 h2=>⟨[s],post,HL.out,h2,Lib.hid h1,hW⟩)
   case' inr =>
    obtain⟨b',o',he,p0,-⟩:=HWT.out pre' (s :: post) t _ HX1.out (by rw [HL.out];simp)
    cases he
    rw [show (pre'.concat t).getLast? = some t by simp] at hch hq
    have htk:=HKW.out t (by rw [HL.out];simp)
    obtain⟨m,hlc⟩:∃ m,(pre'.concat t).length=m:=⟨_,rfl⟩
    have hm1:m=pre'.length+1:=by rw [<- hlc];simp
    rw [hlc] at c0 c1 c2 c3 c4 c5 c6 hlt ⊢
    obtain⟨jv,hjv⟩:∃ jv:Int,(m:Int)=jv:=⟨_,rfl⟩
    obtain⟨jp,hjp⟩:∃ jp:Int,(pre'.length:Int)=jp:=⟨_,rfl⟩
    have k0:(0:Int)<=jp:=by omega
    have k1:jp < (G.length:Int):=by omega
    have k2:jv > 0:=by omega
    have k4:IntKind.i64.wrap (jv - 1)=jp:=by rw [show jv - 1=jp by omega];exact wrap_small _ (by omega) (by omega)
    have k6:jp.toNat=pre'.length:=by omega
    have k7:jv.toNat=m:=by omega
    have k8:(0:Int)<=jv:=by omega
    have k9:jv < (G.length:Int):=by omega
    have HJ:=Lib.hid (And.intro hjv (And.intro hjp hm1))
    rw [hjv]
    clear hjv hjp hlc hm1 hlt
    obtain⟨cz,hcz⟩:∃ cz,cmpPath t.of s.of=cz:=⟨_,rfl⟩
    have HPC:=Lib.hid (fun w=>pcmp_any t.of s.of htk.1 hsk.1 w)
    rw [hcz] at HPC
    have HW1:=Lib.hid (fun W (he:Ext (wr.alloc (.cells #[St s.of,U s.has,St s.keeper,U s.round,.bool s.agreed,U s.cap,.bool s.pruned] 71)) W)=>And.intro (HR.out W (HXR.out.trans he)).2 (And.intro (HSC.out W he).1 (And.intro (he.cell p0) he)))
    clear hq htk
    go_wp2_with fail
    generalize wr.alloc (.cells #[St s.of,U s.has,St s.keeper,U s.round,.bool s.agreed,U s.cap,.bool s.pruned] 71)=W1 at *
    generalize wr.heap.size=gs at *
    by_cases hlt2:cz ≥ 0
    case' pos=>have e9:decide (cz ≥ 0)=true:=decide_eq_true hlt2
    case' neg=>have e9:decide (cz ≥ 0)=false:=decide_eq_false hlt2
    all_goals
     go_region_held3 (fun W=>W.cell? ⟨gx,14,none⟩=some (.slice (some ⟨b,o,none⟩) G.length c)/\W.cell? ⟨gs,0,none⟩=some (St s.of)/\W.cell? ⟨b,o+pre'.length * 7,none⟩=some (St t.of)/\Ext W1 W) (first | exact HW1.out _ (Ext.refl _).drew | exact HW1.out _ (‹_/\_/\_/\Ext W1 _›.2.2.2.trans hb1)) (first | (go_at_call 48;refine (HPC.out _).mono ?_;rintro e w1 ⟨rfl,hb1⟩))
     have hX:=‹_/\_/\_/\Ext W1 _›.2.2.2
    case' pos =>
     have HF:=Lib.hid (show false=K by rw [<- hch.out];symm;exact chkF_less (by unfold wLe;rw [hcz];exact decide_eq_false (by omega)))
     clear hch
     go_wp2_with fail
     go_ret
     exact⟨by rw [<- HF.out];rfl,HX1.out.trans hX⟩
    case' neg =>
     have HCH:=Lib.hid (show wOk l x.path s=false->false=K from fun h=>by rw [<- hch.out];symm;exact chkF_bad h)
     have HCG:=Lib.hid (show wOk l x.path s=true->chkF (wOk l x.path) wLe (some s) post=K from fun h=>(chkF_on h (by unfold wLe;rw [hcz];exact decide_eq_true (by omega))).symm.trans hch.out)
     have hz4:jv+1=(((pre'++[t]++[s]).length:Nat):Int):=by have h3:=HJ.out;simp;omega
     have HREL:=Lib.hid (show ∀ W,Ext W0 W->∀ i:Value,chkF (wOk l x.path) wLe (some s) post=K->i=.int .i64 (jv+1)->∃ pre post,G=pre++post/\i=I pre.length/\Hid (chkF (wOk l x.path) wLe pre.getLast? post=K)/\Ext W0 W from fun W hW i h1 h2=>⟨pre'++[t]++[s],post,by rw [HL.out];simp,by rw [h2,hz4],Lib.hid (by rw [last_snoc];exact h1),hW⟩)
     clear hz4 hch hcz hlt2 k0 k1 k2 k4 k6 p0
   all_goals
    have hlk:=HLK.out _ (HX1.out.trans hX) s.of
    obtain⟨s0,s1,s2,s3,s4,s5,s6⟩:=HSC.out _ hX
    obtain⟨q0,q14⟩:=HR.out _ (HXR.out.trans hX)
    have HXF:=Lib.hid (HX1.out.trans hX)
    have HXG:=Lib.hid (HXR.out.trans hX)
    clear c0 c1 c2 c3 c4 c5 c6
    cases hi:idxP l s.of
    case' none =>
     rw [hi] at hlk
     simp only [Option.getD_none,Option.isSome_none] at hlk
     have HF:=Lib.hid (HCH.out (by unfold wOk keepW;rw [at_none hi];rfl))
     clear hi HCH HCG
     go_wp2_with fail
     go_ret
     exact⟨by rw [<- HF.out];rfl,HXF.out⟩
    case' some j =>
     rw [hi] at hlk
     simp only [Option.getD_some,Option.isSome_some] at hlk
     obtain⟨y,h1,-,h2,h3,h4⟩:=idx_some hi
     obtain⟨bl,ol,B1,d1,B2,d2,rfl,-,-,-,hcl⟩:=HAT.out _ _ y _ HXF.out h3
     rw [h4] at hcl
     have y1:=hcl 1 _ rfl
     have h2':(j:Int) < l.length:=by omega
     have HKE:=Lib.hid (show keepW l s=decide (y.status=4) by unfold keepW;rw [h1])
     clear hi h1 h3 h4 hcl
     by_cases t1:y.status=4
     case neg =>
      have e1:((y.status:Int) != 4)=true:=by rw [bne_iff_ne];omega
      have HF:=Lib.hid (HCH.out (by unfold wOk;rw [HKE.out,decide_eq_false t1];rfl))
      clear HCH HCG t1
      go_wp2_with fail
      go_ret
      exact⟨by rw [<- HF.out];rfl,HXF.out⟩
     have e1:((y.status:Int) != 4)=false:=by rw [t1];rfl
     have HKE:=Lib.hid (show keepW l s=true by rw [HKE.out];exact decide_eq_true t1)
     clear t1
     by_cases t2:s.of=x.path
     case pos =>
      have e2:(s.of == x.path)=true:=by simpa using t2
      have HF:=Lib.hid (HCH.out (by unfold wOk;rw [HKE.out,decide_eq_true t2];rfl))
      clear HCH HCG t2
      go_wp2_with fail
      go_ret
      exact⟨by rw [<- HF.out];rfl,HXF.out⟩
     have e2:(s.of == x.path)=false:=by simpa using t2
     have HWO:=Lib.hid (show wOk l x.path s=wordOk s by unfold wOk;rw [HKE.out,decide_eq_false t2];rfl)
     clear t2
     cases hw:wordOk s
     case' false =>
      rw [hw] at HWO HWD
      have HF:=Lib.hid (HCH.out HWO.out)
      clear HCH HCG hw
      go_wp2_with fail
      refine (HWD.out _).mono ?_
      rintro e w4 ⟨rfl,hx4⟩
      go_wp2_with fail
      go_ret
      exact⟨by rw [<- HF.out];rfl,HXF.out.trans hx4⟩
     case' true =>
      rw [hw] at HWO HWD
      have HF:=Lib.hid (HCG.out HWO.out)
      clear HCH HCG hw
      go_wp2_with fail
      refine (HWD.out _).mono ?_
      rintro e w4 ⟨rfl,hx4⟩
      go_wp2_with fail
      go_roundw
      case rel=>exact HREL.out _ (HXG.out.trans hx4) _ HF.out rfl
      case measure=>simp [intOf];omega
def okM (l:List Mbr) (x:Mbr):Bool:=mayP x.path && (!forgottenM l x.path && ((!voidM l x.path || decide (x.status=4/\x.cut=1)) && (decide (FieldsM x) && (goneB x && (planOk x && wordsB l x)))))
def parOk (l:List Mbr) (p:Str):Bool:=match atP l (parP p) with | some y=>decide ((numP p:Int)<=y.kids) | none=>false
def leM (l:List Mbr) (t x:Mbr):Bool:=decide (cmpPath t.path x.path < 0) && parOk l x.path
def may20 (l:List Mbr):Bool:=match l.head? with
 | none=>false
 | some x=>decide (l.length<=24) && (decide (x.path = [49]) && (decide (x.status<=2) && chkF (okM l) (leM l) none l))
structure TidyL (l:List Mbr):Prop where
 len:l.length<=4294967296
 path:∀ x ∈ l,x.path.length < 3000000000
 gone:∀ x ∈ l,x.gone.length<=4294967296
 wlen:∀ x ∈ l,x.words.length<=4294967296
 keeper:∀ x ∈ l,x.plan.keeper.length < 4611686018427387904
 live:∀ x ∈ l,x.plan.live.length < 4611686018427387904
 owner:∀ x ∈ l,x.plan.owner.length < 4611686018427387904
 words:∀ x ∈ l,∀ s ∈ x.words,s.of.length < 4294967296/\s.keeper.length < 4611686018427387904
def leftId:Code->Option Nat
 | .region i _ _=>some i
 | .seq a _=>leftId a
 | _=>none
def codeAt (i:Nat):Code->Option Code
 | .seq a b=>if leftId a=some i then some (.seq a b) else match codeAt i a with
  | some c=>some c
  | none=>codeAt i b
 | .cond _ a b=>match codeAt i a with
  | some c=>some c
  | none=>codeAt i b
 | .block _ a=>codeAt i a
 | .loop a=>codeAt i a
 | _=>none
noncomputable def mayTail:Code:=(Tryz.f20.body.bind (codeAt 13)).getD .skip
theorem may_tail {S S':Nat->Prop} {Av A1 A2:Option Addr} {cl n1 n2 q gs:Nat} {l:List Mbr} {x:Mbr} {W:World} {K:Bool} {Q:Exit->Act->World->Prop} (hv:Sl mbrT W S (.slice Av l.length cl) l) (hm:MapIs St (fun n:Nat=>I n) W q (placesL l)) (td:TidyL l) (hxm:x ∈ l)
  (h1:Sl spanT W S' (.slice A1 x.gone.length n1) x.gone) (h2:Sl wordT W S' (.slice A2 x.words.length n2) x.words) (hrow:RowIs W gs 48 [St x.path,U8 x.status,I x.kids,I x.cut,U x.last,.slice A1 x.gone.length n1,St x.plan.keeper,U x.plan.round,St x.plan.live,St x.plan.by_,U x.plan.cap,St x.plan.owner,U x.plan.base,.bool x.plan.done,.slice A2 x.words.length n2] []) (hmp:mayP x.path=true) (hbad:okM l x=false->false=K) {c1 c2 c4 c6 c7 c8 c9 c10 c11 c12 c13 c14 c15 c16 c17 c18 c19 c20 c21 c22 c23 c24 c25 c26 c27 c28 c29 c30 c31 c32 c33 c34 c35 c36 c37 c38 c39 c40 c41 c42 c43 c44 c45 c46 c47 c48 c49 c50 c51 c52 c53 c54 c55 c56 c57 c58 c59 c60 c61 c62 c63 c64 c65 c66 c67 c68 c69 c70 c71 c72 c73 c74 c75 c76 c77 c78 c79 c80 c81 c82 c83 c84 c85 c86 c87 c88 c89 c90 c91 c92 c93 c94 c95 c96 c97 c98 c99 c100 c101 c102 c103 c104 c105 c106 c107 c108 c109 c110 c111 c112 c113 c114 c115 c116 c117 c118 c119 c120 c121 c122 c123 c124:Value}
  (hr:∀ ⦃u82 u83 u84 u85 u86 u87 u88 u89 u90 u91 u92 u93 u94 u95 u96 u97 u98 u99 u100 u101 u102 u103 u104 u105 u106 u107 u108 u109 u110 u111 u112 u113 u114 u115 u116 u117 u118 u119 u120 u121 u122 u123:Value⦄ ⦃W':World⦄,Ext W W'->false=K->Q .ret ⟨#[.slice Av l.length cl,c1,.bool false,.map (some q),c4,.pointer (some ⟨gs,0,none⟩),c6,c7,c8,c9,c10,c11,c12,c13,c14,c15,c16,c17,c18,c19,c20,c21,c22,c23,c24,c25,c26,c27,c28,c29,c30,c31,c32,c33,c34,c35,c36,c37,c38,c39,c40,c41,c42,c43,c44,c45,c46,c47,c48,c49,c50,c51,c52,c53,c54,c55,c56,c57,c58,c59,c60,c61,c62,c63,c64,c65,c66,c67,c68,c69,c70,c71,c72,c73,c74,c75,c76,c77,c78,c79,c80,c81,u82,u83,u84,u85,u86,u87,u88,u89,u90,u91,u92,u93,u94,u95,u96,u97,u98,u99,u100,u101,u102,u103,u104,u105,u106,u107,u108,u109,u110,u111,u112,u113,u114,u115,u116,u117,u118,u119,u120,u121,u122,u123,c124],[]⟩ W') (hn:okM l x=true->∀ ⦃u82 u83 u84 u85 u86 u87 u88 u89 u90 u91 u92 u93 u94 u95 u96 u97 u98 u99 u100 u101 u102 u103 u104 u105 u106 u107 u108 u109 u110 u111 u112 u113 u114 u115 u116 u117 u118 u119 u120 u121 u122 u123:Value⦄ ⦃W':World⦄,Ext W W'->Q .normal ⟨#[.slice Av l.length cl,c1,c2,.map (some q),c4,.pointer (some ⟨gs,0,none⟩),c6,c7,c8,c9,c10,c11,c12,c13,c14,c15,c16,c17,c18,c19,c20,c21,c22,c23,c24,c25,c26,c27,c28,c29,c30,c31,c32,c33,c34,c35,c36,c37,c38,c39,c40,c41,c42,c43,c44,c45,c46,c47,c48,c49,c50,c51,c52,c53,c54,c55,c56,c57,c58,c59,c60,c61,c62,c63,c64,c65,c66,c67,c68,c69,c70,c71,c72,c73,c74,c75,c76,c77,c78,c79,c80,c81,u82,u83,u84,u85,u86,u87,u88,u89,u90,u91,u92,u93,u94,u95,u96,u97,u98,u99,u100,u101,u102,u103,u104,u105,u106,u107,u108,u109,u110,u111,u112,u113,u114,u115,u116,u117,u118,u119,u120,u121,u122,u123,c124],[]⟩ W') :
  Code.wp Tryz.prog mayTail Q ⟨#[.slice Av l.length cl,c1,c2,.map (some q),c4,.pointer (some ⟨gs,0,none⟩),c6,c7,c8,c9,c10,c11,c12,c13,c14,c15,c16,c17,c18,c19,c20,c21,c22,c23,c24,c25,c26,c27,c28,c29,c30,c31,c32,c33,c34,c35,c36,c37,c38,c39,c40,c41,c42,c43,c44,c45,c46,c47,c48,c49,c50,c51,c52,c53,c54,c55,c56,c57,c58,c59,c60,c61,c62,c63,c64,c65,c66,c67,c68,c69,c70,c71,c72,c73,c74,c75,c76,c77,c78,c79,c80,c81,c82,c83,c84,c85,c86,c87,c88,c89,c90,c91,c92,c93,c94,c95,c96,c97,c98,c99,c100,c101,c102,c103,c104,c105,c106,c107,c108,c109,c110,c111,c112,c113,c114,c115,c116,c117,c118,c119,c120,c121,c122,c123,c124],[]⟩ W:=by
 have hpx:=td.path x hxm
 have HSC:=Lib.hid (fun W' (he:Ext W W')=>RowIs.c15 (hrow.ext he))
 have HFI:=Lib.hid (fun W=>show Calls Tryz.prog 53 #[.agg #[St x.path,U8 x.status,I x.kids,I x.cut,U x.last,.slice A1 x.gone.length n1,St x.plan.keeper,U x.plan.round,St x.plan.live,St x.plan.by_,U x.plan.cap,St x.plan.owner,U x.plan.base,.bool x.plan.done,.slice A2 x.words.length n2]] W _ from fields_any x W)
 have HGO:=Lib.hid (fun W' (hE:Ext W W') (hF:FieldsM x)=>show Calls Tryz.prog 54 #[.agg #[St x.path,U8 x.status,I x.kids,I x.cut,U x.last,.slice A1 x.gone.length n1,St x.plan.keeper,U x.plan.round,St x.plan.live,St x.plan.by_,U x.plan.cap,St x.plan.owner,U x.plan.base,.bool x.plan.done,.slice A2 x.words.length n2]] W' _ from gone_any x (A2:=A2) (n2:=x.words.length) (c2:=n2) (h1.ext (by decide) hE) hF.2.1.1 hF.2.1.2 (td.gone x hxm))
 have HPN:=Lib.hid (fun W=>show Calls Tryz.prog 55 #[.agg #[St x.path,U8 x.status,I x.kids,I x.cut,U x.last,.slice A1 x.gone.length n1,St x.plan.keeper,U x.plan.round,St x.plan.live,St x.plan.by_,U x.plan.cap,St x.plan.owner,U x.plan.base,.bool x.plan.done,.slice A2 x.words.length n2]] W _ from plan_any x (A1:=A1) (n1:=x.gone.length) (c1:=n1) (A2:=A2) (n2:=x.words.length) (c2:=n2) (by omega) (td.keeper x hxm) (td.live x hxm) (td.owner x hxm) W)
 have HWO:=Lib.hid (fun W' (hE:Ext W W')=>show Calls Tryz.prog 56 #[.slice Av l.length cl,.map (some q),.agg #[St x.path,U8 x.status,I x.kids,I x.cut,U x.last,.slice A1 x.gone.length n1,St x.plan.keeper,U x.plan.round,St x.plan.live,St x.plan.by_,U x.plan.cap,St x.plan.owner,U x.plan.base,.bool x.plan.done,.slice A2 x.words.length n2]] W' _ from words_any x (A1:=A1) (n1:=x.gone.length) (c1:=n1) (hv.ext (by decide) hE) (hm.ext hE) (h2.ext (by decide) hE) (td.wlen x hxm) (fun s hs=>by have:=td.words x hxm s hs;omega))
 have HFG:=Lib.hid (forgotten_any hv hm x.path (by omega))
 have HVO:=Lib.hid (fun W' (hE:Ext W W')=>void_any (hv.ext (by decide) hE) (hm.ext hE) x.path (by omega))
 have HBAD:=Lib.hid hbad
 have HMP:=Lib.hid hmp
 have HR:=Lib.hid hr
 have HN:=Lib.hid hn
 obtain⟨s0,s1,s2,s3,s4,s5,s6,s7,s8,s9,s10,s11,s12,s13,s14⟩:=HSC.out _ (Ext.refl _)
 clear hv hm td hxm h1 h2 hrow hmp hbad hr hn hpx
 conv=>arg 2;whnf
 go_wp2_with fail
 refine HFG.out.mono ?_
 rintro e w5 ⟨rfl,hx5⟩
 obtain⟨s0,s1,s2,s3,s4,s5,s6,s7,s8,s9,s10,s11,s12,s13,s14⟩:=HSC.out _ hx5
 cases hfg:forgottenM l x.path
 case' true =>
  have HF:=Lib.hid (HBAD.out (by unfold okM;rw [hfg];simp))
  clear hfg
  go_wp2_with fail
  exact HR.out hx5 HF.out
 case' false =>
  have HFGF:=Lib.hid hfg
  clear hfg
  go_wp2_with fail
  refine (HVO.out _ hx5).mono ?_
  rintro e w6 ⟨rfl,hx6⟩
  have HY6:=Lib.hid (hx5.trans hx6)
  obtain⟨s0,s1,s2,s3,s4,s5,s6,s7,s8,s9,s10,s11,s12,s13,s14⟩:=HSC.out _ HY6.out
  clear hx5 hx6
  cases hvd:voidM l x.path
  case' false =>
   have HVOK:=Lib.hid (show (!voidM l x.path || decide (x.status=4/\x.cut=1))=true by rw [hvd];rfl)
   clear hvd
   go_wp2_with fail
  case' true =>
   by_cases hs:x.status=4
   case neg =>
    have e1:((x.status:Int) != 4)=true:=by rw [bne_iff_ne];omega
    have HF:=Lib.hid (HBAD.out (by unfold okM;rw [hvd,decide_eq_false (fun h=>hs h.1)];simp))
    clear hvd hs
    go_wp2_with fail
    exact HR.out HY6.out HF.out
   have e1:((x.status:Int) != 4)=false:=by rw [hs];rfl
   by_cases hcu:x.cut=1
   case neg =>
    have e2:(x.cut != 1)=true:=by rw [bne_iff_ne];exact hcu
    have HF:=Lib.hid (HBAD.out (by unfold okM;rw [hvd,decide_eq_false (fun h=>hcu h.2)];simp))
    clear hvd hs hcu
    go_wp2_with fail
    exact HR.out HY6.out HF.out
   have e2:(x.cut != 1)=false:=by rw [hcu];rfl
   have HVOK:=Lib.hid (show (!voidM l x.path || decide (x.status=4/\x.cut=1))=true by rw [decide_eq_true ⟨hs,hcu⟩];simp)
   clear hvd hs hcu
   go_wp2_with fail
   clear e1 e2
  all_goals
   refine (HFI.out _).mono ?_
   rintro e w7 ⟨rfl,hx7⟩
   have HY7:=Lib.hid (HY6.out.trans hx7)
   obtain⟨s0,s1,s2,s3,s4,s5,s6,s7,s8,s9,s10,s11,s12,s13,s14⟩:=HSC.out _ HY7.out
   clear hx7
   by_cases hF:FieldsM x
   case neg =>
    have HF:=Lib.hid (HBAD.out (by unfold okM;rw [decide_eq_false hF];simp))
    rw [decide_eq_false hF]
    clear hF
    go_wp2_with fail
    exact HR.out HY7.out HF.out
   rw [decide_eq_true hF]
   have HFM:=Lib.hid hF
   clear hF
   go_wp2_with fail
   refine (HGO.out _ HY7.out HFM.out).mono ?_
   rintro e w8 ⟨rfl,hx8⟩
   have HY8:=Lib.hid (HY7.out.trans hx8)
   obtain⟨s0,s1,s2,s3,s4,s5,s6,s7,s8,s9,s10,s11,s12,s13,s14⟩:=HSC.out _ HY8.out
   clear hx8
   cases hgo:goneB x
   case' false =>
    have HF:=Lib.hid (HBAD.out (by unfold okM;rw [hgo];simp))
    clear hgo
    go_wp2_with fail
    exact HR.out HY8.out HF.out
   case' true =>
    have HGB:=Lib.hid hgo
    clear hgo
    go_wp2_with fail
    refine (HPN.out _).mono ?_
    rintro e w9 ⟨rfl,hx9⟩
    have HY9:=Lib.hid (HY8.out.trans hx9)
    obtain⟨s0,s1,s2,s3,s4,s5,s6,s7,s8,s9,s10,s11,s12,s13,s14⟩:=HSC.out _ HY9.out
    clear hx9
    cases hpn:planOk x
    case' false =>
     have HF:=Lib.hid (HBAD.out (by unfold okM;rw [hpn];simp))
     clear hpn
     go_wp2_with fail
     exact HR.out HY9.out HF.out
    case' true =>
     have HPB:=Lib.hid hpn
     clear hpn
     go_wp2_with fail
     refine (HWO.out _ HY9.out).mono ?_
     rintro e w10 ⟨rfl,hx10⟩
     have HY10:=Lib.hid (HY9.out.trans hx10)
     clear hx10
     cases hwo:wordsB l x
     case' false =>
      have HF:=Lib.hid (HBAD.out (by unfold okM;rw [hwo];simp))
      clear hwo
      go_wp2_with fail
      exact HR.out HY10.out HF.out
     case' true =>
      have HOK2:=Lib.hid (HN.out (by unfold okM;rw [HMP.out,HFGF.out,HVOK.out,decide_eq_true HFM.out,HGB.out,HPB.out,hwo];rfl))
      clear hwo HN
      go_wp2_with fail
      exact HOK2.out HY10.out
end
end Go.Proofs.YtblkikjmocnllaaGreatDoor
