/- Laws. -/
import Derived.Test.YtblkikjmocnllaaGreatDoorQz21
import Derived.Test.YtblkikjmocnllaaGreatDoorQz26
import Derived.Test.YtblkikjmocnllaaGreatDoorQz42
import Derived.Deep.CutRange
import Derived.Test.YtblkikjmocnllaaGreatDoorQz23
import Derived.Test.YtblkikjmocnllaaGreatDoorQz41
import Derived.Test.YtblkikjmocnllaaGreatDoorQz24
set_option linter.unusedVariables false
set_option linter.unusedSimpArgs false
set_option maxRecDepth 100000
set_option maxHeartbeats 40000000
namespace Go.Proofs.YtblkikjmocnllaaGreatDoor
section
open Go.RowKit Go.Shelf
theorem srt_snoc {l:List Word} {t z:Word} (h:SrtN Word.of (l++[t])) (hz:cmpPath t.of z.of < 0):SrtN Word.of (l++[t]++[z]):=by
 refine List.pairwise_append.2 ⟨h,List.pairwise_singleton _ _,fun x hx y hy=>?_⟩
 rw [List.mem_singleton.1 hy]
 rcases List.mem_append.1 hx with h1 | h1
 ·exact cmpPath_trans ((List.pairwise_append.1 h).2.2 x h1 t (by simp)) hz
 ·rw [List.mem_singleton.1 h1];exact hz
theorem refWords_any {S S':Nat->Prop} {v v1 v2:Value} {l:List Mbr} {m:Mbr} {w:World} (hv:Sl mbrT w S v l) (hm1:Sl spanT w S' v1 m.gone) (hm2:Sl wordT w S' v2 m.words) (hw0:m.words.length<=1000000) (hwl:∀ s ∈ m.words,s.of.length < 1073741824/\s.keeper.length < 1073741824) :
  Calls Tryz.prog 96 #[v,mbrV m v1 v2] w fun e w'=>(e=.returned (.bool false) ∨ e=.returned (.bool true)/\SrtN Word.of m.words)/\Ext w w':=by
 obtain⟨A1,c1,rfl,-,-⟩:=hm1.form
 obtain⟨A2,c2,rfl,-,-⟩:=hm2.form
 have hv0:=hv.mono (S':=fun b=>b < w.heap.size) (by decide) (fun b hb _=>hb)
 obtain⟨P0,c,rfl,-,-⟩:=hv.form
 have rB:=rowNew w 48 [St m.path,U8 m.status,I m.kids,I m.cut,U m.last,.slice A1 m.gone.length c1,St m.plan.keeper,U m.plan.round,St m.plan.live,St m.plan.by_,U m.plan.cap,St m.plan.owner,U m.plan.base,.bool m.plan.done,.slice A2 m.words.length c2]
 have xB:=(Ext.refl w).alloc (.cells #[St m.path,U8 m.status,I m.kids,I m.cut,U m.last,.slice A1 m.gone.length c1,St m.plan.keeper,U m.plan.round,St m.plan.live,St m.plan.by_,U m.plan.cap,St m.plan.owner,U m.plan.base,.bool m.plan.done,.slice A2 m.words.length c2] 48)
 obtain⟨W0,hW0⟩:∃ W0,w.alloc (.cells #[St m.path,U8 m.status,I m.kids,I m.cut,U m.last,.slice A1 m.gone.length c1,St m.plan.keeper,U m.plan.round,St m.plan.live,St m.plan.by_,U m.plan.cap,St m.plan.owner,U m.plan.base,.bool m.plan.done,.slice A2 m.words.length c2] 48)=W0:=⟨_,rfl⟩
 obtain⟨gm,hgm⟩:∃ gm,w.heap.size=gm:=⟨_,rfl⟩
 rw [hW0] at rB xB
 rw [hgm] at rB
 have HRM:=Lib.hid (fun W (he:Ext W0 W)=>And.intro ((rB.ext he).cell (j:=0) rfl) ((rB.ext he).cell (j:=14) rfl))
 have HW0:=Lib.hid (And.intro hW0 hgm)
 have HOF:=Lib.hid (fun W (he:Ext W0 W) q=>refOf_any (hv0.ext (by decide) (xB.trans he)) q)
 have HWT:=Lib.hid (fun (pre post:List Word) (x:Word) W (he:Ext W0 W) (hl:m.words=pre++x :: post)=>word_at hm2 (xB.trans he) hl)
 have HXB:=Lib.hid xB
 have HWL:=Lib.hid hwl
 clear hv hv0 hm1 hm2 rB xB hW0 hgm hwl
 unfold mbrV
 go_enter Tryz.func96,Tryz.ntmps96
 go_wp2_with fail
 rw [HW0.out.1,HW0.out.2]
 go_loopw [5,6,7,8] (fun iv _ _ _ wr=>∃ pre post,m.words=pre++post/\iv=I pre.length/\Hid (SrtN Word.of pre)/\Ext W0 wr) (fun i _ _ _ _=>m.words.length - (intOf i).toNat)
 case atStart=>exact⟨[],m.words,rfl,rfl,Lib.hid List.Pairwise.nil,Ext.refl _⟩
 case round =>
  obtain⟨pre,post,hl,rfl,hs,hx⟩:=hrel
  have HX:=Lib.hid hx
  cases post with
  | nil =>
   rw [List.append_nil] at hl
   have HSS:=Lib.hid (show SrtN Word.of m.words by rw [hl];exact hs.out)
   have hge:¬ (pre.length:Int) < m.words.length:=by rw [hl];omega
   obtain⟨-,m14⟩:=HRM.out _ hx
   clear hl hs hx
   go_wp2_with fail
   go_ret
   exact⟨.inr ⟨rfl,HSS.out⟩,HXB.out.trans HX.out⟩
  | cons z post =>
   obtain⟨zo,zh,zk,zr,za,zc,zp⟩:=z
   obtain⟨b,o,rfl,k0,k1,k2,k3,k4,k5,k6⟩:=HWT.out pre post _ _ hx hl
   have hlt:pre.length < m.words.length:=by rw [hl];simp
   have hlt2:(pre.length:Int) < m.words.length:=by omega
   obtain⟨hz1,hz2⟩:=HWL.out _ (show (⟨zo,zh,zk,zr,za,zc,zp⟩:Word) ∈ m.words by rw [hl];simp)
   obtain⟨m0,m14⟩:=HRM.out _ hx
   obtain⟨W1,hW1⟩:∃ W1,wr.alloc (.cells #[St zo,U zh,St zk,U zr,.bool za,U zc,.bool zp] 71)=W1:=⟨_,rfl⟩
   obtain⟨gs,hgs⟩:∃ gs,wr.heap.size=gs:=⟨_,rfl⟩
   have hx1:Ext wr W1:=hW1 ▸ (Ext.refl wr).alloc _
   have rz:RowIs W1 gs 71 [St zo,U zh,St zk,U zr,.bool za,U zc,.bool zp] []:=by rw [<- hW1,<- hgs];exact rowNew wr 71 [St zo,U zh,St zk,U zr,.bool za,U zc,.bool zp]
   have HSC:=Lib.hid (fun W (he:Ext W1 W)=>show W.cell? ⟨gs,0,none⟩=some (St zo)/\W.cell? ⟨gs,1,none⟩=some (U zh)/\W.cell? ⟨gs,2,none⟩=some (St zk)/\W.cell? ⟨gs,3,none⟩=some (U zr)/\W.cell? ⟨gs,4,none⟩=some (.bool za)/\W.cell? ⟨gs,5,none⟩=some (U zc)/\W.cell? ⟨gs,6,none⟩=some (.bool zp) from p7 (rz.ext he))
   have HW1:=Lib.hid (And.intro hW1 hgs)
   have HX1:=Lib.hid (hx.trans hx1)
   have HCM:=Lib.hid (fun (t:Word) (ht:t ∈ m.words) W=>refCmp_any t.of zo (HWL.out t ht).1 hz1 W)
   have HUN:=Lib.hid (fun W=>refUnderB_any zo zk hz1 W)
   have HL:=Lib.hid hl
   have HSP:=Lib.hid hs.out
   have s0:=(HSC.out W1 (Ext.refl _)).1
   clear hl hs hx hW1 hgs hx1 rz hz1 hz2
   go_upto_region 5 with fail
   rw [HW1.out.1,HW1.out.2]
   clear k0 k1 k2 k3 k4 k5 k6
   go_wp2_with fail
   refine (HOF.out _ HX1.out zo).mono ?_
   rintro e w3 ⟨a1,a2,rfl,hs1,hs2,hx3⟩
   obtain⟨E1,e1,rfl,-,-⟩:=hs1.form
   obtain⟨E2,e2,rfl,-,-⟩:=hs2.form
   clear hs1 hs2 s0 m0 m14
   have HX3:=Lib.hid hx3
   clear hx3
   generalize findP l zo=F
   obtain⟨y,is,hy,his⟩:∃ y is,F.getD mbr0=y/\F.isSome=is:=⟨_,_,rfl,rfl⟩
   rw [hy,his]
   clear hy his
   generalize y.gone.length=g1
   generalize y.words.length=g2
   obtain⟨W3,hW3⟩:∃ W3,w3.alloc (.cells #[St y.path,U8 y.status,I y.kids,I y.cut,U y.last,.slice E1 g1 e1,St y.plan.keeper,U y.plan.round,St y.plan.live,St y.plan.by_,U y.plan.cap,St y.plan.owner,U y.plan.base,.bool y.plan.done,.slice E2 g2 e2] 48)=W3:=⟨_,rfl⟩
   obtain⟨gy,hgy⟩:∃ gy,w3.heap.size=gy:=⟨_,rfl⟩
   have hxa:Ext w3 W3:=hW3 ▸ (Ext.refl w3).alloc _
   have y1:W3.cell? ⟨gy,1,none⟩=some (U8 y.status):=by rw [<- hW3,<- hgy];exact (rowNew w3 48 [St y.path,U8 y.status,I y.kids,I y.cut,U y.last,.slice E1 g1 e1,St y.plan.keeper,U y.plan.round,St y.plan.live,St y.plan.by_,U y.plan.cap,St y.plan.owner,U y.plan.base,.bool y.plan.done,.slice E2 g2 e2]).cell (j:=1) rfl
   have HW3:=Lib.hid (And.intro hW3 hgy)
   have HX31:=Lib.hid (HX3.out.trans hxa)
   have HX30:=Lib.hid (HX1.out.trans HX31.out)
   have HXA:=Lib.hid (HXB.out.trans HX30.out)
   clear hW3 hgy hxa
   unfold mbrV
   go_upto_region 6 with fail
   rw [HW3.out.1,HW3.out.2]
   go_cut [68] from 28 to 68 (fun s68 wx=>Ext W3 wx/\(s68=.bool true ∨ s68=.bool false/\Hid (SrtN Word.of (pre++[⟨zo,zh,zk,zr,za,zc,zp⟩]))))
   case first =>
    cases is with
    | false =>
     go_quiet (fail)
     go_wp2_with fail
     go_meet
     exact⟨(Ext.refl _).drewN _,.inl rfl⟩
    | true =>
    by_cases h4:y.status=4
    case neg =>
     have p1:((y.status:Int) == 4)=false:=by rw [beq_eq_false_iff_ne];omega
     have p1b:((y.status:Int) != 4)=true:=by unfold bne;rw [p1];rfl
     clear h4
     go_quiet (fail)
     go_wp2_with fail
     go_meet
     exact⟨(Ext.refl _).drewN _,.inl rfl⟩
    have p1:((y.status:Int) == 4)=true:=by rw [beq_iff_eq];omega
    have p1b:((y.status:Int) != 4)=false:=by unfold bne;rw [p1];rfl
    clear h4
    obtain⟨s0,s1,s2,s3,s4,s5,s6⟩:=HSC.out _ HX31.out
    obtain⟨m0,m14⟩:=HRM.out _ HX30.out
    by_cases h5:zo=m.path
    case pos =>
     have p2:(zo == m.path)=true:=by simpa using h5
     clear h5
     go_quiet (fail)
     go_wp2_with fail
     go_meet
     exact⟨(Ext.refl _).drewN _,.inl rfl⟩
    have p2:(zo == m.path)=false:=by simpa using h5
    clear h5
    by_cases h6:281474976710656 < zh
    case pos =>
     have a1:(zh:Int) > 281474976710656:=by omega
     have a2:281474976710656 < zh:=by omega
     have a3:decide ((zh:Int) > 281474976710656)=true:=decide_eq_true (by omega)
     have a4:decide (281474976710656 < zh)=true:=decide_eq_true (by omega)
     go_quiet (fail)
     go_wp2_with fail
     go_meet
     exact⟨(Ext.refl _).drewN _,.inl rfl⟩
    have a1:¬ (zh:Int) > 281474976710656:=by omega
    have a2:¬ 281474976710656 < zh:=by omega
    have a3:decide ((zh:Int) > 281474976710656)=false:=decide_eq_false (by omega)
    have a4:decide (281474976710656 < zh)=false:=decide_eq_false (by omega)
    by_cases h7:281474976710656 < zc
    case pos =>
     have b1:(zc:Int) > 281474976710656:=by omega
     have b2:281474976710656 < zc:=by omega
     have b3:decide ((zc:Int) > 281474976710656)=true:=decide_eq_true (by omega)
     have b4:decide (281474976710656 < zc)=true:=decide_eq_true (by omega)
     go_quiet (fail)
     go_wp2_with fail
     go_meet
     exact⟨(Ext.refl _).drewN _,.inl rfl⟩
    have b1:¬ (zc:Int) > 281474976710656:=by omega
    have b2:¬ 281474976710656 < zc:=by omega
    have b3:decide ((zc:Int) > 281474976710656)=false:=decide_eq_false (by omega)
    have b4:decide (281474976710656 < zc)=false:=decide_eq_false (by omega)
    clear h6 h7
    rcases List.eq_nil_or_concat pre with h8 | ⟨pre',t,h8⟩
    case inl =>
     subst h8
     go_quiet (fail)
     go_wp2_with fail
     go_meet
     exact⟨(Ext.refl _).drewN _,.inr ⟨rfl,Lib.hid (List.pairwise_singleton _ _)⟩⟩
    case inr =>
     rw [List.concat_eq_append] at h8
     subst h8
     obtain⟨b'',o'',he',p0,-⟩:=HWT.out pre' (⟨zo,zh,zk,zr,za,zc,zp⟩ :: post) t _ HX30.out (by rw [HL.out];simp)
     cases he'
     have htm:t ∈ m.words:=by rw [HL.out];simp
     have HCT:=Lib.hid (HCM.out t htm)
     obtain⟨cz,hcz⟩:∃ cz,cmpPath t.of zo=cz:=⟨_,rfl⟩
     rw [hcz] at HCT
     obtain⟨N0,hN0⟩:∃ N0,(pre'++[t]).length=N0:=⟨_,rfl⟩
     obtain⟨M0,hM0⟩:∃ M0,pre'.length=M0:=⟨_,rfl⟩
     have hNM:N0=M0+1:=by rw [<- hN0,<- hM0];simp
     rw [hN0] at hlt hlt2 ⊢
     rw [hM0] at p0
     have k0:(0:Int)<=M0:=by omega
     have k1:(M0:Int) < m.words.length:=by omega
     have k2:(N0:Int) > 0:=by omega
     have k3:0 < N0:=by omega
     have k3d:decide ((N0:Int) > 0)=true:=decide_eq_true k2
     have k4:IntKind.i64.wrap ((N0:Int) - 1)=M0:=by rw [show (N0:Int) - 1=M0 by omega];exact wrap_small _ (by omega) (by omega)
     have k8:((M0:Int)).toNat=M0:=by omega
     have HNM:=Lib.hid (And.intro hNM (And.intro hN0 hM0))
     have hw':w.heap.size=w.heap.size:=rfl
     clear hNM hN0 hM0 htm hw'
     obtain⟨Wd,hWd⟩:∃ Wd,W3.drew=Wd:=⟨_,rfl⟩
     have hxd:Ext W3 Wd:=hWd ▸ (Ext.refl W3).drew
     have s0:=hxd.cell s0
     have s1:=hxd.cell s1
     have s5:=hxd.cell s5
     have m0:=hxd.cell m0
     have m14:=hxd.cell m14
     have y1:=hxd.cell y1
     have p0:=hxd.cell p0
     have HWD:=Lib.hid hWd
     have HDX:=Lib.hid hxd
     have HCZ:=Lib.hid hcz
     clear hWd hxd hcz
     refine wp_region_still_tail 37 (by kernel_rfl) (by kernel_rfl) ?_
     simp only [List.take_succ_cons,List.take_zero,List.drop_succ_cons,List.drop_zero]
     change wpStill _ _ (W3).drew (fun a'=>wpList _ _ _ _ a' (W3).drew) _ _
     rw [HWD.out]
     generalize hA:Act.mk _ _=A0;repeat (refine wpStill_step (fun K2 hK2=>?_);subst hA;go_simp;(try rw [if_neg (by decide)]);generalize hA:Act.mk _ _=A0;refine hK2 A0 ?_;clear hK2 K2)
     refine wpStill_nil ?_
     subst hA
     by_cases hz:cz < 0
     case neg =>
      have z1:cz ≥ 0:=by omega
      have z2:decide (cz ≥ 0)=true:=decide_eq_true z1
      go_wp2_with fail
      refine (HCT.out _).mono ?_
      rintro e w5 ⟨rfl,hx5⟩
      go_wp2_with fail
      have hn0:=HNM.out.2.1
      subst hn0
      go_meet
      exact⟨HDX.out.trans hx5,.inl rfl⟩
     have z1:¬ cz ≥ 0:=by omega
     have z2:decide (cz ≥ 0)=false:=decide_eq_false z1
     have HSR:=Lib.hid (show SrtN Word.of (pre'++[t]++[⟨zo,zh,zk,zr,za,zc,zp⟩]) from srt_snoc HSP.out (by rw [HCZ.out];exact hz))
     go_wp2_with fail
     refine (HCT.out _).mono ?_
     rintro e wk ⟨rfl,hx5⟩
     go_wp2_with fail
     have hn0:=HNM.out.2.1
     subst hn0
     go_meet
     exact⟨HDX.out.trans hx5,.inr ⟨rfl,Lib.hid HSR.out⟩⟩
   case rest =>
   obtain⟨hxk,hres⟩:=hcut
   rcases hres with rfl | ⟨rfl,hsr⟩
   case inl =>
    go_wp2_with fail
    go_ret
    exact⟨.inl rfl,HXA.out.trans hxk⟩
   have HSK:=Lib.hid (HSC.out _ (HX31.out.trans hxk))
   have HXN:=Lib.hid (HX30.out.trans hxk)
   have HXK:=Lib.hid (HXA.out.trans hxk)
   have HXW:=Lib.hid (HX31.out.trans hxk)
   have HSR:=Lib.hid hsr.out
   clear hsr hxk y1
   generalize wc=wk at *
   go_upto_region 8 with fail
   go_cut [109] from 69 to 109 (fun s109 wx=>Ext wk wx/\(s109=.bool true ∨ s109=.bool false))
   case first =>
    obtain⟨s0,s1,s2,s3,s4,s5,s6⟩:=HSK.out
    cases za with
    | true =>
     cases zk with
     | nil =>
      by_cases h0:zr=0
      case pos =>
       subst zr
       go_wp2_with fail
       go_meet
       exact⟨Ext.refl _,.inr rfl⟩
      case neg =>
      have z1:¬ zr=0:=by omega
      have z2:((zr:Int) == 0)=false:=by rw [beq_eq_false_iff_ne];omega
      have z3:((zr:Int) != 0)=true:=by unfold bne;rw [z2];rfl
      go_wp2_with fail
      go_meet
      exact⟨Ext.refl _,.inl rfl⟩
     | cons kb kr =>
      have e0:((kb :: kr) != ([]:Str))=true:=by simp
      cases hu:decide ((kb :: kr) ∈ chainP zo)
      case true =>
       rw [hu] at HUN
       by_cases h1:zr < 1
       case pos =>
        obtain rfl:zr=0:=by omega
        go_wp2_with fail
        refine (HUN.out _).mono ?_
        rintro e w6 ⟨rfl,hx6⟩
        have t3:=(HSC.out _ (HXW.out.trans hx6)).2.2.2.1
        go_wp2_with fail
        go_meet
        exact⟨hx6,.inl rfl⟩
       case neg =>
       have r1:¬ (zr:Int) < 1:=by omega
       have r2:¬ zr < 1:=by omega
       have r3:decide ((zr:Int) < 1)=false:=decide_eq_false (by omega)
       have r4:decide (zr < 1)=false:=decide_eq_false (by omega)
       have r5:¬ zr=0:=by omega
       by_cases h2:281474976710656 < zr
       case pos =>
        have g1:(zr:Int) > 281474976710656:=by omega
        have g2:281474976710656 < zr:=by omega
        have g3:decide ((zr:Int) > 281474976710656)=true:=decide_eq_true (by omega)
        have g4:decide (281474976710656 < zr)=true:=decide_eq_true (by omega)
        go_wp2_with fail
        refine (HUN.out _).mono ?_
        rintro e w6 ⟨rfl,hx6⟩
        have t3:=(HSC.out _ (HXW.out.trans hx6)).2.2.2.1
        go_wp2_with fail
        go_meet
        exact⟨hx6,.inl rfl⟩
       case neg =>
       have g1:¬ (zr:Int) > 281474976710656:=by omega
       have g2:¬ 281474976710656 < zr:=by omega
       have g3:decide ((zr:Int) > 281474976710656)=false:=decide_eq_false (by omega)
       have g4:decide (281474976710656 < zr)=false:=decide_eq_false (by omega)
       go_wp2_with fail
       refine (HUN.out _).mono ?_
       rintro e w6 ⟨rfl,hx6⟩
       have t3:=(HSC.out _ (HXW.out.trans hx6)).2.2.2.1
       go_wp2_with fail
       go_meet
       exact⟨hx6,.inr rfl⟩
      case false =>
       rw [hu] at HUN
       go_wp2_with fail
       refine (HUN.out _).mono ?_
       rintro e w6 ⟨rfl,hx6⟩
       have t3:=(HSC.out _ (HXW.out.trans hx6)).2.2.2.1
       go_wp2_with fail
       go_meet
       exact⟨hx6,.inl rfl⟩
    | false =>
     by_cases hc0:zc=0
     case neg =>
      have c1:¬ zc=0:=by omega
      have c2:((zc:Int) == 0)=false:=by rw [beq_eq_false_iff_ne];omega
      have c3:((zc:Int) != 0)=true:=by unfold bne;rw [c2];rfl
      go_wp2_with fail
      go_meet
      exact⟨Ext.refl _,.inl rfl⟩
     case pos =>
     subst zc
     cases zk with
     | nil =>
      by_cases h0:zr=0
      case pos =>
       subst zr
       go_wp2_with fail
       go_meet
       exact⟨Ext.refl _,.inr rfl⟩
      case neg =>
      have z1:¬ zr=0:=by omega
      have z2:((zr:Int) == 0)=false:=by rw [beq_eq_false_iff_ne];omega
      have z3:((zr:Int) != 0)=true:=by unfold bne;rw [z2];rfl
      go_wp2_with fail
      go_meet
      exact⟨Ext.refl _,.inl rfl⟩
     | cons kb kr =>
      have e0:((kb :: kr) != ([]:Str))=true:=by simp
      cases hu:decide ((kb :: kr) ∈ chainP zo)
      case true =>
       rw [hu] at HUN
       by_cases h1:zr < 1
       case pos =>
        obtain rfl:zr=0:=by omega
        go_wp2_with fail
        refine (HUN.out _).mono ?_
        rintro e w6 ⟨rfl,hx6⟩
        have t3:=(HSC.out _ (HXW.out.trans hx6)).2.2.2.1
        go_wp2_with fail
        go_meet
        exact⟨hx6,.inl rfl⟩
       case neg =>
       have r1:¬ (zr:Int) < 1:=by omega
       have r2:¬ zr < 1:=by omega
       have r3:decide ((zr:Int) < 1)=false:=decide_eq_false (by omega)
       have r4:decide (zr < 1)=false:=decide_eq_false (by omega)
       have r5:¬ zr=0:=by omega
       by_cases h2:281474976710656 < zr
       case pos =>
        have g1:(zr:Int) > 281474976710656:=by omega
        have g2:281474976710656 < zr:=by omega
        have g3:decide ((zr:Int) > 281474976710656)=true:=decide_eq_true (by omega)
        have g4:decide (281474976710656 < zr)=true:=decide_eq_true (by omega)
        go_wp2_with fail
        refine (HUN.out _).mono ?_
        rintro e w6 ⟨rfl,hx6⟩
        have t3:=(HSC.out _ (HXW.out.trans hx6)).2.2.2.1
        go_wp2_with fail
        go_meet
        exact⟨hx6,.inl rfl⟩
       case neg =>
       have g1:¬ (zr:Int) > 281474976710656:=by omega
       have g2:¬ 281474976710656 < zr:=by omega
       have g3:decide ((zr:Int) > 281474976710656)=false:=decide_eq_false (by omega)
       have g4:decide (281474976710656 < zr)=false:=decide_eq_false (by omega)
       go_wp2_with fail
       refine (HUN.out _).mono ?_
       rintro e w6 ⟨rfl,hx6⟩
       have t3:=(HSC.out _ (HXW.out.trans hx6)).2.2.2.1
       go_wp2_with fail
       go_meet
       exact⟨hx6,.inr rfl⟩
      case false =>
       rw [hu] at HUN
       go_wp2_with fail
       refine (HUN.out _).mono ?_
       rintro e w6 ⟨rfl,hx6⟩
       have t3:=(HSC.out _ (HXW.out.trans hx6)).2.2.2.1
       go_wp2_with fail
       go_meet
       exact⟨hx6,.inl rfl⟩
   case rest =>
   obtain⟨hxl,hres⟩:=hcut
   rcases hres with rfl | rfl
   case inl =>
    go_wp2_with fail
    go_ret
    exact⟨.inl rfl,HXK.out.trans hxl⟩
   case inr =>
    go_wp2_with fail
    go_roundw
    case rel=>exact⟨pre++[⟨zo,zh,zk,zr,za,zc,zp⟩],post,by rw [HL.out];simp,by simp,Lib.hid HSR.out,HXN.out.trans hxl⟩
    case measure=>simp [intOf];omega
structure OneF (m:Mbr):Prop where
 may:mayP m.path=true
 st:m.status<=4
 kids:0<=m.kids
 cut:0<=m.cut
 gone:Sep m.gone
 words:SrtN Word.of m.words
theorem neq_plan0 (p:Plan) (w:World):(binOp .neq 45 (planV p) (planV plan0)).run Tryz.prog w=.ok (.bool (!decide (p=plan0))) w:=by
 have h:=eqIn_plan0 9997 p w
 unfold planV at h ⊢
 rw [run_neq_struct,show (10000:Nat)=9997+1+1+1 from rfl,h];rfl
theorem refOne_any {S S':Nat->Prop} {v v1 v2:Value} {l:List Mbr} {m:Mbr} {w:World} (hv:Sl mbrT w S v l) (hm1:Sl spanT w S' v1 m.gone) (hm2:Sl wordT w S' v2 m.words) (hw0:m.words.length<=1000000) (hwl:∀ s ∈ m.words,s.of.length < 1073741824/\s.keeper.length < 1073741824)
  (hpl:m.path.length < 1073741824) (hll:m.plan.live.length < 1073741824) (hgl:m.gone.length<=4294967296) :
  Calls Tryz.prog 34 #[v,mbrV m v1 v2] w fun e w'=>(e=.returned (.bool false) ∨ e=.returned (.bool true)/\OneF m)/\Ext w w':=by
 obtain⟨A1,c1',rfl,-,-⟩:=hm1.form
 obtain⟨A2,c2',rfl,-,-⟩:=hm2.form
 have hv0:=hv.mono (S':=fun b=>b < w.heap.size) (by decide) (fun b hb _=>hb)
 obtain⟨P0,c,rfl,-,-⟩:=hv.form
 have rB:=rowNew w 48 [St m.path,U8 m.status,I m.kids,I m.cut,U m.last,.slice A1 m.gone.length c1',St m.plan.keeper,U m.plan.round,St m.plan.live,St m.plan.by_,U m.plan.cap,St m.plan.owner,U m.plan.base,.bool m.plan.done,.slice A2 m.words.length c2']
 have xB:=(Ext.refl w).alloc (.cells #[St m.path,U8 m.status,I m.kids,I m.cut,U m.last,.slice A1 m.gone.length c1',St m.plan.keeper,U m.plan.round,St m.plan.live,St m.plan.by_,U m.plan.cap,St m.plan.owner,U m.plan.base,.bool m.plan.done,.slice A2 m.words.length c2'] 48)
 obtain⟨W0,hW0⟩:∃ W0,w.alloc (.cells #[St m.path,U8 m.status,I m.kids,I m.cut,U m.last,.slice A1 m.gone.length c1',St m.plan.keeper,U m.plan.round,St m.plan.live,St m.plan.by_,U m.plan.cap,St m.plan.owner,U m.plan.base,.bool m.plan.done,.slice A2 m.words.length c2'] 48)=W0:=⟨_,rfl⟩
 obtain⟨gm,hgm⟩:∃ gm,w.heap.size=gm:=⟨_,rfl⟩
 rw [hW0] at rB xB
 rw [hgm] at rB
 have HRM:=Lib.hid (fun W (he:Ext W0 W)=>(rB.ext he).c15)
 have HW0:=Lib.hid (And.intro hW0 hgm)
 have HOF:=Lib.hid (fun W (he:Ext W0 W) q=>refOf_any (hv0.ext (by decide) (xB.trans he)) q)
 have HMY:=Lib.hid (fun W=>refMayB_any m.path hpl W)
 have HPA:=Lib.hid (fun W=>refParentB_any m.path hpl W)
 have HNU:=Lib.hid (fun W=>refNumberB_any m.path hpl W)
 have HG1:=Lib.hid (fun W (he:Ext W0 W)=>hm1.ext (by decide) (xB.trans he))
 have HPL:=Lib.hid (fun W=>rplan_any m.plan.keeper m.plan.live m.plan.by_ m.plan.owner m.path m.plan.round m.plan.cap m.plan.base m.plan.done hpl hll W)
 have HWR:=Lib.hid (fun W (he:Ext W0 W)=>show Calls Tryz.prog 96 #[.slice P0 l.length c,.agg #[St m.path,U8 m.status,I m.kids,I m.cut,U m.last,.slice A1 m.gone.length c1',St m.plan.keeper,U m.plan.round,St m.plan.live,St m.plan.by_,U m.plan.cap,St m.plan.owner,U m.plan.base,.bool m.plan.done,.slice A2 m.words.length c2']] W _ from refWords_any (hv.ext (by decide) (xB.trans he)) (hm1.ext (by decide) (xB.trans he)) (hm2.ext (by decide) (xB.trans he)) hw0 hwl)
 have HVF:=Lib.hid (fun (hm:mayP m.path=true)=>And.intro (fun W (he:Ext W0 W)=>rvoid_any (hv.ext (by decide) (xB.trans he)) m.path hm (by omega)) (fun W (he:Ext W0 W)=>refForgot_any (hv.ext (by decide) (xB.trans he)) m.path hm (by omega)))
 have HXB:=Lib.hid xB
 clear hv hv0 hm1 hm2 rB xB hW0 hgm hwl hw0 hpl hll
 unfold mbrV
 go_enter Tryz.func34,Tryz.ntmps34
 obtain⟨m0,m1,m2,m3,m4,m5,m6,m7,m8,m9,m10,m11,m12,m13,m14⟩:=HRM.out _ (Ext.refl _)
 go_upto_region 1 with fail
 rw [HW0.out.1,HW0.out.2]
 go_cut [45] from 7 to 45 (fun s45 wx=>Ext W0 wx/\(s45=.bool true ∨ s45=.bool false/\mayP m.path=true/\m.status<=4/\0<=m.kids/\m.kids<=1073741824))
 case first =>
  go_wp2_with fail
  refine (HMY.out _).mono ?_
  rintro e w1 ⟨rfl,hx1⟩
  have HX1:=Lib.hid hx1
  clear m0 m1 m2 m3 m4 m5 m6 m7 m8 m9 m10 m11 m12 m13 m14
  clear hx1
  obtain⟨m0,m1,m2,m3,m4,m5,m6,m7,m8,m9,m10,m11,m12,m13,m14⟩:=HRM.out _ HX1.out
  cases hmp:mayP m.path
  case false =>
   go_wp2_with fail
   go_meet
   exact⟨HX1.out,.inl rfl⟩
  have HMP:=Lib.hid hmp
  clear hmp
  by_cases h1:m.status < 1
  case pos =>
   have a1:(m.status:Int) < 1:=by omega
   have a3:decide ((m.status:Int) < 1)=true:=decide_eq_true a1
   have HH1:=Lib.hid h1
   clear h1
   go_wp2_with fail
   go_meet
   exact⟨HX1.out,.inl rfl⟩
  have a1:¬ (m.status:Int) < 1:=by omega
  have a2:¬ m.status < 1:=by omega
  have a3:decide ((m.status:Int) < 1)=false:=decide_eq_false (by omega)
  have a4:decide (m.status < 1)=false:=decide_eq_false (by omega)
  have a5:¬ m.status=0:=by omega
  by_cases h2:4 < m.status
  case pos =>
   have b1:(m.status:Int) > 4:=by omega
   have b2:4 < m.status:=by omega
   have b3:decide ((m.status:Int) > 4)=true:=decide_eq_true (by omega)
   have b4:decide (4 < m.status)=true:=decide_eq_true (by omega)
   go_wp2_with fail
   go_meet
   exact⟨HX1.out,.inl rfl⟩
  have b1:¬ (m.status:Int) > 4:=by omega
  have b2:¬ 4 < m.status:=by omega
  have b3:decide ((m.status:Int) > 4)=false:=decide_eq_false (by omega)
  have b4:decide (4 < m.status)=false:=decide_eq_false (by omega)
  by_cases h3:m.kids < 0
  case pos =>
   have c1:m.kids < 0:=by omega
   have c3:decide (m.kids < 0)=true:=decide_eq_true c1
   go_wp2_with fail
   go_meet
   exact⟨HX1.out,.inl rfl⟩
  have c1:¬ m.kids < 0:=by omega
  have c3:decide (m.kids < 0)=false:=decide_eq_false c1
  have hk0:0<=m.kids:=by omega
  by_cases h4:m.kids > 1073741824
  case pos =>
   have d1:m.kids > 1073741824:=by omega
   have d3:decide (m.kids > 1073741824)=true:=decide_eq_true d1
   go_wp2_with fail
   go_meet
   exact⟨HX1.out,.inl rfl⟩
  have d1:¬ m.kids > 1073741824:=by omega
  have d3:decide (m.kids > 1073741824)=false:=decide_eq_false d1
  have hk1:m.kids<=1073741824:=by omega
  by_cases h5:281474976710656 < m.last
  case pos =>
   have l1:(m.last:Int) > 281474976710656:=by omega
   have l2:281474976710656 < m.last:=by omega
   have l3:decide ((m.last:Int) > 281474976710656)=true:=decide_eq_true (by omega)
   have l4:decide (281474976710656 < m.last)=true:=decide_eq_true (by omega)
   go_wp2_with fail
   go_meet
   exact⟨HX1.out,.inl rfl⟩
  have l1:¬ (m.last:Int) > 281474976710656:=by omega
  have l2:¬ 281474976710656 < m.last:=by omega
  have l3:decide ((m.last:Int) > 281474976710656)=false:=decide_eq_false (by omega)
  have l4:decide (281474976710656 < m.last)=false:=decide_eq_false (by omega)
  by_cases h6:m.status < 3
  case pos =>
   have f1:(m.status:Int) < 3:=by omega
   have f2:m.status < 3:=by omega
   have f3:decide ((m.status:Int) < 3)=true:=decide_eq_true (by omega)
   have f4:decide (m.status < 3)=true:=decide_eq_true (by omega)
   by_cases h7:0 < m.last
   case pos =>
    have g1:(m.last:Int) > 0:=by omega
    have g2:0 < m.last:=by omega
    have g3:decide ((m.last:Int) > 0)=true:=decide_eq_true (by omega)
    have g4:decide (0 < m.last)=true:=decide_eq_true (by omega)
    have g5:¬ m.last=0:=by omega
    go_wp2_with fail
    go_meet
    exact⟨HX1.out,.inl rfl⟩
   have g1:¬ (m.last:Int) > 0:=by omega
   have g3:decide ((m.last:Int) > 0)=false:=decide_eq_false g1
   have g4:¬ 0 < m.last:=h7
   go_wp2_with fail
   go_meet
   exact⟨HX1.out,.inr ⟨rfl,HMP.out,by omega,hk0,hk1⟩⟩
  case neg =>
   have f1:¬ (m.status:Int) < 3:=by omega
   have f2:¬ m.status < 3:=by omega
   have f3:decide ((m.status:Int) < 3)=false:=decide_eq_false (by omega)
   have f4:decide (m.status < 3)=false:=decide_eq_false (by omega)
   go_wp2_with fail
   go_meet
   exact⟨HX1.out,.inr ⟨rfl,HMP.out,by omega,hk0,hk1⟩⟩
 case rest =>
 obtain⟨hx1,hres⟩:=hcut
 rcases hres with rfl | ⟨rfl,hmp,hst,hk0,hk1⟩
 case inl =>
  go_wp2_with fail
  go_ret
  exact⟨.inl rfl,HXB.out.trans hx1⟩
 generalize wc=w1 at *
 have HX1:=Lib.hid hx1
 have HMP:=Lib.hid hmp
 obtain⟨HVO,HFO⟩:=HVF.out hmp
 have HVO:=Lib.hid HVO
 have HFO:=Lib.hid HFO
 clear m0 m1 m2 m3 m4 m5 m6 m7 m8 m9 m10 m11 m12 m13 m14
 clear hmp HVF hx1
 obtain⟨m0,m1,m2,m3,m4,m5,m6,m7,m8,m9,m10,m11,m12,m13,m14⟩:=HRM.out _ HX1.out
 go_upto_region 3 with fail
 go_cut [79] from 46 to 79 (fun s79 wx=>Ext w1 wx/\(s79=.bool true ∨ s79=.bool false/\0<=m.cut))
 case first =>
  by_cases h8:m.cut < 0
  case pos =>
   have k1:m.cut < 0:=by omega
   have k3:decide (m.cut < 0)=true:=decide_eq_true k1
   go_wp2_with fail
   go_meet
   exact⟨Ext.refl _,.inl rfl⟩
  have k1:¬ m.cut < 0:=by omega
  have k3:decide (m.cut < 0)=false:=decide_eq_false k1
  have HCUT:=Lib.hid (show 0<=m.cut by omega)
  by_cases h9:m.cut > 1073741825
  case pos =>
   have n1:m.cut > 1073741825:=by omega
   have n3:decide (m.cut > 1073741825)=true:=decide_eq_true n1
   go_wp2_with fail
   go_meet
   exact⟨Ext.refl _,.inl rfl⟩
  have n1:¬ m.cut > 1073741825:=by omega
  have n3:decide (m.cut > 1073741825)=false:=decide_eq_false n1
  clear h8 h9
  have CALL:=Lib.hid (HVO.out _ HX1.out)
  generalize vcB l m.path=vb at CALL
  by_cases hs4:m.status=4
  case neg =>
   have p1:((m.status:Int) == 4)=false:=by rw [beq_eq_false_iff_ne];omega
   have p1b:((m.status:Int) != 4)=true:=by unfold bne;rw [p1];rfl
   clear hs4
   by_cases hA:m.cut > 0
   case pos =>
    have q1:m.cut > 0:=by omega
    have q3:decide (m.cut > 0)=true:=decide_eq_true q1
    go_wp2_with fail
    go_meet
    exact⟨Ext.refl _,.inl rfl⟩
   have q1:¬ m.cut > 0:=by omega
   have q3:decide (m.cut > 0)=false:=decide_eq_false q1
   cases vb with
   | true =>
    go_wp2_with fail
    refine CALL.out.mono ?_
    rintro e w2 ⟨rfl,hx2⟩
    clear m0 m1 m2 m3 m4 m5 m6 m7 m8 m9 m10 m11 m12 m13 m14
    obtain⟨m0,m1,m2,m3,m4,m5,m6,m7,m8,m9,m10,m11,m12,m13,m14⟩:=HRM.out _ (HX1.out.trans hx2)
    go_wp2_with fail
    go_meet
    exact⟨hx2,.inl rfl⟩
   | false =>
    go_wp2_with fail
    refine CALL.out.mono ?_
    rintro e w2 ⟨rfl,hx2⟩
    clear m0 m1 m2 m3 m4 m5 m6 m7 m8 m9 m10 m11 m12 m13 m14
    obtain⟨m0,m1,m2,m3,m4,m5,m6,m7,m8,m9,m10,m11,m12,m13,m14⟩:=HRM.out _ (HX1.out.trans hx2)
    go_wp2_with fail
    go_meet
    exact⟨hx2,.inr ⟨rfl,HCUT.out⟩⟩
  case pos =>
   have p1:((m.status:Int) == 4)=true:=by rw [beq_iff_eq];omega
   have p1b:((m.status:Int) != 4)=false:=by unfold bne;rw [p1];rfl
   clear hs4
   by_cases hB:m.cut=1
   case pos =>
    have u1:(m.cut == 1)=true:=by rw [beq_iff_eq];exact hB
    have u2:(m.cut != 1)=false:=by unfold bne;rw [u1];rfl
    have q1:m.cut > 0:=by omega
    have q3:decide (m.cut > 0)=true:=decide_eq_true q1
    clear hB
    cases vb <;>
    ·go_wp2_with fail
     refine CALL.out.mono ?_
     rintro e w2 ⟨rfl,hx2⟩
     clear m0 m1 m2 m3 m4 m5 m6 m7 m8 m9 m10 m11 m12 m13 m14
     obtain⟨m0,m1,m2,m3,m4,m5,m6,m7,m8,m9,m10,m11,m12,m13,m14⟩:=HRM.out _ (HX1.out.trans hx2)
     go_wp2_with fail
     go_meet
     exact⟨hx2,.inr ⟨rfl,HCUT.out⟩⟩
   case neg =>
    have u1:(m.cut == 1)=false:=by rw [beq_eq_false_iff_ne];exact hB
    have u2:(m.cut != 1)=true:=by unfold bne;rw [u1];rfl
    clear hB
    by_cases hA:m.cut > 0
    case pos =>
     have q1:m.cut > 0:=by omega
     have q3:decide (m.cut > 0)=true:=decide_eq_true q1
     clear hA
     cases vb with
     | true =>
      go_wp2_with fail
      refine CALL.out.mono ?_
      rintro e w2 ⟨rfl,hx2⟩
      clear m0 m1 m2 m3 m4 m5 m6 m7 m8 m9 m10 m11 m12 m13 m14
      obtain⟨m0,m1,m2,m3,m4,m5,m6,m7,m8,m9,m10,m11,m12,m13,m14⟩:=HRM.out _ (HX1.out.trans hx2)
      go_wp2_with fail
      go_meet
      exact⟨hx2,.inl rfl⟩
     | false =>
      go_wp2_with fail
      refine CALL.out.mono ?_
      rintro e w2 ⟨rfl,hx2⟩
      clear m0 m1 m2 m3 m4 m5 m6 m7 m8 m9 m10 m11 m12 m13 m14
      obtain⟨m0,m1,m2,m3,m4,m5,m6,m7,m8,m9,m10,m11,m12,m13,m14⟩:=HRM.out _ (HX1.out.trans hx2)
      go_wp2_with fail
      go_meet
      exact⟨hx2,.inr ⟨rfl,HCUT.out⟩⟩
    case neg =>
     have q1:¬ m.cut > 0:=by omega
     have q3:decide (m.cut > 0)=false:=decide_eq_false q1
     clear hA
     cases vb with
     | true =>
      go_wp2_with fail
      refine CALL.out.mono ?_
      rintro e w2 ⟨rfl,hx2⟩
      clear m0 m1 m2 m3 m4 m5 m6 m7 m8 m9 m10 m11 m12 m13 m14
      obtain⟨m0,m1,m2,m3,m4,m5,m6,m7,m8,m9,m10,m11,m12,m13,m14⟩:=HRM.out _ (HX1.out.trans hx2)
      go_wp2_with fail
      go_meet
      exact⟨hx2,.inl rfl⟩
     | false =>
      go_wp2_with fail
      refine CALL.out.mono ?_
      rintro e w2 ⟨rfl,hx2⟩
      clear m0 m1 m2 m3 m4 m5 m6 m7 m8 m9 m10 m11 m12 m13 m14
      obtain⟨m0,m1,m2,m3,m4,m5,m6,m7,m8,m9,m10,m11,m12,m13,m14⟩:=HRM.out _ (HX1.out.trans hx2)
      go_wp2_with fail
      go_meet
      exact⟨hx2,.inr ⟨rfl,HCUT.out⟩⟩
 case rest =>
 obtain⟨hx2,hres⟩:=hcut
 rcases hres with rfl | ⟨rfl,hcu⟩
 case inl =>
  go_wp2_with fail
  go_ret
  exact⟨.inl rfl,(HXB.out.trans HX1.out).trans hx2⟩
 generalize wc=w2 at *
 have HCUT:=Lib.hid hcu
 have HX2:=Lib.hid (HX1.out.trans hx2)
 clear m0 m1 m2 m3 m4 m5 m6 m7 m8 m9 m10 m11 m12 m13 m14
 clear hcu hx2
 obtain⟨m0,m1,m2,m3,m4,m5,m6,m7,m8,m9,m10,m11,m12,m13,m14⟩:=HRM.out _ HX2.out
 have HSP:=Lib.hid (rspans_any (HG1.out _ HX2.out) hk0 hk1 hgl)
 obtain⟨sb,hsb⟩:∃ sb,chkF (goneOk m.kids) goneLe none m.gone=sb:=⟨_,rfl⟩
 rw [hsb] at HSP
 have HSB:=Lib.hid hsb
 clear hsb
 go_upto_region 5 with fail
 go_cut [116] from 80 to 116 (fun s116 wx=>Ext w2 wx/\(s116=.bool true ∨ s116=.bool false/\OneF m))
 case first =>
  by_cases hs4:m.status=4
  case neg =>
   have p1:((m.status:Int) == 4)=false:=by rw [beq_eq_false_iff_ne];omega
   have p1b:((m.status:Int) != 4)=true:=by unfold bne;rw [p1];rfl
   clear hs4
   go_wp2_with fail
   refine HSP.out.mono ?_
   rintro e w3 ⟨rfl,hx3⟩
   have HX3:=Lib.hid (HX2.out.trans hx3)
   have HXD:=Lib.hid hx3
   clear m0 m1 m2 m3 m4 m5 m6 m7 m8 m9 m10 m11 m12 m13 m14
   clear hx3
   obtain⟨m0,m1,m2,m3,m4,m5,m6,m7,m8,m9,m10,m11,m12,m13,m14⟩:=HRM.out _ HX3.out
   cases sb
   case false =>
    go_wp2_with fail
    go_meet
    exact⟨HXD.out,.inl rfl⟩
   case' true =>
   obtain⟨pz,hpz⟩:∃ pz,decide (m.plan=plan0)=pz:=⟨_,rfl⟩
   have HQ1:∀ w,(binOp .neq 45 (.agg #[St m.plan.keeper,U m.plan.round,St m.plan.live,St m.plan.by_,U m.plan.cap,St m.plan.owner,U m.plan.base,.bool m.plan.done]) (.agg #[.string ⟨#[]⟩,.int .u64 0,.string ⟨#[]⟩,.string ⟨#[]⟩,.int .u64 0,.string ⟨#[]⟩,.int .u64 0,.bool false])).run Tryz.prog w=.ok (.bool (!pz)) w:=by rw [<- hpz];exact neq_plan0 m.plan
   clear hpz
   cases pz
   case false =>
    simp only [Bool.not_false] at HQ1
    go_wp2_with fail
    go_meet
    exact⟨HXD.out,.inl rfl⟩
   case' true =>
   simp only [Bool.not_true] at HQ1
   go_wp2_with fail
   refine (HPL.out _).mono ?_
   rintro e w4 ⟨hb,hx4⟩
   have HX4:=Lib.hid (HX3.out.trans hx4)
   have HXE:=Lib.hid (HXD.out.trans hx4)
   clear m0 m1 m2 m3 m4 m5 m6 m7 m8 m9 m10 m11 m12 m13 m14
   clear hx4 HQ1
   obtain⟨m0,m1,m2,m3,m4,m5,m6,m7,m8,m9,m10,m11,m12,m13,m14⟩:=HRM.out _ HX4.out
   rcases hb with rfl | rfl
   case inr =>
    go_wp2_with fail
    go_meet
    exact⟨HXE.out,.inl rfl⟩
   have HWO:=Lib.hid (HWR.out _ HX4.out)
   go_wp2_with fail
   refine HWO.out.mono ?_
   rintro e w5 ⟨hb,hx5⟩
   have HX5:=Lib.hid (HX4.out.trans hx5)
   have HXF:=Lib.hid (HXE.out.trans hx5)
   clear m0 m1 m2 m3 m4 m5 m6 m7 m8 m9 m10 m11 m12 m13 m14
   clear hx5
   obtain⟨m0,m1,m2,m3,m4,m5,m6,m7,m8,m9,m10,m11,m12,m13,m14⟩:=HRM.out _ HX5.out
   rcases hb with rfl | ⟨rfl,hsw⟩
   case inl =>
    go_wp2_with fail
    go_meet
    exact⟨HXF.out,.inl rfl⟩
   have HONE:=Lib.hid (show OneF m from ⟨HMP.out,hst,hk0,HCUT.out,gone_sep0 HSB.out,hsw⟩)
   clear hsw
   have HFB:=Lib.hid (HFO.out _ HX5.out)
   generalize forgottenM l m.path=fb at HFB
   go_wp2_with fail
   refine HFB.out.mono ?_
   rintro e w6 ⟨rfl,hx6⟩
   clear m0 m1 m2 m3 m4 m5 m6 m7 m8 m9 m10 m11 m12 m13 m14
   cases fb
   case true =>
    go_wp2_with fail
    go_meet
    exact⟨HXF.out.trans hx6,.inl rfl⟩
   case false =>
    go_wp2_with fail
    go_meet
    exact⟨HXF.out.trans hx6,.inr ⟨rfl,HONE.out⟩⟩
  case pos =>
   have p1:((m.status:Int) == 4)=true:=by rw [beq_iff_eq];omega
   have p1b:((m.status:Int) != 4)=false:=by unfold bne;rw [p1];rfl
   clear hs4
   go_wp2_with fail
   refine HSP.out.mono ?_
   rintro e w3 ⟨rfl,hx3⟩
   have HX3:=Lib.hid (HX2.out.trans hx3)
   have HXD:=Lib.hid hx3
   clear m0 m1 m2 m3 m4 m5 m6 m7 m8 m9 m10 m11 m12 m13 m14
   clear hx3
   obtain⟨m0,m1,m2,m3,m4,m5,m6,m7,m8,m9,m10,m11,m12,m13,m14⟩:=HRM.out _ HX3.out
   cases sb
   case false =>
    go_wp2_with fail
    go_meet
    exact⟨HXD.out,.inl rfl⟩
   case' true =>
   go_wp2_with fail
   refine (HPL.out _).mono ?_
   rintro e w4 ⟨hb,hx4⟩
   have HX4:=Lib.hid (HX3.out.trans hx4)
   have HXE:=Lib.hid (HXD.out.trans hx4)
   clear m0 m1 m2 m3 m4 m5 m6 m7 m8 m9 m10 m11 m12 m13 m14
   clear hx4
   obtain⟨m0,m1,m2,m3,m4,m5,m6,m7,m8,m9,m10,m11,m12,m13,m14⟩:=HRM.out _ HX4.out
   rcases hb with rfl | rfl
   case inr =>
    go_wp2_with fail
    go_meet
    exact⟨HXE.out,.inl rfl⟩
   have HWO:=Lib.hid (HWR.out _ HX4.out)
   go_wp2_with fail
   refine HWO.out.mono ?_
   rintro e w5 ⟨hb,hx5⟩
   have HX5:=Lib.hid (HX4.out.trans hx5)
   have HXF:=Lib.hid (HXE.out.trans hx5)
   clear m0 m1 m2 m3 m4 m5 m6 m7 m8 m9 m10 m11 m12 m13 m14
   clear hx5
   obtain⟨m0,m1,m2,m3,m4,m5,m6,m7,m8,m9,m10,m11,m12,m13,m14⟩:=HRM.out _ HX5.out
   rcases hb with rfl | ⟨rfl,hsw⟩
   case inl =>
    go_wp2_with fail
    go_meet
    exact⟨HXF.out,.inl rfl⟩
   have HONE:=Lib.hid (show OneF m from ⟨HMP.out,hst,hk0,HCUT.out,gone_sep0 HSB.out,hsw⟩)
   clear hsw
   have HFB:=Lib.hid (HFO.out _ HX5.out)
   generalize forgottenM l m.path=fb at HFB
   go_wp2_with fail
   refine HFB.out.mono ?_
   rintro e w6 ⟨rfl,hx6⟩
   clear m0 m1 m2 m3 m4 m5 m6 m7 m8 m9 m10 m11 m12 m13 m14
   cases fb
   case true =>
    go_wp2_with fail
    go_meet
    exact⟨HXF.out.trans hx6,.inl rfl⟩
   case false =>
    go_wp2_with fail
    go_meet
    exact⟨HXF.out.trans hx6,.inr ⟨rfl,HONE.out⟩⟩
 case rest =>
 obtain⟨hx6,hres⟩:=hcut
 rcases hres with rfl | ⟨rfl,hone⟩
 case inl =>
  go_wp2_with fail
  go_ret
  exact⟨.inl rfl,(HXB.out.trans HX2.out).trans hx6⟩
 generalize wc=w6 at *
 have HONE:=Lib.hid hone
 have HX6:=Lib.hid (HX2.out.trans hx6)
 have HXG:=Lib.hid ((HXB.out.trans HX2.out).trans hx6)
 clear m0 m1 m2 m3 m4 m5 m6 m7 m8 m9 m10 m11 m12 m13 m14
 clear hone hx6
 obtain⟨m0,m1,m2,m3,m4,m5,m6,m7,m8,m9,m10,m11,m12,m13,m14⟩:=HRM.out _ HX6.out
 by_cases hpf:m.path = [49]
 case pos =>
  have v1:(m.path == [49])=true:=by simpa using hpf
  by_cases hs2:m.status<=2
  case pos =>
   have x1:(m.status:Int)<=2:=by omega
   have x2:decide ((m.status:Int)<=2)=true:=decide_eq_true x1
   have x3:decide (m.status<=2)=true:=decide_eq_true hs2
   go_wp2_with fail
   go_ret
   exact⟨.inr ⟨rfl,HONE.out⟩,HXG.out⟩
  case neg =>
   have x1:¬ (m.status:Int)<=2:=by omega
   have x2:decide ((m.status:Int)<=2)=false:=decide_eq_false x1
   have x3:decide (m.status<=2)=false:=decide_eq_false hs2
   go_wp2_with fail
   go_ret
   exact⟨.inl rfl,HXG.out⟩
 have v1:(m.path == [49])=false:=by simpa using hpf
 clear hpf
 go_wp2_with fail
 refine (HPA.out _).mono ?_
 rintro e w7 ⟨rfl,hx7⟩
 have HX7:=Lib.hid (HX6.out.trans hx7)
 have HXH:=Lib.hid (HXG.out.trans hx7)
 clear m0 m1 m2 m3 m4 m5 m6 m7 m8 m9 m10 m11 m12 m13 m14
 clear hx7
 go_wp2_with fail
 refine (HOF.out _ HX7.out _).mono ?_
 rintro e w8 ⟨a1,a2,rfl,hs1,hs2,hx8⟩
 obtain⟨E1,e1,rfl,-,-⟩:=hs1.form
 obtain⟨E2,e2,rfl,-,-⟩:=hs2.form
 have HX8:=Lib.hid (HX7.out.trans hx8)
 have HXI:=Lib.hid (HXH.out.trans hx8)
 clear hs1 hs2 hx8
 generalize findP l (parP m.path)=F
 obtain⟨y,is,hy,his⟩:∃ y is,F.getD mbr0=y/\F.isSome=is:=⟨_,_,rfl,rfl⟩
 rw [hy,his]
 clear hy his
 generalize y.gone.length=g1
 generalize y.words.length=g2
 obtain⟨W9,hW9⟩:∃ W9,w8.alloc (.cells #[St y.path,U8 y.status,I y.kids,I y.cut,U y.last,.slice E1 g1 e1,St y.plan.keeper,U y.plan.round,St y.plan.live,St y.plan.by_,U y.plan.cap,St y.plan.owner,U y.plan.base,.bool y.plan.done,.slice E2 g2 e2] 48)=W9:=⟨_,rfl⟩
 obtain⟨gy,hgy⟩:∃ gy,w8.heap.size=gy:=⟨_,rfl⟩
 have hxa:Ext w8 W9:=hW9 ▸ (Ext.refl w8).alloc _
 have y2:W9.cell? ⟨gy,2,none⟩=some (I y.kids):=by rw [<- hW9,<- hgy];exact (rowNew w8 48 [St y.path,U8 y.status,I y.kids,I y.cut,U y.last,.slice E1 g1 e1,St y.plan.keeper,U y.plan.round,St y.plan.live,St y.plan.by_,U y.plan.cap,St y.plan.owner,U y.plan.base,.bool y.plan.done,.slice E2 g2 e2]).cell (j:=2) rfl
 have HW9:=Lib.hid (And.intro hW9 hgy)
 have HX9:=Lib.hid (HX8.out.trans hxa)
 have HXJ:=Lib.hid (HXI.out.trans hxa)
 clear hW9 hgy hxa
 have m0:=(HRM.out _ HX9.out).1
 unfold mbrV
 go_upto_region 10 with fail
 rw [HW9.out.1,HW9.out.2]
 cases is
 case false =>
  go_quiet (fail)
  go_wp2_with fail
  go_ret
  exact⟨.inl rfl,HXJ.out.drewN _⟩
 case true =>
 obtain⟨np,hnp⟩:∃ np,(numP m.path:Int)=np:=⟨_,rfl⟩
 have HNQ:=HNU
 rw [hnp] at HNQ
 clear hnp
 go_region_held3 (fun W=>W.cell? ⟨gm,0,none⟩=some (St m.path)/\W.cell? ⟨gy,2,none⟩=some (I y.kids)/\Ext W9 W) (first | exact⟨m0,y2,(Ext.refl _).drew⟩ | exact⟨hb1.cell ‹_/\_/\Ext W9 _›.1,hb1.cell ‹_/\_/\Ext W9 _›.2.1,‹_/\_/\Ext W9 _›.2.2.trans hb1⟩) (first | (go_at_call 81;refine (HNQ.out _).mono ?_;rintro e w6 ⟨rfl,hb1⟩))
 have hX:=(‹_/\_/\Ext W9 _›).2.2
 by_cases hnk:np<=y.kids
 case pos =>
  have x2:decide (np<=y.kids)=true:=decide_eq_true hnk
  go_wp2_with fail
  go_ret
  exact⟨.inr ⟨by first | rfl | (simp [x2]),HONE.out⟩,HXJ.out.trans hX⟩
 case neg =>
  have x2:decide (np<=y.kids)=false:=decide_eq_false hnk
  go_wp2_with fail
  go_ret
  exact⟨.inl (by first | rfl | (simp [x2])),HXJ.out.trans hX⟩
structure MayR (l:List Mbr):Prop where
 pos:0 < l.length
 len:l.length<=24
 srt:SrtM l
 one:∀ x ∈ l,OneF x
theorem MayR.good {l:List Mbr} (h:MayR l):GoodL l:=⟨h.srt,fun x hx=>(h.one x hx).may,fun x hx=>(h.one x hx).st,fun x hx=>(h.one x hx).cut⟩
theorem MayR.nice {l:List Mbr} (h:MayR l):∀ x ∈ l,NiceM x:=fun x hx=>⟨(h.one x hx).gone,(h.one x hx).words,(h.one x hx).cut⟩
theorem srtM_snoc {l:List Mbr} {t z:Mbr} (h:SrtM (l++[t])) (hz:cmpPath t.path z.path < 0):SrtM (l++[t]++[z]):=by
 refine List.pairwise_append.2 ⟨h,List.pairwise_singleton _ _,fun x hx y hy=>?_⟩
 rw [List.mem_singleton.1 hy]
 rcases List.mem_append.1 hx with h1 | h1
 ·exact cmpPath_trans ((List.pairwise_append.1 h).2.2 x h1 t (by simp)) hz
 ·rw [List.mem_singleton.1 h1];exact hz
theorem refMay20_any {S:Nat->Prop} {v:Value} {l:List Mbr} {w:World} (hv:Sl mbrT w S v l) (hl0:l.length<=1000000) (hw0:∀ m ∈ l,m.words.length<=1000000) (hwl:∀ m ∈ l,∀ s ∈ m.words,s.of.length < 1073741824/\s.keeper.length < 1073741824)
  (hpl:∀ m ∈ l,m.path.length < 1073741824) (hll:∀ m ∈ l,m.plan.live.length < 1073741824) (hgl:∀ m ∈ l,m.gone.length<=4294967296) :
  Calls Tryz.prog 9 #[v] w fun e w'=>(e=.returned (.bool false) ∨ e=.returned (.bool true)/\MayR l)/\Ext w w':=by
 obtain⟨P0,c,rfl,-,-⟩:=hv.form
 have HAT:=Lib.hid (fun (pre post:List Mbr) (x:Mbr) (hl:l=pre++x :: post)=>mbr_at (wr:=w) hv (fun b _ hb=>rfl) hl)
 have HONE:=Lib.hid (fun W (he:Ext w W) (x:Mbr) (hx:x ∈ l) (S2:Nat->Prop) v1 v2 (h1:Sl spanT W S2 v1 x.gone) (h2:Sl wordT W S2 v2 x.words)=>refOne_any (hv.ext (by decide) he) h1 h2 (hw0 x hx) (hwl x hx) (hpl x hx) (hll x hx) (hgl x hx))
 have HCM:=Lib.hid (fun (t x:Mbr) (ht:t ∈ l) (hx:x ∈ l) W=>refCmp_any t.path x.path (hpl t ht) (hpl x hx) W)
 clear hv hw0 hwl hpl hll hgl
 go_enter Tryz.func9,Tryz.ntmps9
 by_cases hp0:l.length < 1
 case pos =>
  have a1:(l.length:Int) < 1:=by omega
  have a2:decide ((l.length:Int) < 1)=true:=decide_eq_true a1
  have a3:l.length=0:=by omega
  have a4:decide (l.length < 1)=true:=decide_eq_true hp0
  have a5:l = []:=List.eq_nil_of_length_eq_zero a3
  clear HAT HONE HCM
  subst a5
  go_wp2_with fail
  go_ret
  exact⟨.inl rfl,Ext.refl _⟩
 have a1:¬ (l.length:Int) < 1:=by omega
 have a2:decide ((l.length:Int) < 1)=false:=decide_eq_false a1
 have a4:decide (l.length < 1)=false:=decide_eq_false hp0
 have a5:¬ l.length=0:=by omega
 by_cases hp1:24 < l.length
 case pos =>
  have b1:(l.length:Int) > 24:=by omega
  have b2:decide ((l.length:Int) > 24)=true:=decide_eq_true b1
  have b4:decide (24 < l.length)=true:=decide_eq_true hp1
  go_wp2_with fail
  go_ret
  exact⟨.inl rfl,Ext.refl _⟩
 have b1:¬ (l.length:Int) > 24:=by omega
 have b2:decide ((l.length:Int) > 24)=false:=decide_eq_false b1
 have b4:decide (24 < l.length)=false:=decide_eq_false hp1
 obtain⟨x0,r0,hl00⟩:∃ x0 r0,l=x0 :: r0:=by
  cases l with
  | nil=>simp at hp0
  | cons x0 r0=>exact⟨x0,r0,rfl⟩
 obtain⟨b,o,B1,d1,B2,d2,rfl,-,-,-,hc0⟩:=HAT.out [] r0 x0 hl00
 have c0:=hc0 0 _ rfl
 simp only [List.length_nil,Nat.zero_mul,Nat.add_zero] at c0
 have hlp:(0:Int) < l.length:=by omega
 have hlp2:0 < l.length:=by omega
 have HL24:=Lib.hid (show l.length<=24 by omega)
 clear hl00 hc0 hp0 hp1
 by_cases hf:x0.path = [49]
 case neg =>
  have e1:(x0.path == [49])=false:=by simpa using hf
  have e2:(x0.path != [49])=true:=by unfold bne;rw [e1];rfl
  go_wp2_with fail
  go_ret
  exact⟨.inl rfl,Ext.refl _⟩
 have e1:(x0.path == [49])=true:=by simpa using hf
 have e2:(x0.path != [49])=false:=by unfold bne;rw [e1];rfl
 clear hf
 go_wp2_with fail
 clear a1 a2 a4 a5 b1 b2 b4 e1 e2 c0 hlp
 go_loopw [3] (fun iv wr=>∃ pre post,l=pre++post/\iv=I pre.length/\Hid (SrtM pre/\∀ x ∈ pre,OneF x)/\Ext w wr) (fun i _=>l.length - (intOf i).toNat)
 case atStart=>exact⟨[],l,rfl,rfl,Lib.hid ⟨List.Pairwise.nil,by simp⟩,Ext.refl _⟩
 case round =>
  obtain⟨pre,post,hl,rfl,hs,hx⟩:=hrel
  have HX:=Lib.hid hx
  cases post with
  | nil =>
   rw [List.append_nil] at hl
   have HM:=Lib.hid (show MayR l from ⟨hlp2,HL24.out,by rw [hl];exact hs.out.1,by rw [hl];exact hs.out.2⟩)
   have hge:¬ (pre.length:Int) < l.length:=by rw [hl];omega
   clear hl hs hx
   go_wp2_with fail
   go_ret
   exact⟨.inr ⟨rfl,HM.out⟩,HX.out⟩
  | cons x post =>
   obtain⟨b',o',B1',d1,B2,d2,he',-,hs1,hs2,hc⟩:=HAT.out pre post x hl
   cases he'
   have hlt:pre.length < l.length:=by rw [hl];simp
   have hlt2:(pre.length:Int) < l.length:=by omega
   have hxl:x ∈ l:=by rw [hl];simp
   obtain⟨Wd,hWd⟩:∃ Wd,wr.drew=Wd:=⟨_,rfl⟩
   have hdx:Ext wr Wd:=hWd ▸ (Ext.refl wr).drew
   have HC:=Lib.hid (fun W (he:Ext w W)=>mbr_c15 (fun j u hj=>he.cell (hc j u hj)))
   have HDX:=Lib.hid (hx.trans hdx)
   have HON:=Lib.hid (show Calls Tryz.prog 34 #[.slice (some ⟨b,o,none⟩) l.length c,.agg #[St x.path,U8 x.status,I x.kids,I x.cut,U x.last,.slice B1' x.gone.length d1,St x.plan.keeper,U x.plan.round,St x.plan.live,St x.plan.by_,U x.plan.cap,St x.plan.owner,U x.plan.base,.bool x.plan.done,.slice B2 x.words.length d2]] Wd _ from HONE.out Wd (hx.trans hdx) x hxl _ _ _ (hs1.ext (by decide) (hx.trans hdx)) (hs2.ext (by decide) (hx.trans hdx)))
   have HWD:=Lib.hid hWd
   have HL:=Lib.hid hl
   have HSP:=Lib.hid hs.out
   obtain⟨k0,k1,k2,k3,k4,k5,k6,k7,k8,k9,k10,k11,k12,k13,k14⟩:=HC.out _ HDX.out
   clear hl hs hx hs1 hs2 hc hWd hdx hxl
   go_wp2_with fail
   refine wp_region_cut (by kernel_rfl) ?_
   change wpAny _ _ _ _ _ _ _ (wr).drew
   rw [HWD.out]
   refine wpAny_still (k:=0) (n:=5) (by kernel_rfl) (by decide) ?_
   simp only [List.drop_zero,List.drop_succ_cons,List.take_succ_cons,List.take_zero,List.take_nil,Nat.reduceSub,List.drop_nil]
   generalize hA:Act.mk _ _=A0;repeat (refine wpStill_step (fun K2 hK2=>?_);subst hA;go_simp;(try rw [if_neg (by decide)]);generalize hA:Act.mk _ _=A0;refine hK2 A0 ?_;clear hK2 K2)
   refine wpStill_nil ?_
   subst hA
   refine wpAny_next (k:=5) 10 (by decide) (by decide) (by kernel_rfl) ?_
   simp only [List.drop_zero,List.drop_succ_cons,List.take_succ_cons,List.take_zero,List.take_nil,Nat.reduceSub,List.drop_nil]
   go_wp2_with fail
   refine HON.out.mono ?_
   rintro e w4 ⟨hb,hx4⟩
   clear k0 k1 k2 k3 k4 k5 k6 k7 k8 k9 k10 k11 k12 k13 k14
   have HX4:=Lib.hid (HDX.out.trans hx4)
   clear hx4
   rcases hb with rfl | ⟨rfl,hone⟩
   case inl =>
    go_wp2_with fail
    refine wpAny_still (k:=10) (n:=22) (by kernel_rfl) (by decide) ?_
    simp only [List.drop_zero,List.drop_succ_cons,List.take_succ_cons,List.take_zero,List.take_nil,Nat.reduceSub,List.drop_nil]
    generalize hA:Act.mk _ _=A0;repeat (refine wpStill_step (fun K2 hK2=>?_);subst hA;go_simp;(try rw [if_neg (by decide)]);generalize hA:Act.mk _ _=A0;refine hK2 A0 ?_;clear hK2 K2)
    refine wpStill_nil ?_
    subst hA
    refine wpAny_last (k:=22) (by kernel_rfl) ?_
    simp only [List.drop_zero,List.drop_succ_cons,List.take_succ_cons,List.take_zero,List.take_nil,Nat.reduceSub,List.drop_nil]
    go_wp2_with fail
    go_ret
    exact⟨.inl rfl,HX4.out⟩
   rcases List.eq_nil_or_concat pre with h8 | ⟨pre',t,h8⟩
   case inl =>
    subst h8
    have HREL:=Lib.hid (show SrtM ([]++[x])/\∀ y ∈ []++[x],OneF y from ⟨List.pairwise_singleton _ _,fun y hy=>by rw [List.nil_append,List.mem_singleton] at hy;rw [hy];exact hone⟩)
    clear hone
    go_wp2_with fail
    refine wpAny_still (k:=10) (n:=22) (by kernel_rfl) (by decide) ?_
    simp only [List.drop_zero,List.drop_succ_cons,List.take_succ_cons,List.take_zero,List.take_nil,Nat.reduceSub,List.drop_nil]
    generalize hA:Act.mk _ _=A0;repeat (refine wpStill_step (fun K2 hK2=>?_);subst hA;go_simp;(try rw [if_neg (by decide)]);generalize hA:Act.mk _ _=A0;refine hK2 A0 ?_;clear hK2 K2)
    refine wpStill_nil ?_
    subst hA
    refine wpAny_last (k:=22) (by kernel_rfl) ?_
    simp only [List.drop_zero,List.drop_succ_cons,List.take_succ_cons,List.take_zero,List.take_nil,Nat.reduceSub,List.drop_nil]
    go_wp2_with fail
    go_roundw
    case rel=>exact⟨[]++[x],post,by rw [HL.out];simp,by simp,Lib.hid HREL.out,HX4.out⟩
    case measure=>simp [intOf];omega
   case inr =>
    rw [List.concat_eq_append] at h8
    subst h8
    obtain⟨b'',o'',B3,d3,B4,d4,he',-,-,-,hct⟩:=HAT.out pre' (x :: post) t (by rw [HL.out];simp)
    cases he'
    have HCT:=Lib.hid (HCM.out t x (by rw [HL.out];simp) (by rw [HL.out];simp))
    obtain⟨cz,hcz⟩:∃ cz,cmpPath t.path x.path=cz:=⟨_,rfl⟩
    rw [hcz] at HCT
    have HCZ:=Lib.hid hcz
    obtain⟨N0,hN0⟩:∃ N0,(pre'++[t]).length=N0:=⟨_,rfl⟩
    obtain⟨M0,hM0⟩:∃ M0,pre'.length=M0:=⟨_,rfl⟩
    have hNM:N0=M0+1:=by rw [<- hN0,<- hM0];simp
    have x0c:w4.cell? ⟨b,o+N0 * 15,none⟩=some (St x.path):=by rw [<- hN0];exact (HC.out _ HX4.out).1
    have t0c:w4.cell? ⟨b,o+M0 * 15,none⟩=some (St t.path):=by rw [<- hM0];exact HX4.out.cell (hct 0 _ rfl)
    rw [hN0] at hlt hlt2 ⊢
    have k0:(0:Int)<=M0:=by omega
    have k1:(M0:Int) < l.length:=by omega
    have k2:(N0:Int) > 0:=by omega
    have k3:0 < N0:=by omega
    have k3d:decide ((N0:Int) > 0)=true:=decide_eq_true k2
    have k4:IntKind.i64.wrap ((N0:Int) - 1)=M0:=by rw [show (N0:Int) - 1=M0 by omega];exact wrap_small _ (by omega) (by omega)
    have k8:((M0:Int)).toNat=M0:=by omega
    have HNM:=Lib.hid (And.intro hNM (And.intro hN0 hM0))
    clear hNM hN0 hM0 hct hcz
    go_wp2_with fail
    refine wpAny_still (k:=10) (n:=22) (by kernel_rfl) (by decide) ?_
    simp only [List.drop_zero,List.drop_succ_cons,List.take_succ_cons,List.take_zero,List.take_nil,Nat.reduceSub,List.drop_nil]
    generalize hA:Act.mk _ _=A0;repeat (refine wpStill_step (fun K2 hK2=>?_);subst hA;go_simp;(try rw [if_neg (by decide)]);generalize hA:Act.mk _ _=A0;refine hK2 A0 ?_;clear hK2 K2)
    refine wpStill_nil ?_
    subst hA
    refine wpAny_last (k:=22) (by kernel_rfl) ?_
    simp only [List.drop_zero,List.drop_succ_cons,List.take_succ_cons,List.take_zero,List.take_nil,Nat.reduceSub,List.drop_nil]
    by_cases hz:cz < 0
    case neg =>
     have z1:cz ≥ 0:=by omega
     have z2:decide (cz ≥ 0)=true:=decide_eq_true z1
     go_wp2_with fail
     refine (HCT.out _).mono ?_
     rintro e w5 ⟨rfl,hx5⟩
     go_wp2_with fail
     go_ret
     exact⟨.inl rfl,HX4.out.trans hx5⟩
    have z1:¬ cz ≥ 0:=by omega
    have z2:decide (cz ≥ 0)=false:=decide_eq_false z1
    have HREL:=Lib.hid (show SrtM (pre'++[t]++[x])/\∀ y ∈ pre'++[t]++[x],OneF y from ⟨srtM_snoc HSP.out.1 (by rw [HCZ.out];exact hz),fun y hy=>by
     rcases List.mem_append.1 hy with h1 | h1
     ·exact HSP.out.2 y h1
     ·rw [List.mem_singleton.1 h1];exact hone⟩)
    clear hone
    go_wp2_with fail
    refine (HCT.out _).mono ?_
    rintro e w5 ⟨rfl,hx5⟩
    go_wp2_with fail
    go_roundw
    case rel=>exact⟨pre'++[t]++[x],post,by rw [HL.out];simp,by have h3:=HNM.out;have h4:(pre'++[t]++[x]).length=N0+1:=(by rw [List.length_append,h3.2.1];rfl);rw [h4];(first | rfl | simp),Lib.hid HREL.out,HX4.out.trans hx5⟩
    case measure=>have h3:=HNM.out;simp [intOf];omega
end
end Go.Proofs.YtblkikjmocnllaaGreatDoor
