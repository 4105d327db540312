/- gossamerlaw20.MemberMakes: the walk. -/
import Derived.Test.YtblkikjmocnllaaGreatDoorQz43
import Derived.Test.YtblkikjmocnllaaGreatDoorQz44
import Derived.Test.YtblkikjmocnllaaGreatDoorQz45
import Derived.Test.YtblkikjmocnllaaGreatDoorQz46
import Derived.Test.YtblkikjmocnllaaGreatDoorQz47
import Derived.Test.YtblkikjmocnllaaGreatDoorQz20
import Derived.Test.YtblkikjmocnllaaGreatDoorQz48
set_option linter.unusedVariables false
set_option linter.unusedSimpArgs false
set_option maxRecDepth 100000
set_option maxHeartbeats 40000000
namespace Go.Proofs.YtblkikjmocnllaaGreatDoor
section
open Go.RowKit Go.Shelf
theorem may_low {S:Nat->Prop} {v:Value} {l:List Mbr} {w:World} (hv:Sl mbrT w S v l) (lj:LowJ 1 l) (hg:∀ x ∈ l,HugeM 1048576 x) :
  Calls Tryz.prog 9 #[v] w fun e w'=>(e=.returned (.bool false) ∨ e=.returned (.bool true)/\MayR l)/\Ext w w' :=
 refMay20_any hv (by have:=lj.len;omega) (fun m hm=>by have:=lj.wlen m hm;omega) (fun m hm s hs=>by have:=lj.words m hm s hs;omega) (fun m hm=>by have:=lj.path m hm;omega) (fun m hm=>by have:=(hg m hm).2.2.1.2.1;omega) (fun m hm=>by have:=lj.gone m hm;omega)
theorem makes_walk {S S':Nat->Prop} {va vb:Value} {a b:List Mbr} {path:Str} {last:Nat} {w:World} (hva:Sl mbrT w S va a) (hga:∀ x ∈ a,HugeM 1048576 x) (hvb:Sl mbrT w S' vb b) (hgb:∀ x ∈ b,HugeM 1048576 x) (hp:path.length<=1048576) (ht:Pow w) :
  Calls Tryz.prog 3 #[va,vb,St path,U last] w fun e w'=>e=.returned (.bool true)/\Ext w w':=by
 have HHA:=Lib.hid (huge_of hga (by omega))
 have HHB:=Lib.hid (huge_of hgb (by omega))
 have HAL:=Lib.hid (fun W (he:Ext w W)=>alive20_any W (ht.below he))
 have HLA:=Lib.hid (large_any hva HHA.out)
 have HLB:=Lib.hid (fun W (he:Ext w W)=>large_any (hvb.ext (by decide) he) HHB.out)
 have HVA:=Lib.hid hva
 have HVB:=Lib.hid hvb
 have HGA:=Lib.hid hga
 have HGB:=Lib.hid hgb
 have HPW:=Lib.hid (fun W (he:Ext w W)=>ht.below he)
 obtain⟨A,ca,rfl,-,-⟩:=hva.form
 obtain⟨B,cb,rfl,-,-⟩:=hvb.form
 clear hva hvb hga hgb ht
 go_enter Tryz.func3,Tryz.ntmps3
 go_wp2_with fail
 refine HLA.out.mono ?_
 rintro e w1 ⟨hb,hx1⟩
 have HX1:=Lib.hid (hx1)
 rcases hb with rfl | ⟨rfl,a40,alow⟩
 ·clear HLA hx1
  go_wp2_with fail
  refine (HAL.out _ HX1.out).mono ?_
  rintro e wz ⟨rfl,hz⟩
  go_wp2_with fail
  go_ret
  exact⟨rfl,HX1.out.trans hz⟩
 have LA:=Lib.hid (low_j a40 alow HHA.out)
 clear alow hx1 HLA a40
 go_wp2_with fail
 refine (HLB.out _ HX1.out).mono ?_
 rintro e w2 ⟨hb,hx2⟩
 have HX2:=Lib.hid (HX1.out.trans hx2)
 rcases hb with rfl | ⟨rfl,b40,blow⟩
 ·clear HLB hx2
  go_wp2_with fail
  refine (HAL.out _ HX2.out).mono ?_
  rintro e wz ⟨rfl,hz⟩
  go_wp2_with fail
  go_ret
  exact⟨rfl,HX2.out.trans hz⟩
 have LB:=Lib.hid (low_j b40 blow HHB.out)
 clear blow hx2 HLB b40
 by_cases hpl:path.length<=256
 case neg =>
  have e1:(path.length:Int) > 256:=by omega
  go_wp2_with fail
  refine (HAL.out _ HX2.out).mono ?_
  rintro e wz ⟨rfl,hz⟩
  go_wp2_with fail
  go_ret
  exact⟨rfl,HX2.out.trans hz⟩
 have e1:¬ (path.length:Int) > 256:=by omega
 have HMA:=Lib.hid (may_low (HVA.out.ext (by decide) HX2.out) LA.out HGA.out)
 go_wp2_with fail
 refine HMA.out.mono ?_
 rintro e w3 ⟨hb,hx3⟩
 have HX3:=Lib.hid (HX2.out.trans hx3)
 clear hx3 HMA
 rcases hb with rfl | ⟨rfl,hma⟩
 ·go_wp2_with fail
  refine (HAL.out _ HX3.out).mono ?_
  rintro e wz ⟨rfl,hz⟩
  go_wp2_with fail
  go_ret
  exact⟨rfl,HX3.out.trans hz⟩
 have MA:=Lib.hid hma
 clear hma
 have HMB:=Lib.hid (may_low (HVB.out.ext (by decide) HX3.out) LB.out HGB.out)
 go_wp2_with fail
 refine HMB.out.mono ?_
 rintro e w4 ⟨hb,hx4⟩
 have HX4:=Lib.hid (HX3.out.trans hx4)
 clear hx4 HMB
 rcases hb with rfl | ⟨rfl,hmb⟩
 ·go_wp2_with fail
  refine (HAL.out _ HX4.out).mono ?_
  rintro e wz ⟨rfl,hz⟩
  go_wp2_with fail
  go_ret
  exact⟨rfl,HX4.out.trans hz⟩
 have MB:=Lib.hid hmb
 clear hmb
 have hal:a.length<=40:=by have:=LA.out.len;omega
 have HSM:=Lib.hid (show SmallL a from ⟨by omega,fun x hx=>by have:=LA.out.gone x hx;have:=LA.out.wlen x hx;omega⟩)
 obtain⟨⟨l1,s1,n1⟩,hR1⟩:∃ R,admitM a path=R:=⟨_,rfl⟩
 have HR1:=Lib.hid (show radmitR a path=(l1,s1,n1) from (radmit_is MA.out.srt (fun x hx=>⟨(MA.out.one x hx).may,(MA.out.one x hx).kids⟩) path).trans hR1)
 have HC5:=Lib.hid (admit_any (HVA.out.ext (by decide) HX4.out) HSM.out (fun x hx=>by have:=LA.out.path x hx;omega) (fun x hx=>by have:=(MA.out.one x hx).kids;omega) path (HPW.out _ HX4.out))
 rw [hR1] at HC5
 clear hR1
 go_wp2_with fail
 refine HC5.out.mono ?_
 rintro e w5 ⟨v5,rfl,h5,hx5⟩
 obtain⟨A5,c5,rfl,-,-⟩:=h5.form
 have HX5:=Lib.hid (HX4.out.trans hx5)
 have HV5:=Lib.hid h5
 clear h5 hx5 HC5
 have HC6:=Lib.hid (refAdmit20_any (HVA.out.ext (by decide) HX5.out) path (by omega) MA.out.good (fun x hx=>(MA.out.one x hx).kids) (by omega) (fun x hx=>by have:=LA.out.path x hx;omega))
 rw [HR1.out] at HC6
 go_wp2_with fail
 refine HC6.out.mono ?_
 rintro e w6 ⟨v6,rfl,h6,hx6⟩
 obtain⟨A6,c6,rfl,-,-⟩:=h6.form
 have HX6:=Lib.hid (HX5.out.trans hx6)
 have HV6:=Lib.hid h6
 have HD6:=Lib.hid hx6
 clear h6 hx6 HC6
 obtain⟨⟨l2,n2⟩,hR2⟩:∃ R,upM a path=R:=⟨_,rfl⟩
 have HR2:=Lib.hid (show rupR a path=(l2,n2) from (rup_is MA.out.srt path).trans hR2)
 have HC7:=Lib.hid (up_any (HVA.out.ext (by decide) HX6.out) HSM.out path)
 rw [hR2] at HC7
 clear hR2
 go_wp2_with fail
 refine HC7.out.mono ?_
 rintro e w7 ⟨v7,rfl,h7,hx7⟩
 obtain⟨A7,c7,rfl,-,-⟩:=h7.form
 have HX7:=Lib.hid (HX6.out.trans hx7)
 have HV7:=Lib.hid h7
 have HD7:=Lib.hid (HD6.out.trans hx7)
 have HE7:=Lib.hid hx7
 clear h7 hx7 HC7
 have HC8:=Lib.hid (refUp20_any (HVA.out.ext (by decide) HX7.out) path (by omega) (fun x hx=>by have:=LA.out.path x hx;omega))
 rw [HR2.out] at HC8
 go_wp2_with fail
 refine HC8.out.mono ?_
 rintro e w8 ⟨v8,rfl,h8,hx8⟩
 obtain⟨A8,c8,rfl,-,-⟩:=h8.form
 have HX8:=Lib.hid (HX7.out.trans hx8)
 have HV8:=Lib.hid h8
 have HD8:=Lib.hid (HD7.out.trans hx8)
 have HE8:=Lib.hid (HE7.out.trans hx8)
 have HF8:=Lib.hid hx8
 clear h8 hx8 HC8
 obtain⟨⟨l3,n3⟩,hR3⟩:∃ R,leaveM a path last=R:=⟨_,rfl⟩
 have HR3:=Lib.hid (show rleaveR a path last=(l3,n3) from (rleave_is MA.out.srt path last).trans hR3)
 have HC9:=Lib.hid (leave_any (HVA.out.ext (by decide) HX8.out) HSM.out path last)
 rw [hR3] at HC9
 clear hR3
 go_wp2_with fail
 refine HC9.out.mono ?_
 rintro e w9 ⟨v9,rfl,h9,hx9⟩
 obtain⟨A9,c9,rfl,-,-⟩:=h9.form
 have HX9:=Lib.hid (HX8.out.trans hx9)
 have HV9:=Lib.hid h9
 have HD9:=Lib.hid (HD8.out.trans hx9)
 have HF9:=Lib.hid (HF8.out.trans hx9)
 have HG9:=Lib.hid hx9
 clear h9 hx9 HC9
 have HC10:=Lib.hid (refLeave20_any (HVA.out.ext (by decide) HX9.out) path last (by omega) (fun x hx=>by have:=LA.out.path x hx;omega))
 rw [HR3.out] at HC10
 go_wp2_with fail
 refine HC10.out.mono ?_
 rintro e w10 ⟨v10,rfl,h10,hx10⟩
 obtain⟨A10,c10,rfl,-,-⟩:=h10.form
 have HX10:=Lib.hid (HX9.out.trans hx10)
 have HV10:=Lib.hid h10
 have HD10:=Lib.hid (HD9.out.trans hx10)
 have HF10:=Lib.hid (HF9.out.trans hx10)
 have HG10:=Lib.hid (HG9.out.trans hx10)
 have HH10:=Lib.hid hx10
 clear h10 hx10 HC10
 have q1:(s1 == s1)=true:=by simp
 have q2:((n1:Int) == n1)=true:=by simp
 have q3:((n2:Int) == n2)=true:=by simp
 have q4:((n3:Int) == n3)=true:=by simp
 have HS11:=Lib.hid (refSame_any (HV5.out.ext (by decide) HD10.out) (HV6.out.ext (by decide) (HE8.out.trans (HG10.out))))
 go_wp2_with fail
 refine HS11.out.mono ?_
 rintro e w11 ⟨rfl,hx11⟩
 have HX11:=Lib.hid (HX10.out.trans hx11)
 have HI11:=Lib.hid hx11
 clear hx11 HS11
 have HS12:=Lib.hid (refSame_any (HV7.out.ext (by decide) (HF10.out.trans HI11.out)) (HV8.out.ext (by decide) (HG10.out.trans HI11.out)))
 go_wp2_with fail
 refine HS12.out.mono ?_
 rintro e w12 ⟨rfl,hx12⟩
 have HX12:=Lib.hid (HX11.out.trans hx12)
 have HI12:=Lib.hid (HI11.out.trans hx12)
 clear hx12 HS12
 have HS13:=Lib.hid (refSame_any (HV9.out.ext (by decide) (HH10.out.trans HI12.out)) (HV10.out.ext (by decide) HI12.out))
 go_wp2_with fail
 refine HS13.out.mono ?_
 rintro e w13 ⟨rfl,hx13⟩
 have HX13:=Lib.hid (HX12.out.trans hx13)
 clear hx13 HS13
 have HJ14:=Lib.hid (join_any (HVA.out.ext (by decide) HX13.out) (HVB.out.ext (by decide) HX13.out) (LA.out.ok (by decide)) (LB.out.ok (by decide)) (by have:=MA.out.pos;omega))
 go_wp2_with fail
 refine HJ14.out.mono ?_
 rintro e w14 ⟨v14,rfl,h14,hx14⟩
 obtain⟨A14,c14,rfl,-,-⟩:=h14.form
 have HX14:=Lib.hid (HX13.out.trans hx14)
 have HV14:=Lib.hid h14
 clear h14 hx14 HJ14
 have HJ15:=Lib.hid (refJoin20_any (HVA.out.ext (by decide) HX14.out) (HVB.out.ext (by decide) HX14.out) MA.out.good MB.out.good MA.out.nice MB.out.nice LA.out LB.out)
 go_wp2_with fail
 refine HJ15.out.mono ?_
 rintro e w15 ⟨v15,rfl,h15,hx15⟩
 obtain⟨A15,c15,rfl,-,-⟩:=h15.form
 have HX15:=Lib.hid (HX14.out.trans hx15)
 have HS16:=Lib.hid (refSame_any (HV14.out.ext (by decide) hx15) h15)
 clear h15 hx15 HJ15
 go_wp2_with fail
 refine HS16.out.mono ?_
 rintro e w16 ⟨rfl,hx16⟩
 have HX16:=Lib.hid (HX15.out.trans hx16)
 clear hx16 HS16
 go_wp2_with fail
 refine (HAL.out _ HX16.out).mono ?_
 rintro e wz ⟨rfl,hz⟩
 go_wp2_with fail
 go_ret
 exact⟨rfl,HX16.out.trans hz⟩
end
end Go.Proofs.YtblkikjmocnllaaGreatDoor
