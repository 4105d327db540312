/- Contracts of the functions that the statement goes through, and plain laws of them. -/
import Derived.Test.YtdikcgmdmcfpfaaGreatSi35
import Derived.Test.YtdikcgmdmcfpfaaGreatSi02
import Derived.Test.YtdikcgmdmcfpfaaGreatSi29
import Derived.Test.YtdikcgmdmcfpfaaGreatSi26
import Derived.Test.YtdikcgmdmcfpfaaGreatSi36
set_option linter.unusedVariables false
set_option linter.unusedSimpArgs false
set_option linter.unusedSectionVars false
set_option maxRecDepth 100000
set_option maxHeartbeats 4000000
namespace Go.Proofs.YtdikcgmdmcfpfaaGreat
section
open Go.RowKit Go.Shelf
theorem zd0 (w:World):Calls Tryz.prog 12 #[] w fun r w'=>r = .returned (.bool true)∧Ext w w':=by
 have C1:=Lib.hid (zjo (w:=w) [49] opA (by decide) (by decide) (StAt.none w (fun _=>True) none none none) zgz)
 have hxw:=Ext.refl w
 go_enter Tryz.func12,Tryz.ntmps12
 go_wp2_with fail
 refine C1.out.mono ?_
 clear C1
 rintro r V ⟨u1,u2,u3,rfl,hS,hxV⟩
 rw [ztw] at hS ⊢
 obtain⟨A1,na1,rfl,-,-⟩:∃ A c,u1=Value.slice A 1 c∧1≤c∧c≤9223372036854775807:=hS.all.form
 obtain⟨A2,na2,rfl,-,-⟩:∃ A c,u2=Value.slice A 1 c∧1≤c∧c≤9223372036854775807:=hS.entries.form
 obtain⟨A3,na3,rfl,-,-⟩:∃ A c,u3=Value.slice A 0 c∧0≤c∧c≤9223372036854775807:=hS.pruned.form
 have hxa:=(Ext.refl V).alloc (.cells #[.slice A1 1 na1,.slice A2 1 na2,.slice A3 0 na3] 30)
 have rr1:=zac V 30 [.slice A1 1 na1,.slice A2 1 na2,.slice A3 0 na3]
 have hsz1:V.heap.size < (V.alloc (.cells #[.slice A1 1 na1,.slice A2 1 na2,.slice A3 0 na3] 30)).heap.size:=by simp
 have hxw':=(hxw.trans hxV).trans hxa
 have sA:=hS.ext hxa
 clear hxw hxa hxV hsz1
 have hxw:=hxw'
 clear hxw'
 obtain⟨W1,hW1⟩:∃ W,V.alloc (.cells #[.slice A1 1 na1,.slice A2 1 na2,.slice A3 0 na3] 30)=W:=⟨_,rfl⟩
 rw [hW1] at rr1 hxw sA
 obtain⟨g1,hg1⟩:∃ g,V.heap.size=g:=⟨_,rfl⟩
 rw [hg1] at rr1
 replace sA:=sA.mono (S':=fun _=>True) (fun _ _ _=>trivial)
 have C2:=Lib.hid (zjo (w:=W1) [49,46,49] opB (by decide) (by decide) (StAt.none W1 (fun _=>True) none none none) zgz)
 go_wp2_with fail
 (try rw [hg1])
 (try rw [hW1])
 clear hW1 hg1 V hS
 refine C2.out.mono ?_
 clear C2
 rintro r V ⟨u1,u2,u3,rfl,hS,hxV⟩
 rw [ztx] at hS ⊢
 obtain⟨B1,nb1,rfl,-,-⟩:∃ A c,u1=Value.slice A 1 c∧1≤c∧c≤9223372036854775807:=hS.all.form
 obtain⟨B2,nb2,rfl,-,-⟩:∃ A c,u2=Value.slice A 1 c∧1≤c∧c≤9223372036854775807:=hS.entries.form
 obtain⟨B3,nb3,rfl,-,-⟩:∃ A c,u3=Value.slice A 0 c∧0≤c∧c≤9223372036854775807:=hS.pruned.form
 have hxa:=(Ext.refl V).alloc (.cells #[.slice B1 1 nb1,.slice B2 1 nb2,.slice B3 0 nb3] 30)
 have rr2:=zac V 30 [.slice B1 1 nb1,.slice B2 1 nb2,.slice B3 0 nb3]
 have hsz2:V.heap.size < (V.alloc (.cells #[.slice B1 1 nb1,.slice B2 1 nb2,.slice B3 0 nb3] 30)).heap.size:=by simp
 have sA':=(sA.ext hxV).ext hxa
 have rr1':=(rr1.ext hxV).ext hxa
 have hxw':=(hxw.trans hxV).trans hxa
 have sB:=hS.ext hxa
 clear hxw hxa hxV hsz2 sA rr1
 have sA:=sA'
 have rr1:=rr1'
 have hxw:=hxw'
 clear hxw' sA' rr1'
 obtain⟨W2,hW2⟩:∃ W,V.alloc (.cells #[.slice B1 1 nb1,.slice B2 1 nb2,.slice B3 0 nb3] 30)=W:=⟨_,rfl⟩
 rw [hW2] at rr2 hxw sA rr1 sB
 obtain⟨g2,hg2⟩:∃ g,V.heap.size=g:=⟨_,rfl⟩
 rw [hg2] at rr2
 replace sB:=sB.mono (S':=fun _=>True) (fun _ _ _=>trivial)
 have C3:=Lib.hid (zle sA sB zgu zrw)
 have ka0:=rr1.cell (j:=0) rfl
 have ka1:=rr1.cell (j:=1) rfl
 have ka2:=rr1.cell (j:=2) rfl
 have kb0:=rr2.cell (j:=0) rfl
 have kb1:=rr2.cell (j:=1) rfl
 have kb2:=rr2.cell (j:=2) rfl
 go_wp2_with fail
 (try rw [hg2])
 (try rw [hW2])
 clear hW2 hg2 V hS ka0 ka1 ka2 kb0 kb1 kb2
 refine C3.out.mono ?_
 clear C3
 rintro r V ⟨u1,u2,u3,rfl,hS,hxV⟩
 rw [zt7] at hS
 obtain⟨J1,nj1,rfl,-,-⟩:∃ A c,u1=Value.slice A 2 c∧2≤c∧c≤9223372036854775807:=hS.all.form
 obtain⟨J2,nj2,rfl,-,-⟩:∃ A c,u2=Value.slice A 1 c∧1≤c∧c≤9223372036854775807:=hS.entries.form
 obtain⟨J3,nj3,rfl,-,-⟩:∃ A c,u3=Value.slice A 0 c∧0≤c∧c≤9223372036854775807:=hS.pruned.form
 have hxa:=(Ext.refl V).alloc (.cells #[.slice J1 2 nj1,.slice J2 1 nj2,.slice J3 0 nj3] 30)
 have rr3:=zac V 30 [.slice J1 2 nj1,.slice J2 1 nj2,.slice J3 0 nj3]
 have hsz3:V.heap.size < (V.alloc (.cells #[.slice J1 2 nj1,.slice J2 1 nj2,.slice J3 0 nj3] 30)).heap.size:=by simp
 have sA':=(sA.ext hxV).ext hxa
 have rr1':=(rr1.ext hxV).ext hxa
 have sB':=(sB.ext hxV).ext hxa
 have rr2':=(rr2.ext hxV).ext hxa
 have hxw':=(hxw.trans hxV).trans hxa
 have sJ:=hS.at.ext hxa
 clear hxw hxa hxV hsz3 sA rr1 sB rr2
 have sA:=sA'
 have rr1:=rr1'
 have sB:=sB'
 have rr2:=rr2'
 have hxw:=hxw'
 clear hxw' sA' rr1' sB' rr2'
 obtain⟨W3,hW3⟩:∃ W,V.alloc (.cells #[.slice J1 2 nj1,.slice J2 1 nj2,.slice J3 0 nj3] 30)=W:=⟨_,rfl⟩
 rw [hW3] at rr3 hxw sA rr1 sB rr2 sJ
 obtain⟨g3,hg3⟩:∃ g,V.heap.size=g:=⟨_,rfl⟩
 rw [hg3] at rr3
 replace sJ:=sJ.mono (S':=fun _=>True) (fun _ _ _=>trivial)
 have C4:=Lib.hid (zhq sJ sA.all small_stJ (by decide))
 have kj0:=rr3.cell (j:=0) rfl
 have kj1:=rr3.cell (j:=1) rfl
 have kj2:=rr3.cell (j:=2) rfl
 have ka0:=rr1.cell (j:=0) rfl
 go_wp2_with fail
 (try rw [hg3])
 (try rw [hW3])
 clear hW3 hg3 V hS kj0 kj1 kj2 ka0
 refine C4.out.mono ?_
 clear C4
 rintro r V ⟨u0,u1,u2,u3,rfl,hb,hS,hxV⟩
 rw [zt0] at hS
 rw [ztd] at hb
 obtain⟨D0,nd0,rfl,-,-⟩:∃ A c,u0=Value.slice A 1 c∧1≤c∧c≤9223372036854775807:=hb.form
 obtain⟨D1,nd1,rfl,-,-⟩:∃ A c,u1=Value.slice A 2 c∧2≤c∧c≤9223372036854775807:=hS.all.form
 obtain⟨D2,nd2,rfl,-,-⟩:∃ A c,u2=Value.slice A 1 c∧1≤c∧c≤9223372036854775807:=hS.entries.form
 obtain⟨D3,nd3,rfl,-,-⟩:∃ A c,u3=Value.slice A 0 c∧0≤c∧c≤9223372036854775807:=hS.pruned.form
 have hxa:=(Ext.refl V).alloc (.cells #[.slice D0 1 nd0,.slice D1 2 nd1,.slice D2 1 nd2,.slice D3 0 nd3] 64)
 have rr4:=zac V 64 [.slice D0 1 nd0,.slice D1 2 nd1,.slice D2 1 nd2,.slice D3 0 nd3]
 have hsz4:V.heap.size < (V.alloc (.cells #[.slice D0 1 nd0,.slice D1 2 nd1,.slice D2 1 nd2,.slice D3 0 nd3] 64)).heap.size:=by simp
 have sA':=(sA.ext hxV).ext hxa
 have rr1':=(rr1.ext hxV).ext hxa
 have sB':=(sB.ext hxV).ext hxa
 have rr2':=(rr2.ext hxV).ext hxa
 have sJ':=(sJ.ext hxV).ext hxa
 have rr3':=(rr3.ext hxV).ext hxa
 have hxw':=(hxw.trans hxV).trans hxa
 have sD:=hS.at.ext hxa
 have sD0:=hb.ext hxa
 clear hxw hxa hxV hsz4 sA rr1 sB rr2 sJ rr3
 have sA:=sA'
 have rr1:=rr1'
 have sB:=sB'
 have rr2:=rr2'
 have sJ:=sJ'
 have rr3:=rr3'
 have hxw:=hxw'
 clear hxw' sA' rr1' sB' rr2' sJ' rr3'
 obtain⟨W4,hW4⟩:∃ W,V.alloc (.cells #[.slice D0 1 nd0,.slice D1 2 nd1,.slice D2 1 nd2,.slice D3 0 nd3] 64)=W:=⟨_,rfl⟩
 rw [hW4] at rr4 hxw sA rr1 sB rr2 sJ rr3 sD sD0
 obtain⟨g4,hg4⟩:∃ g,V.heap.size=g:=⟨_,rfl⟩
 rw [hg4] at rr4
 replace sD:=sD.mono (S':=fun _=>True) (fun _ _ _=>trivial)
 replace sD0:=(za5 (l:=stA.all) sD0).mono (S':=fun _=>True) (by decide) (fun _ _ _=>trivial)
 have C5:=Lib.hid (zhr sA sD sD0 zgu small_stJ (by decide))
 have ka0:=rr1.cell (j:=0) rfl
 have ka1:=rr1.cell (j:=1) rfl
 have ka2:=rr1.cell (j:=2) rfl
 have kd0:=rr4.cell (j:=0) rfl
 have kd1:=rr4.cell (j:=1) rfl
 have kd2:=rr4.cell (j:=2) rfl
 have kd3:=rr4.cell (j:=3) rfl
 go_wp2_with fail
 (try rw [hg4])
 (try rw [hW4])
 clear hW4 hg4 V hS hb ka0 ka1 ka2 kd0 kd1 kd2 kd3
 refine C5.out.mono ?_
 clear C5
 rintro r V ⟨u1,u2,u3,rfl,hS,hxV⟩
 rw [zt8] at hS ⊢
 obtain⟨K1,nk1,rfl,-,-⟩:∃ A c,u1=Value.slice A 2 c∧2≤c∧c≤9223372036854775807:=hS.all.form
 obtain⟨K2,nk2,rfl,-,-⟩:∃ A c,u2=Value.slice A 1 c∧1≤c∧c≤9223372036854775807:=hS.entries.form
 obtain⟨K3,nk3,rfl,-,-⟩:∃ A c,u3=Value.slice A 0 c∧0≤c∧c≤9223372036854775807:=hS.pruned.form
 have hxa:=(Ext.refl V).alloc (.cells #[.slice K1 2 nk1,.slice K2 1 nk2,.slice K3 0 nk3] 30)
 have rr5:=zac V 30 [.slice K1 2 nk1,.slice K2 1 nk2,.slice K3 0 nk3]
 have hsz5:V.heap.size < (V.alloc (.cells #[.slice K1 2 nk1,.slice K2 1 nk2,.slice K3 0 nk3] 30)).heap.size:=by simp
 have sA':=(sA.ext hxV).ext hxa
 have rr1':=(rr1.ext hxV).ext hxa
 have sB':=(sB.ext hxV).ext hxa
 have rr2':=(rr2.ext hxV).ext hxa
 have sJ':=(sJ.ext hxV).ext hxa
 have rr3':=(rr3.ext hxV).ext hxa
 have sD':=(sD.ext hxV).ext hxa
 have sD0':=(sD0.ext (by decide) hxV).ext (by decide) hxa
 have rr4':=(rr4.ext hxV).ext hxa
 have hxw':=(hxw.trans hxV).trans hxa
 have sK:=hS.ext hxa
 clear hxw hxa hxV hsz5 sA rr1 sB rr2 sJ rr3 sD sD0 rr4
 have sA:=sA'
 have rr1:=rr1'
 have sB:=sB'
 have rr2:=rr2'
 have sJ:=sJ'
 have rr3:=rr3'
 have sD:=sD'
 have sD0:=sD0'
 have rr4:=rr4'
 have hxw:=hxw'
 clear hxw' sA' rr1' sB' rr2' sJ' rr3' sD' sD0' rr4'
 obtain⟨W5,hW5⟩:∃ W,V.alloc (.cells #[.slice K1 2 nk1,.slice K2 1 nk2,.slice K3 0 nk3] 30)=W:=⟨_,rfl⟩
 rw [hW5] at rr5 hxw sA rr1 sB rr2 sJ rr3 sD sD0 rr4 sK
 obtain⟨g5,hg5⟩:∃ g,V.heap.size=g:=⟨_,rfl⟩
 rw [hg5] at rr5
 replace sK:=sK.mono (S':=fun _=>True) (fun _ _ _=>trivial)
 have C6:=Lib.hid (zhr (w:=W5) (StAt.none W5 (fun _=>True) none none none) sD sD0 zgz small_stJ (by decide))
 have kd0:=rr4.cell (j:=0) rfl
 have kd1:=rr4.cell (j:=1) rfl
 have kd2:=rr4.cell (j:=2) rfl
 have kd3:=rr4.cell (j:=3) rfl
 go_wp2_with fail
 (try rw [hg5])
 (try rw [hW5])
 clear hW5 hg5 V hS kd0 kd1 kd2 kd3
 refine C6.out.mono ?_
 clear C6
 rintro r V ⟨u1,u2,u3,rfl,hS,hxV⟩
 rw [zth] at hS ⊢
 obtain⟨H1,nh1,rfl,-,-⟩:∃ A c,u1=Value.slice A 0 c∧0≤c∧c≤9223372036854775807:=hS.all.form
 obtain⟨H2,nh2,rfl,-,-⟩:∃ A c,u2=Value.slice A 0 c∧0≤c∧c≤9223372036854775807:=hS.entries.form
 obtain⟨H3,nh3,rfl,-,-⟩:∃ A c,u3=Value.slice A 0 c∧0≤c∧c≤9223372036854775807:=hS.pruned.form
 have hxa:=(Ext.refl V).alloc (.cells #[.slice H1 0 nh1,.slice H2 0 nh2,.slice H3 0 nh3] 30)
 have rr6:=zac V 30 [.slice H1 0 nh1,.slice H2 0 nh2,.slice H3 0 nh3]
 have hsz6:V.heap.size < (V.alloc (.cells #[.slice H1 0 nh1,.slice H2 0 nh2,.slice H3 0 nh3] 30)).heap.size:=by simp
 have sA':=(sA.ext hxV).ext hxa
 have rr1':=(rr1.ext hxV).ext hxa
 have sB':=(sB.ext hxV).ext hxa
 have rr2':=(rr2.ext hxV).ext hxa
 have sJ':=(sJ.ext hxV).ext hxa
 have rr3':=(rr3.ext hxV).ext hxa
 have sD':=(sD.ext hxV).ext hxa
 have sD0':=(sD0.ext (by decide) hxV).ext (by decide) hxa
 have rr4':=(rr4.ext hxV).ext hxa
 have sK':=(sK.ext hxV).ext hxa
 have rr5':=(rr5.ext hxV).ext hxa
 have hxw':=(hxw.trans hxV).trans hxa
 clear hxw hxa hxV hsz6 sA rr1 sB rr2 sJ rr3 sD sD0 rr4 sK rr5
 have sA:=sA'
 have rr1:=rr1'
 have sB:=sB'
 have rr2:=rr2'
 have sJ:=sJ'
 have rr3:=rr3'
 have sD:=sD'
 have sD0:=sD0'
 have rr4:=rr4'
 have sK:=sK'
 have rr5:=rr5'
 have hxw:=hxw'
 clear hxw' sA' rr1' sB' rr2' sJ' rr3' sD' sD0' rr4' sK' rr5'
 obtain⟨W6,hW6⟩:∃ W,V.alloc (.cells #[.slice H1 0 nh1,.slice H2 0 nh2,.slice H3 0 nh3] 30)=W:=⟨_,rfl⟩
 rw [hW6] at rr6 hxw sA rr1 sB rr2 sJ rr3 sD sD0 rr4 sK rr5
 obtain⟨g6,hg6⟩:∃ g,V.heap.size=g:=⟨_,rfl⟩
 rw [hg6] at rr6
 have C7:=Lib.hid (zmo (w:=W6) [49] 3 (by decide) sA zgu)
 have ka0:=rr1.cell (j:=0) rfl
 have ka1:=rr1.cell (j:=1) rfl
 have ka2:=rr1.cell (j:=2) rfl
 go_wp2_with fail
 (try rw [hg6])
 (try rw [hW6])
 clear hW6 hg6 V hS ka0 ka1 ka2
 refine C7.out.mono ?_
 clear C7
 rintro r V ⟨u1,u2,u3,rfl,hS,hxV⟩
 rw [zty] at hS ⊢
 obtain⟨R1,nr1,rfl,-,-⟩:∃ A c,u1=Value.slice A 1 c∧1≤c∧c≤9223372036854775807:=hS.all.form
 obtain⟨R2,nr2,rfl,-,-⟩:∃ A c,u2=Value.slice A 1 c∧1≤c∧c≤9223372036854775807:=hS.entries.form
 obtain⟨R3,nr3,rfl,-,-⟩:∃ A c,u3=Value.slice A 0 c∧0≤c∧c≤9223372036854775807:=hS.pruned.form
 have hxa:=(Ext.refl V).alloc (.cells #[.slice R1 1 nr1,.slice R2 1 nr2,.slice R3 0 nr3] 30)
 have rr7:=zac V 30 [.slice R1 1 nr1,.slice R2 1 nr2,.slice R3 0 nr3]
 have hsz7:V.heap.size < (V.alloc (.cells #[.slice R1 1 nr1,.slice R2 1 nr2,.slice R3 0 nr3] 30)).heap.size:=by simp
 have sA':=(sA.ext hxV).ext hxa
 have rr1':=(rr1.ext hxV).ext hxa
 have sB':=(sB.ext hxV).ext hxa
 have rr2':=(rr2.ext hxV).ext hxa
 have sJ':=(sJ.ext hxV).ext hxa
 have rr3':=(rr3.ext hxV).ext hxa
 have sD':=(sD.ext hxV).ext hxa
 have sD0':=(sD0.ext (by decide) hxV).ext (by decide) hxa
 have rr4':=(rr4.ext hxV).ext hxa
 have sK':=(sK.ext hxV).ext hxa
 have rr5':=(rr5.ext hxV).ext hxa
 have rr6':=(rr6.ext hxV).ext hxa
 have hxw':=(hxw.trans hxV).trans hxa
 have sR:=hS.ext hxa
 clear hxw hxa hxV hsz7 sA rr1 sB rr2 sJ rr3 sD sD0 rr4 sK rr5 rr6
 have sA:=sA'
 have rr1:=rr1'
 have sB:=sB'
 have rr2:=rr2'
 have sJ:=sJ'
 have rr3:=rr3'
 have sD:=sD'
 have sD0:=sD0'
 have rr4:=rr4'
 have sK:=sK'
 have rr5:=rr5'
 have rr6:=rr6'
 have hxw:=hxw'
 clear hxw' sA' rr1' sB' rr2' sJ' rr3' sD' sD0' rr4' sK' rr5' rr6'
 obtain⟨W7,hW7⟩:∃ W,V.alloc (.cells #[.slice R1 1 nr1,.slice R2 1 nr2,.slice R3 0 nr3] 30)=W:=⟨_,rfl⟩
 rw [hW7] at rr7 hxw sA rr1 sB rr2 sJ rr3 sD sD0 rr4 sK rr5 rr6 sR
 obtain⟨g7,hg7⟩:∃ g,V.heap.size=g:=⟨_,rfl⟩
 rw [hg7] at rr7
 replace sR:=sR.mono (S':=fun _=>True) (fun _ _ _=>trivial)
 have C8:=Lib.hid (zjo (w:=W7) [] op0 (by decide) (by decide) sA zgu)
 have ka0:=rr1.cell (j:=0) rfl
 have ka1:=rr1.cell (j:=1) rfl
 have ka2:=rr1.cell (j:=2) rfl
 go_wp2_with fail
 (try rw [hg7])
 (try rw [hW7])
 clear hW7 hg7 V hS ka0 ka1 ka2
 refine C8.out.mono ?_
 clear C8
 rintro r V ⟨u1,u2,u3,rfl,hS,hxV⟩
 rw [ztz] at hS ⊢
 obtain⟨M1,nm1,rfl,-,-⟩:∃ A c,u1=Value.slice A 0 c∧0≤c∧c≤9223372036854775807:=hS.all.form
 obtain⟨M2,nm2,rfl,-,-⟩:∃ A c,u2=Value.slice A 0 c∧0≤c∧c≤9223372036854775807:=hS.entries.form
 obtain⟨M3,nm3,rfl,-,-⟩:∃ A c,u3=Value.slice A 0 c∧0≤c∧c≤9223372036854775807:=hS.pruned.form
 have hxa:=(Ext.refl V).alloc (.cells #[.slice M1 0 nm1,.slice M2 0 nm2,.slice M3 0 nm3] 30)
 have rr8:=zac V 30 [.slice M1 0 nm1,.slice M2 0 nm2,.slice M3 0 nm3]
 have hsz8:V.heap.size < (V.alloc (.cells #[.slice M1 0 nm1,.slice M2 0 nm2,.slice M3 0 nm3] 30)).heap.size:=by simp
 have sA':=(sA.ext hxV).ext hxa
 have rr1':=(rr1.ext hxV).ext hxa
 have sB':=(sB.ext hxV).ext hxa
 have rr2':=(rr2.ext hxV).ext hxa
 have sJ':=(sJ.ext hxV).ext hxa
 have rr3':=(rr3.ext hxV).ext hxa
 have sD':=(sD.ext hxV).ext hxa
 have sD0':=(sD0.ext (by decide) hxV).ext (by decide) hxa
 have rr4':=(rr4.ext hxV).ext hxa
 have sK':=(sK.ext hxV).ext hxa
 have rr5':=(rr5.ext hxV).ext hxa
 have rr6':=(rr6.ext hxV).ext hxa
 have sR':=(sR.ext hxV).ext hxa
 have rr7':=(rr7.ext hxV).ext hxa
 have hxw':=(hxw.trans hxV).trans hxa
 clear hxw hxa hxV hsz8 sA rr1 sB rr2 sJ rr3 sD sD0 rr4 sK rr5 rr6 sR rr7
 have sA:=sA'
 have rr1:=rr1'
 have sB:=sB'
 have rr2:=rr2'
 have sJ:=sJ'
 have rr3:=rr3'
 have sD:=sD'
 have sD0:=sD0'
 have rr4:=rr4'
 have sK:=sK'
 have rr5:=rr5'
 have rr6:=rr6'
 have sR:=sR'
 have rr7:=rr7'
 have hxw:=hxw'
 clear hxw' sA' rr1' sB' rr2' sJ' rr3' sD' sD0' rr4' sK' rr5' rr6' sR' rr7'
 obtain⟨W8,hW8⟩:∃ W,V.alloc (.cells #[.slice M1 0 nm1,.slice M2 0 nm2,.slice M3 0 nm3] 30)=W:=⟨_,rfl⟩
 rw [hW8] at rr8 hxw sA rr1 sB rr2 sJ rr3 sD sD0 rr4 sK rr5 rr6 sR rr7
 obtain⟨g8,hg8⟩:∃ g,V.heap.size=g:=⟨_,rfl⟩
 rw [hg8] at rr8
 have C9:=Lib.hid (ztr (w:=W8) [35,110] sJ small_stJ.each)
 have kj0:=rr3.cell (j:=0) rfl
 have kj1:=rr3.cell (j:=1) rfl
 have kj2:=rr3.cell (j:=2) rfl
 go_wp2_with fail
 (try rw [hg8])
 (try rw [hW8])
 clear hW8 hg8 V hS kj0 kj1 kj2
 refine C9.out.mono ?_
 clear C9
 rintro r V ⟨u1,u2,u3,rfl,hn,hxV⟩
 rw [zt2] at hn ⊢
 simp only [Option.getD_some,Option.isSome_some] at hn ⊢
 obtain⟨X1,nx1,rfl,-,-⟩:∃ A c,u1=Value.slice A 2 c∧2≤c∧c≤9223372036854775807:=hn.seen.form
 obtain⟨X2,nx2,rfl,-,-⟩:∃ A c,u2=Value.slice A 2 c∧2≤c∧c≤9223372036854775807:=hn.counts.form
 obtain⟨X3,nx3,rfl,-,-⟩:∃ A c,u3=Value.slice A 0 c∧0≤c∧c≤9223372036854775807:=hn.items.form
 have hxa:=(Ext.refl V).alloc (.cells #[St entJ.key,.slice X1 2 nx1,.slice X2 2 nx2,.slice X3 0 nx3,U entJ.cell.1,St entJ.cell.2.1,.bool entJ.cell.2.2] 37)
 have rr9:=zac V 37 [St entJ.key,.slice X1 2 nx1,.slice X2 2 nx2,.slice X3 0 nx3,U entJ.cell.1,St entJ.cell.2.1,.bool entJ.cell.2.2]
 have hsz9:V.heap.size < (V.alloc (.cells #[St entJ.key,.slice X1 2 nx1,.slice X2 2 nx2,.slice X3 0 nx3,U entJ.cell.1,St entJ.cell.2.1,.bool entJ.cell.2.2] 37)).heap.size:=by simp
 have sA':=(sA.ext hxV).ext hxa
 have rr1':=(rr1.ext hxV).ext hxa
 have sB':=(sB.ext hxV).ext hxa
 have rr2':=(rr2.ext hxV).ext hxa
 have sJ':=(sJ.ext hxV).ext hxa
 have rr3':=(rr3.ext hxV).ext hxa
 have sD':=(sD.ext hxV).ext hxa
 have sD0':=(sD0.ext (by decide) hxV).ext (by decide) hxa
 have rr4':=(rr4.ext hxV).ext hxa
 have sK':=(sK.ext hxV).ext hxa
 have rr5':=(rr5.ext hxV).ext hxa
 have rr6':=(rr6.ext hxV).ext hxa
 have sR':=(sR.ext hxV).ext hxa
 have rr7':=(rr7.ext hxV).ext hxa
 have rr8':=(rr8.ext hxV).ext hxa
 have hxw':=(hxw.trans hxV).trans hxa
 clear hxw hxa hxV hsz9 sA rr1 sB rr2 sJ rr3 sD sD0 rr4 sK rr5 rr6 sR rr7 rr8
 have sA:=sA'
 have rr1:=rr1'
 have sB:=sB'
 have rr2:=rr2'
 have sJ:=sJ'
 have rr3:=rr3'
 have sD:=sD'
 have sD0:=sD0'
 have rr4:=rr4'
 have sK:=sK'
 have rr5:=rr5'
 have rr6:=rr6'
 have sR:=sR'
 have rr7:=rr7'
 have rr8:=rr8'
 have hxw:=hxw'
 clear hxw' sA' rr1' sB' rr2' sJ' rr3' sD' sD0' rr4' sK' rr5' rr6' sR' rr7' rr8'
 obtain⟨W9,hW9⟩:∃ W,V.alloc (.cells #[St entJ.key,.slice X1 2 nx1,.slice X2 2 nx2,.slice X3 0 nx3,U entJ.cell.1,St entJ.cell.2.1,.bool entJ.cell.2.2] 37)=W:=⟨_,rfl⟩
 rw [hW9] at rr9 hxw sA rr1 sB rr2 sJ rr3 sD sD0 rr4 sK rr5 rr6 sR rr7 rr8
 obtain⟨g9,hg9⟩:∃ g,V.heap.size=g:=⟨_,rfl⟩
 rw [hg9] at rr9
 have C10:=Lib.hid (zsv (w:=W9) [35,110] sJ small_stJ.each)
 have kj0:=rr3.cell (j:=0) rfl
 have kj1:=rr3.cell (j:=1) rfl
 have kj2:=rr3.cell (j:=2) rfl
 go_wp2_with fail
 (try rw [hg9])
 (try rw [hW9])
 clear hW9 hg9 V hn kj0 kj1 kj2
 refine C10.out.mono ?_
 clear C10
 rintro r V ⟨v,rfl,hv,hxV⟩
 rw [zt3] at hv
 unfold ValAt at hv
 rw [zt4,if_pos rfl,zt5] at hv
 subst hv
 have CI:=Lib.hid (zuj 7 7 none 0 0 [] false V)
 have sA:=sA.ext hxV
 have rr1:=rr1.ext hxV
 have sB:=sB.ext hxV
 have rr2:=rr2.ext hxV
 have sJ:=sJ.ext hxV
 have rr3:=rr3.ext hxV
 have sD:=sD.ext hxV
 have sD0:=sD0.ext (by decide) hxV
 have rr4:=rr4.ext hxV
 have sK:=sK.ext hxV
 have rr5:=rr5.ext hxV
 have rr6:=rr6.ext hxV
 have sR:=sR.ext hxV
 have rr7:=rr7.ext hxV
 have rr8:=rr8.ext hxV
 have rr9:=rr9.ext hxV
 have hxw:=hxw.trans hxV
 clear hxV
 go_wp2_with fail
 refine CI.out.mono ?_
 clear CI
 rintro r Z ⟨rfl,hxV⟩
 have sA:=sA.ext hxV
 have rr1:=rr1.ext hxV
 have sB:=sB.ext hxV
 have rr2:=rr2.ext hxV
 have sJ:=sJ.ext hxV
 have rr3:=rr3.ext hxV
 have sD:=sD.ext hxV
 have sD0:=sD0.ext (by decide) hxV
 have rr4:=rr4.ext hxV
 have sK:=sK.ext hxV
 have rr5:=rr5.ext hxV
 have rr6:=rr6.ext hxV
 have sR:=sR.ext hxV
 have rr7:=rr7.ext hxV
 have rr8:=rr8.ext hxV
 have rr9:=rr9.ext hxV
 have hxw:=hxw.trans hxV
 clear hxV
 go_wp2_with fail
 have hend:=trivial
 clear hend
 refine za9 [fun v _=>v=I 0,
   fun v _=>v = .bool true,
   fun v _=>v = .bool true,
   fun v _=>v=I 0,
   fun v _=>v = .bool true,
   fun v _=>v = .bool true,
   fun v _=>v = .bool true,
   fun v _=>v = .bool true,
   fun v _=>v = .bool true,
   fun v _=>v = .bool true,
   fun v _=>v = .pointer (some ⟨g4,1,none⟩),
   fun v _=>v = .pointer (some ⟨g4,2,none⟩),
   fun v _=>v = .slice D2 1 nd2,
   fun v _=>v=I 1,
   fun v _=>v = .bool true,
   fun v _=>v = .bool true,
   fun v _=>v = .bool true,
   fun v _=>v = .agg #[.slice J1 2 nj1,.slice J2 1 nj2,.slice J3 0 nj3],
   fun v _=>v = .pointer (some ⟨g3,0,none⟩),
   fun v _=>v = .slice J1 2 nj1,
   fun v _=>∃ A0 n0 A1 n1 A2 n2 A3 n3,v=dltV (.slice A0 2 n0) (.slice A1 2 n1) (.slice A2 0 n2) (.slice A3 0 n3),
   fun v _=>∃ A1 n1 A2 n2 A3 n3,v=stV (.slice A1 2 n1) (.slice A2 0 n2) (.slice A3 0 n3),
   fun v _=>∃ A2 n2,v = .slice A2 0 n2,
   fun v _=>v=I 0,
   fun v _=>v = .bool true,
   fun v _=>v = .bool true,
   fun v _=>v = .bool true,
   fun v _=>v = .agg #[.slice K1 2 nk1,.slice K2 1 nk2,.slice K3 0 nk3],
   fun v _=>v = .agg #[.slice J1 2 nj1,.slice J2 1 nj2,.slice J3 0 nj3],
   fun v _=>v = .bool true,
   fun v _=>v = .bool true,
   fun v _=>v = .bool true,
   fun v _=>v=I 0,
   fun v _=>v = .bool true,
   fun v _=>v = .bool true,
   fun v _=>v = .bool true,
   fun v _=>v=I 160,
   fun v _=>v = .bool true,
   fun v _=>v = .bool true,
   fun v _=>v = .bool true,
   fun v _=>v = .pointer (some ⟨g7,0,none⟩),
   fun v _=>v = .slice R1 1 nr1,
   fun v _=>v=U 4,
   fun v _=>v = .bool true,
   fun v _=>v = .bool true,
   fun v _=>v = .bool true,
   fun v _=>v=I 0,
   fun v _=>v = .bool true,
   fun v _=>v = .bool true,
   fun v _=>v = .bool true,
   fun v _=>v=I 2,
   fun v _=>v = .bool true,
   fun v _=>v = .bool true,
   fun v _=>v = .bool true,
   fun v _=>v = .pointer (some ⟨g9,0,none⟩),
   fun v _=>v=St [35,110],
   fun v _=>v = .bool true,
   fun v _=>v = .bool true,
   fun v _=>v = .bool true,
   fun v _=>v = .bool true,
   fun v _=>v = .bool true,
   fun v _=>v = .bool true,
   fun v _=>v = .agg #[.slice J1 2 nj1,.slice J2 1 nj2,.slice J3 0 nj3],
   fun v _=>v = .bool true,
   fun v _=>v = .bool true,
   fun v _=>v = .bool true,
   fun v _=>v = .agg #[.slice J1 2 nj1,.slice J2 1 nj2,.slice J3 0 nj3],
   fun v W=>∃ A1 n1 A2 n2 A3 n3,v=stV (.slice A1 2 n1) (.slice A2 1 n2) (.slice A3 0 n3)∧StAt W (fun _=>True) stJ (.slice A1 2 n1) (.slice A2 1 n2) (.slice A3 0 n3),
   fun v _=>v = .agg #[.slice J1 2 nj1,.slice J2 1 nj2,.slice J3 0 nj3],
   fun v _=>v = .bool true,
   fun v _=>v = .bool true] rfl (by kernel_rfl) ?hR ?hstep ?hend
 case hR =>
  simp only [List.mem_cons,List.not_mem_nil,or_false,forall_eq_or_imp,forall_eq]
  exact⟨fun v _ _ h _=>h,fun v _ _ h _=>h,fun v _ _ h _=>h,fun v _ _ h _=>h,fun v _ _ h _=>h,fun v _ _ h _=>h,fun v _ _ h _=>h,fun v _ _ h _=>h,fun v _ _ h _=>h,fun v _ _ h _=>h,fun v _ _ h _=>h,fun v _ _ h _=>h,fun v _ _ h _=>h,fun v _ _ h _=>h,fun v _ _ h _=>h,fun v _ _ h _=>h,fun v _ _ h _=>h,fun v _ _ h _=>h,fun v _ _ h _=>h,fun v _ _ h _=>h,fun v _ _ h _=>h,fun v _ _ h _=>h,fun v _ _ h _=>h,fun v _ _ h _=>h,fun v _ _ h _=>h,fun v _ _ h _=>h,fun v _ _ h _=>h,fun v _ _ h _=>h,fun v _ _ h _=>h,fun v _ _ h _=>h,fun v _ _ h _=>h,fun v _ _ h _=>h,fun v _ _ h _=>h,fun v _ _ h _=>h,fun v _ _ h _=>h,fun v _ _ h _=>h,fun v _ _ h _=>h,fun v _ _ h _=>h,fun v _ _ h _=>h,fun v _ _ h _=>h,fun v _ _ h _=>h,fun v _ _ h _=>h,fun v _ _ h _=>h,fun v _ _ h _=>h,fun v _ _ h _=>h,fun v _ _ h _=>h,fun v _ _ h _=>h,fun v _ _ h _=>h,fun v _ _ h _=>h,fun v _ _ h _=>h,fun v _ _ h _=>h,fun v _ _ h _=>h,fun v _ _ h _=>h,fun v _ _ h _=>h,fun v _ _ h _=>h,fun v _ _ h _=>h,fun v _ _ h _=>h,fun v _ _ h _=>h,fun v _ _ h _=>h,fun v _ _ h _=>h,fun v _ _ h _=>h,fun v _ _ h _=>h,fun v _ _ h _=>h,fun v _ _ h _=>h,fun v _ _ h _=>h,fun v _ _ h _=>h,fun v _ _ h _=>h,fun v _ _ h he=>by obtain⟨A1,n1,A2,n2,A3,n3,e,a⟩:=h;exact⟨A1,n1,A2,n2,A3,n3,e,a.ext he⟩,fun v _ _ h _=>h,fun v _ _ h _=>h,fun v _ _ h _=>h⟩
 case hstep =>
  simp only [List.append_eq,List.cons_append,List.nil_append,List.length_cons,List.length_nil,Nat.reduceAdd,List.take_succ_cons,List.take_zero,zb1,and_true]
  refine ⟨?_,?_,?_,?_,?_,?_,?_,?_,?_,?_,?_,?_,?_,?_,?_,?_,?_,?_,?_,?_,?_,?_,?_,?_,?_,?_,?_,?_,?_,?_,?_,?_,?_,?_,?_,?_,?_,?_,?_,?_,?_,?_,?_,?_,?_,?_,?_,?_,?_,?_,?_,?_,?_,?_,?_,?_,?_,?_,?_,?_,?_,?_,?_,?_,?_,?_,?_,?_,?_,?_,?_⟩
  ·intro x W he f
   have h0:x 2=I 0:=f.1
   go_wp
   exact zaa rfl (Ext.refl _)
  ·intro x W he f
   have h0:x 69=I 0:=f.1
   go_wp
   exact zaa rfl (Ext.refl _)
  ·intro x W he f
   have h0:x 70 = .bool true:=f.1
   go_wp
   exact zaa rfl (Ext.refl _)
  ·intro x W he f
   have h0:x 4=I 0:=f.1
   have hg:x 71 = .bool true:=f.2.1
   go_wp
   exact zaa rfl (Ext.refl _)
  ·intro x W he f
   have h0:x 72=I 0:=f.1
   have hg:x 71 = .bool true:=f.2.1
   go_wp
   exact zaa rfl (Ext.refl _)
  ·intro x W he f
   have h0:x 71 = .bool true:=f.1
   have h1:x 73 = .bool true:=f.2.1
   go_wp
   exact zaa rfl (Ext.refl _)
  ·intro x W he f
   have h0:x 74 = .bool true:=f.1
   go_wp
   exact zaa rfl (Ext.refl _)
  ·intro x W he f
   have h0:x 17 = .bool true:=f.1
   have hg:x 75 = .bool true:=f.2.1
   go_wp
   exact zaa rfl (Ext.refl _)
  ·intro x W he f
   have h0:x 75 = .bool true:=f.1
   have h1:x 76 = .bool true:=f.2.1
   go_wp
   exact zaa rfl (Ext.refl _)
  ·intro x W he f
   have h0:x 77 = .bool true:=f.1
   go_wp
   exact zaa rfl (Ext.refl _)
  ·intro x W he f
   have h0:x 6 = .pointer (some ⟨g4,0,none⟩):=f.1
   have hg:x 78 = .bool true:=f.2.1
   go_wp
   exact zaa rfl (Ext.refl _)
  ·intro x W he f
   have h0:x 79 = .pointer (some ⟨g4,1,none⟩):=f.1
   have hg:x 78 = .bool true:=f.2.1
   go_wp
   exact zaa rfl (Ext.refl _)
  ·intro x W he f
   have h0:x 80 = .pointer (some ⟨g4,2,none⟩):=f.1
   have hg:x 78 = .bool true:=f.2.1
   have c2:=(rr4.ext he).cell (j:=2) rfl
   go_wp
   exact zaa rfl (Ext.refl _)
  ·intro x W he f
   have h0:x 81 = .slice D2 1 nd2:=f.1
   have hg:x 78 = .bool true:=f.2.1
   go_wp
   exact zaa rfl (Ext.refl _)
  ·intro x W he f
   have h0:x 82=I 1:=f.1
   have hg:x 78 = .bool true:=f.2.1
   go_wp
   exact zaa rfl (Ext.refl _)
  ·intro x W he f
   have h0:x 78 = .bool true:=f.1
   have h1:x 83 = .bool true:=f.2.1
   go_wp
   exact zaa rfl (Ext.refl _)
  ·intro x W he f
   have h0:x 84 = .bool true:=f.1
   go_wp
   exact zaa rfl (Ext.refl _)
  ·intro x W he f
   have h0:x 5 = .pointer (some ⟨g3,0,none⟩):=f.1
   have hg:x 85 = .bool true:=f.2.1
   have c0:=(rr3.ext he).cell (j:=0) rfl
   have c1:=(rr3.ext he).cell (j:=1) rfl
   have c2:=(rr3.ext he).cell (j:=2) rfl
   go_wp
   exact zaa rfl (Ext.refl _)
  ·intro x W he f
   have h0:x 5 = .pointer (some ⟨g3,0,none⟩):=f.1
   have hg:x 85 = .bool true:=f.2.1
   go_wp
   exact zaa rfl (Ext.refl _)
  ·intro x W he f
   have h0:x 87 = .pointer (some ⟨g3,0,none⟩):=f.1
   have hg:x 85 = .bool true:=f.2.1
   have c0:=(rr3.ext he).cell (j:=0) rfl
   go_wp
   exact zaa rfl (Ext.refl _)
  ·intro x W he f
   have h0:x 86 = .agg #[.slice J1 2 nj1,.slice J2 1 nj2,.slice J3 0 nj3]:=f.1
   have h1:x 88 = .slice J1 2 nj1:=f.2.1
   have hg:x 85 = .bool true:=f.2.2.1
   have HC:=Lib.hid (zhq (sJ.ext he) (sJ.ext he).all small_stJ (by decide))
   go_wp
   refine HC.out.mono ?_
   rintro r W2 ⟨u0,u1,u2,u3,rfl,hb,hn,hx2⟩
   rw [zt1] at hn
   rw [show zaq stJ.all []=stJ.all by kernel_rfl] at hb
   obtain⟨E0,ne0,rfl,-,-⟩:∃ A c,u0=Value.slice A 2 c∧2≤c∧c≤9223372036854775807:=hb.form
   obtain⟨E1,ne1,rfl,-,-⟩:∃ A c,u1=Value.slice A 2 c∧2≤c∧c≤9223372036854775807:=hn.all.form
   obtain⟨E2,ne2,rfl,-,-⟩:∃ A c,u2=Value.slice A 0 c∧0≤c∧c≤9223372036854775807:=hn.entries.form
   obtain⟨E3,ne3,rfl,-,-⟩:∃ A c,u3=Value.slice A 0 c∧0≤c∧c≤9223372036854775807:=hn.pruned.form
   dsimp only
   go_wp
   exact zaa ⟨E0,ne0,E1,ne1,E2,ne2,E3,ne3,rfl⟩ hx2
  ·intro x W he f
   obtain⟨A0,n0,A1,n1,A2,n2,A3,n3,h0⟩:∃ A0 n0 A1 n1 A2 n2 A3 n3,x 89=dltV (.slice A0 2 n0) (.slice A1 2 n1) (.slice A2 0 n2) (.slice A3 0 n3):=f.1
   have hg:x 85 = .bool true:=f.2.1
   have hfl:=znr (.slice A0 2 n0) (.slice A1 2 n1) (.slice A2 0 n2) (.slice A3 0 n3) W
   go_wp
   exact zaa (v:=.agg #[.slice A1 2 n1,.slice A2 0 n2,.slice A3 0 n3]) ⟨A1,n1,A2,n2,A3,n3,rfl⟩ (Ext.refl _)
  ·intro x W he f
   obtain⟨A1,n1,A2,n2,A3,n3,h0⟩:∃ A1 n1 A2 n2 A3 n3,x 90=stV (.slice A1 2 n1) (.slice A2 0 n2) (.slice A3 0 n3):=f.1
   have hg:x 85 = .bool true:=f.2.1
   have hfl:=zmu (.slice A1 2 n1) (.slice A2 0 n2) (.slice A3 0 n3) W
   go_wp
   exact zaa (v:=.slice A2 0 n2) ⟨A2,n2,rfl⟩ (Ext.refl _)
  ·intro x W he f
   obtain⟨A2,n2,h0⟩:∃ A2 n2,x 91 = .slice A2 0 n2:=f.1
   have hg:x 85 = .bool true:=f.2.1
   go_wp
   exact zaa rfl (Ext.refl _)
  ·intro x W he f
   have h0:x 92=I 0:=f.1
   have hg:x 85 = .bool true:=f.2.1
   go_wp
   exact zaa rfl (Ext.refl _)
  ·intro x W he f
   have h0:x 85 = .bool true:=f.1
   have h1:x 93 = .bool true:=f.2.1
   go_wp
   exact zaa rfl (Ext.refl _)
  ·intro x W he f
   have h0:x 94 = .bool true:=f.1
   go_wp
   exact zaa rfl (Ext.refl _)
  ·intro x W he f
   have h0:x 7 = .pointer (some ⟨g5,0,none⟩):=f.1
   have hg:x 95 = .bool true:=f.2.1
   have c0:=(rr5.ext he).cell (j:=0) rfl
   have c1:=(rr5.ext he).cell (j:=1) rfl
   have c2:=(rr5.ext he).cell (j:=2) rfl
   go_wp
   exact zaa rfl (Ext.refl _)
  ·intro x W he f
   have h0:x 5 = .pointer (some ⟨g3,0,none⟩):=f.1
   have hg:x 95 = .bool true:=f.2.1
   have c0:=(rr3.ext he).cell (j:=0) rfl
   have c1:=(rr3.ext he).cell (j:=1) rfl
   have c2:=(rr3.ext he).cell (j:=2) rfl
   go_wp
   exact zaa rfl (Ext.refl _)
  ·intro x W he f
   have h0:x 96 = .agg #[.slice K1 2 nk1,.slice K2 1 nk2,.slice K3 0 nk3]:=f.1
   have h1:x 97 = .agg #[.slice J1 2 nj1,.slice J2 1 nj2,.slice J3 0 nj3]:=f.2.1
   have hg:x 95 = .bool true:=f.2.2.1
   have HC:=Lib.hid (zla (sK.ext he) (sJ.ext he))
   rw [show zg6 stJ stJ=true from sameSt_iff.2 rfl] at HC
   go_wp
   refine HC.out.mono ?_
   rintro r W2 ⟨rfl,hx2⟩
   dsimp only
   go_wp
   exact zaa rfl hx2
  ·intro x W he f
   have h0:x 95 = .bool true:=f.1
   have h1:x 98 = .bool true:=f.2.1
   go_wp
   exact zaa rfl (Ext.refl _)
  ·intro x W he f
   have h0:x 99 = .bool true:=f.1
   go_wp
   exact zaa rfl (Ext.refl _)
  ·intro x W he f
   have h0:x 8=I 0:=f.1
   have hg:x 100 = .bool true:=f.2.1
   go_wp
   exact zaa rfl (Ext.refl _)
  ·intro x W he f
   have h0:x 101=I 0:=f.1
   have hg:x 100 = .bool true:=f.2.1
   go_wp
   exact zaa rfl (Ext.refl _)
  ·intro x W he f
   have h0:x 100 = .bool true:=f.1
   have h1:x 102 = .bool true:=f.2.1
   go_wp
   exact zaa rfl (Ext.refl _)
  ·intro x W he f
   have h0:x 103 = .bool true:=f.1
   go_wp
   exact zaa rfl (Ext.refl _)
  ·intro x W he f
   have h0:x 10=I 160:=f.1
   have hg:x 104 = .bool true:=f.2.1
   go_wp
   exact zaa rfl (Ext.refl _)
  ·intro x W he f
   have h0:x 105=I 160:=f.1
   have hg:x 104 = .bool true:=f.2.1
   go_wp
   exact zaa rfl (Ext.refl _)
  ·intro x W he f
   have h0:x 104 = .bool true:=f.1
   have h1:x 106 = .bool true:=f.2.1
   go_wp
   exact zaa rfl (Ext.refl _)
  ·intro x W he f
   have h0:x 107 = .bool true:=f.1
   go_wp
   exact zaa rfl (Ext.refl _)
  ·intro x W he f
   have h0:x 11 = .pointer (some ⟨g7,0,none⟩):=f.1
   have hg:x 108 = .bool true:=f.2.1
   go_wp
   exact zaa rfl (Ext.refl _)
  ·intro x W he f
   have h0:x 109 = .pointer (some ⟨g7,0,none⟩):=f.1
   have hg:x 108 = .bool true:=f.2.1
   have c0:=(rr7.ext he).cell (j:=0) rfl
   go_wp
   exact zaa rfl (Ext.refl _)
  ·intro x W he f
   have h0:x 110 = .slice R1 1 nr1:=f.1
   have hg:x 108 = .bool true:=f.2.1
   have HC:=Lib.hid (zfi [49] (sR.ext he).all)
   rw [zt6] at HC
   go_wp
   refine HC.out.mono ?_
   rintro r W2 ⟨rfl,rfl⟩
   dsimp only
   go_wp
   exact zaa rfl (Ext.refl _)
  ·intro x W he f
   have h0:x 111=U 4:=f.1
   have hg:x 108 = .bool true:=f.2.1
   go_wp
   exact zaa rfl (Ext.refl _)
  ·intro x W he f
   have h0:x 108 = .bool true:=f.1
   have h1:x 112 = .bool true:=f.2.1
   go_wp
   exact zaa rfl (Ext.refl _)
  ·intro x W he f
   have h0:x 113 = .bool true:=f.1
   go_wp
   exact zaa rfl (Ext.refl _)
  ·intro x W he f
   have h0:x 12=I 0:=f.1
   have hg:x 114 = .bool true:=f.2.1
   go_wp
   exact zaa rfl (Ext.refl _)
  ·intro x W he f
   have h0:x 115=I 0:=f.1
   have hg:x 114 = .bool true:=f.2.1
   go_wp
   exact zaa rfl (Ext.refl _)
  ·intro x W he f
   have h0:x 114 = .bool true:=f.1
   have h1:x 116 = .bool true:=f.2.1
   go_wp
   exact zaa rfl (Ext.refl _)
  ·intro x W he f
   have h0:x 117 = .bool true:=f.1
   go_wp
   exact zaa rfl (Ext.refl _)
  ·intro x W he f
   have h0:x 14=I 2:=f.1
   have hg:x 118 = .bool true:=f.2.1
   go_wp
   exact zaa rfl (Ext.refl _)
  ·intro x W he f
   have h0:x 119=I 2:=f.1
   have hg:x 118 = .bool true:=f.2.1
   go_wp
   exact zaa rfl (Ext.refl _)
  ·intro x W he f
   have h0:x 118 = .bool true:=f.1
   have h1:x 120 = .bool true:=f.2.1
   go_wp
   exact zaa rfl (Ext.refl _)
  ·intro x W he f
   have h0:x 121 = .bool true:=f.1
   go_wp
   exact zaa rfl (Ext.refl _)
  ·intro x W he f
   have h0:x 15 = .pointer (some ⟨g9,0,none⟩):=f.1
   have hg:x 122 = .bool true:=f.2.1
   go_wp
   exact zaa rfl (Ext.refl _)
  ·intro x W he f
   have h0:x 123 = .pointer (some ⟨g9,0,none⟩):=f.1
   have hg:x 122 = .bool true:=f.2.1
   have c0:=(rr9.ext he).cell (j:=0) rfl
   go_wp
   exact zaa rfl (Ext.refl _)
  ·intro x W he f
   have h0:x 124=St [35,110]:=f.1
   have hg:x 122 = .bool true:=f.2.1
   go_wp
   exact zaa rfl (Ext.refl _)
  ·intro x W he f
   have h0:x 122 = .bool true:=f.1
   have h1:x 125 = .bool true:=f.2.1
   go_wp
   exact zaa rfl (Ext.refl _)
  ·intro x W he f
   have h0:x 126 = .bool true:=f.1
   go_wp
   exact zaa rfl (Ext.refl _)
  ·intro x W he f
   have h0:x 16 = .bool true:=f.1
   have hg:x 127 = .bool true:=f.2.1
   go_wp
   exact zaa rfl (Ext.refl _)
  ·intro x W he f
   have h0:x 127 = .bool true:=f.1
   have h1:x 128 = .bool true:=f.2.1
   go_wp
   exact zaa rfl (Ext.refl _)
  ·intro x W he f
   have h0:x 129 = .bool true:=f.1
   go_wp
   exact zaa rfl (Ext.refl _)
  ·intro x W he f
   have h0:x 5 = .pointer (some ⟨g3,0,none⟩):=f.1
   have hg:x 130 = .bool true:=f.2.1
   have c0:=(rr3.ext he).cell (j:=0) rfl
   have c1:=(rr3.ext he).cell (j:=1) rfl
   have c2:=(rr3.ext he).cell (j:=2) rfl
   go_wp
   exact zaa rfl (Ext.refl _)
  ·intro x W he f
   have h0:x 131 = .agg #[.slice J1 2 nj1,.slice J2 1 nj2,.slice J3 0 nj3]:=f.1
   have hg:x 130 = .bool true:=f.2.1
   have HC:=Lib.hid (zgj (sJ.ext he) small_stJ)
   rw [zru] at HC
   go_wp
   refine HC.out.mono ?_
   rintro r W2 ⟨rfl,hx2⟩
   dsimp only
   go_wp
   exact zaa rfl hx2
  ·intro x W he f
   have h0:x 130 = .bool true:=f.1
   have h1:x 132 = .bool true:=f.2.1
   go_wp
   exact zaa rfl (Ext.refl _)
  ·intro x W he f
   have h0:x 133 = .bool true:=f.1
   go_wp
   exact zaa rfl (Ext.refl _)
  ·intro x W he f
   have h0:x 5 = .pointer (some ⟨g3,0,none⟩):=f.1
   have hg:x 134 = .bool true:=f.2.1
   have c0:=(rr3.ext he).cell (j:=0) rfl
   have c1:=(rr3.ext he).cell (j:=1) rfl
   have c2:=(rr3.ext he).cell (j:=2) rfl
   go_wp
   exact zaa rfl (Ext.refl _)
  ·intro x W he f
   have h0:x 135 = .agg #[.slice J1 2 nj1,.slice J2 1 nj2,.slice J3 0 nj3]:=f.1
   have hg:x 134 = .bool true:=f.2.1
   have HC:=Lib.hid (zgt (sJ.ext he) small_stJ)
   go_wp
   refine HC.out.mono ?_
   rintro r W2 ⟨u1,u2,u3,rfl,hn,hx2⟩
   have hn:=hn.at.mono (S':=fun _=>True) (fun _ _ _=>trivial)
   obtain⟨E1,ne1,rfl,-,-⟩:∃ A c,u1=Value.slice A 2 c∧2≤c∧c≤9223372036854775807:=hn.all.form
   obtain⟨E2,ne2,rfl,-,-⟩:∃ A c,u2=Value.slice A 1 c∧1≤c∧c≤9223372036854775807:=hn.entries.form
   obtain⟨E3,ne3,rfl,-,-⟩:∃ A c,u3=Value.slice A 0 c∧0≤c∧c≤9223372036854775807:=hn.pruned.form
   have HN:=Lib.hid hn
   clear hn
   dsimp only
   go_wp
   exact zaa ⟨E1,ne1,E2,ne2,E3,ne3,rfl,HN.out⟩ hx2
  ·intro x W he f
   have h0:x 5 = .pointer (some ⟨g3,0,none⟩):=f.1
   have hg:x 134 = .bool true:=f.2.1
   have c0:=(rr3.ext he).cell (j:=0) rfl
   have c1:=(rr3.ext he).cell (j:=1) rfl
   have c2:=(rr3.ext he).cell (j:=2) rfl
   go_wp
   exact zaa rfl (Ext.refl _)
  ·intro x W he f
   obtain⟨A1,n1,A2,n2,A3,n3,h0,hs⟩:∃ A1 n1 A2 n2 A3 n3,x 136=stV (.slice A1 2 n1) (.slice A2 1 n2) (.slice A3 0 n3)∧StAt W (fun _=>True) stJ (.slice A1 2 n1) (.slice A2 1 n2) (.slice A3 0 n3):=f.1
   have h1:x 137 = .agg #[.slice J1 2 nj1,.slice J2 1 nj2,.slice J3 0 nj3]:=f.2.1
   have hg:x 134 = .bool true:=f.2.2.1
   have HC:=Lib.hid (zla hs (sJ.ext he))
   rw [show zg6 stJ stJ=true from sameSt_iff.2 rfl] at HC
   clear hs
   go_wp
   refine HC.out.mono ?_
   rintro r W2 ⟨rfl,hx2⟩
   dsimp only
   go_wp
   exact zaa rfl hx2
  ·intro x W he f
   have h0:x 134 = .bool true:=f.1
   have h1:x 138 = .bool true:=f.2.1
   go_wp
   exact zaa rfl (Ext.refl _)
 case hend =>
  intro x W he f
  have h139:x 139 = .bool true:=f.2.2.2.2.2.2.2.2.2.2.2.2.2.2.2.2.2.2.2.2.2.2.2.2.2.2.2.2.2.2.2.2.2.2.2.2.2.2.2.2.2.2.2.2.2.2.2.2.2.2.2.2.2.2.2.2.2.2.2.2.2.2.2.2.2.2.2.2.2.2.1
  clear f
  have HX:=Lib.hid (hxw.trans he)
  clear he sA rr1 sB rr2 sJ rr3 sD sD0 rr4 sK rr5 rr6 sR rr7 rr8 rr9
  simp only [List.length_cons,List.length_nil,Nat.reduceAdd,List.take_succ_cons,List.take_zero,List.filterMap_cons,List.filterMap_nil,List.drop_succ_cons,List.drop_zero,zaz,Act.put,List.setIfInBounds_toArray,List.set_cons_succ,List.set_cons_zero,List.append_eq,List.cons_append,List.nil_append,h139]
  go_wp
  go_wp2_with fail
  go_ret
  exact⟨rfl,HX.out⟩
end
section
structure OwnLaw (s t:State) (p k:Str):Prop where
 of:ofM t.all p=ofM s.all p+1
 drop:zil t.all p=zil s.all p
 may:0 < ofM s.all p→mayS t=true
 each:∀ e ∈ s.entries,∃ x,zax t.entries e.key=some x∧(x.key ≠ k→x=e)
 len:t.entries.length≤s.entries.length+1
end
section
open Go.Sort
structure LimE (n:Nat) (e:Entry):Prop where
 seen:e.seen.length≤n
 counts:e.counts.length≤n
 items:e.items.length≤n
 dots:∀ it ∈ e.items,it.2.length≤n
 places:(zaw e.items).length≤n
structure LimS (n:Nat) (s:State):Prop where
 all:s.all.length≤n
 entries:s.entries.length≤n
 pruned:s.pruned.length≤n
 each:∀ e ∈ s.entries,LimE n e
theorem LimE.small {n:Nat} {e:Entry} (h:LimE n e) (hn:n≤549755813888):SmallE e :=
 ⟨Nat.le_trans h.seen hn,Nat.le_trans h.counts hn,Nat.le_trans h.items hn,fun it hit=>Nat.le_trans (h.dots it hit) hn,Nat.le_trans h.places hn⟩
theorem LimS.small {n:Nat} {s:State} (h:LimS n s) (hn:n≤549755813888):SmallS s :=
 ⟨Nat.le_trans h.all hn,Nat.le_trans h.entries hn,Nat.le_trans h.pruned hn,fun e he=>(h.each e he).small hn⟩
theorem LimE.mono {n m:Nat} {e:Entry} (h:LimE n e) (hn:n≤m):LimE m e :=
 ⟨Nat.le_trans h.seen hn,Nat.le_trans h.counts hn,Nat.le_trans h.items hn,fun it hit=>Nat.le_trans (h.dots it hit) hn,Nat.le_trans h.places hn⟩
theorem zhu {s:State} (h:zb3 s=false):LimS 400 s:=by
 simp only [zb3,Bool.or_eq_false_iff,decide_eq_false_iff_not,Nat.not_lt] at h
 obtain⟨h1,h2,h3,h4,-⟩:=h
 refine ⟨by omega,by omega,by omega,fun e he=>?_⟩
 cases hl:zbx e with
 | true=>rw [List.any_eq_true.2 ⟨e,he,hl⟩] at h4;cases h4
 | false =>
  simp only [zbx,Bool.or_eq_false_iff,decide_eq_false_iff_not,Nat.not_lt] at hl
  obtain⟨-,k2,k3,k4,-⟩:=hl
  have h5:=zrx e.items
  have h6:=zlk e.items
  exact⟨by omega,by omega,by omega,fun it hit=>by have:=zry hit;omega,by omega⟩
end
section
theorem zkf {α:Type} {P:α→Bool} {pre:List α} {x:α} (hx:P x=true):((pre++[x]).filter P).length=(pre.filter P).length+1:=by
 rw [List.filter_append,List.length_append,List.filter_cons,if_pos hx];rfl
theorem zkg {α:Type} {P:α→Bool} {pre:List α} {x:α} (hx:P x=false):((pre++[x]).filter P).length=(pre.filter P).length:=by
 rw [List.filter_append,List.length_append,List.filter_cons,if_neg (by rw [hx];simp)];rfl
def zd1 (all:List Mark) (ps:List Str) (base:List Mark):Bool:=base.any fun m=>decide (ofM all m.1 < m.2) && !decide (m.1 ∈ ps)
theorem zny (all:List Mark) (ps:List Str) (pre:List Mark) (m:Mark):zd1 all ps (pre++[m])=(zd1 all ps pre || (decide (ofM all m.1 < m.2) && !decide (m.1 ∈ ps))):=by
 unfold zd1;rw [List.any_append];simp
theorem zhv {all base:List Mark} {P:Mark→Bool} (hb:GoodM base):zar all (base.filter P)=true↔∀ m ∈ base,P m=true→m.2≤ofM all m.1:=by
 have hg:GoodM (base.filter P):=⟨hb.1.filter _,fun m hm=>hb.2 m (List.mem_filter.1 hm).1⟩
 rw [coversM_iff]
 constructor
 ·intro h m hm hp
  have hm':=List.mem_filter.2 ⟨hm,hp⟩
  have:=h m.1
  rwa [hg.1.of hm' (hb.2 m hm).1] at this
 ·intro h s
  refine ofM_le.2 fun m hm e _=>?_
  subst e
  obtain⟨h1,h2⟩:=List.mem_filter.1 hm
  exact h m h1 h2
theorem znz {s d:State} {base:List Mark} (hb:GoodM base):zc7 s base d=if zd1 s.all (s.pruned++d.pruned) base then (za4,160) else (ze4 s d,0):=by
 unfold zc7
 cases h:zd1 s.all (s.pruned++d.pruned) base with
 | true =>
  obtain⟨m,hm,h1⟩:=List.any_eq_true.1 h
  simp only [Bool.and_eq_true,decide_eq_true_eq,Bool.not_eq_true',decide_eq_false_iff_not] at h1
  rw [if_neg,if_pos rfl]
  intro hc
  have:=(zhv hb).1 hc m hm (by unfold zbs;simp only [zhj,Bool.not_eq_true',decide_eq_false_iff_not];exact h1.2)
  omega
 | false =>
  rw [if_pos,if_neg (by simp)]
  refine (zhv hb).2 fun m hm hp=>?_
  have h1:=List.any_eq_false.1 h m hm
  unfold zbs at hp
  simp only [zhj,Bool.not_eq_true',decide_eq_false_iff_not] at hp
  simp only [Bool.and_eq_true,decide_eq_true_eq,Bool.not_eq_true',decide_eq_false_iff_not,not_and,Classical.not_not] at h1
  exact Nat.le_of_not_lt fun hlt=>hp (h1 hlt)
theorem zjp (a b:List Mark):zar (zaq a b) a=true:=coversM_iff.2 fun s=>by rw [zje];omega
theorem zit (a b:List Mark):zar (zaq a b) b=true:=coversM_iff.2 fun s=>by rw [zje];omega
end
section
open Go.RowKit Go.Shelf
structure Arg2S (W:World) (N q:Nat) (a b:State) (base:List Mark) (a1 a2 a3 b1 b2 b3 c:Value):Prop where
 ra:RowIs W q 30 [a1,a2,a3] []
 rb:RowIs W (q+1) 30 [b1,b2,b3] []
 sa:StAt W (fun x=>x < N) a a1 a2 a3
 sb:StAt W (fun x=>x < N) b b1 b2 b3
 sc:Sl markT W (fun x=>x < N) c base
theorem Arg2S.ext {W W':World} {N q:Nat} {a b:State} {base:List Mark} {a1 a2 a3 b1 b2 b3 c:Value} (h:Arg2S W N q a b base a1 a2 a3 b1 b2 b3 c) (he:Ext W W'):Arg2S W' N q a b base a1 a2 a3 b1 b2 b3 c :=
 ⟨h.ra.ext he,h.rb.ext he,h.sa.ext he,h.sb.ext he,h.sc.ext (by decide) he⟩
structure BoxD (W:World) (q:Nat) (d:State) (base:List Mark) (u0 u1 u2 u3:Value):Prop where
 row:RowIs W q 64 [u0,u1,u2,u3] []
 st:StAt W (fun _=>True) d u1 u2 u3
 ba:Sl markT W (fun _=>True) u0 base
theorem BoxD.ext {W W':World} {q:Nat} {d:State} {base:List Mark} {u0 u1 u2 u3:Value} (h:BoxD W q d base u0 u1 u2 u3) (he:Ext W W'):BoxD W' q d base u0 u1 u2 u3:=⟨h.row.ext he,h.st.ext he,h.ba.ext (by decide) he⟩
structure BoxT (W:World) (q:Nat) (a:State) (a1 a2 a3:Value):Prop where
 row:RowIs W q 30 [a1,a2,a3] []
 st:StAt W (fun _=>True) a a1 a2 a3
theorem BoxT.ext {W W':World} {q:Nat} {a:State} {a1 a2 a3:Value} (h:BoxT W q a a1 a2 a3) (he:Ext W W'):BoxT W' q a a1 a2 a3:=⟨h.row.ext he,h.st.ext he⟩
theorem wrap_small {n:Nat} (h:n < 1000):IntKind.i64.wrap (n:Int)=(n:Int):=by
 first
 | (unfold IntKind.wrap;simp [IntKind.bits,IntKind.signed];omega)
 | (simp [IntKind.wrap];omega)
 | (simp only [IntKind.wrap];split <;> omega)
theorem zpn {α:Type} {a b p q:List α} {x:α} (h:a++b=p++x :: q) (hj:p.length < a.length):∃ r,a=p++x :: r:=by
 rw [List.append_eq_append_iff] at h
 rcases h with ⟨c,h1,h2⟩ | ⟨c,h1,h2⟩
 ·have:=congrArg List.length h1;simp at this;omega
 ·cases c with
  | nil=>have:=congrArg List.length h1;simp at this;omega
  | cons y c =>
   simp only [List.cons_append,List.cons.injEq] at h2
   exact⟨c,by rw [h1,h2.1]⟩
theorem zn0 {α:Type} {a b p q:List α} {x:α} (h:a++b=p++x :: q) (hj:a.length≤p.length):∃ r,p=a++r∧b=r++x :: q:=by
 rw [List.append_eq_append_iff] at h
 rcases h with ⟨c,h1,h2⟩ | ⟨c,h1,h2⟩
 ·exact⟨c,h1,h2⟩
 ·have hc:c = []:=List.length_eq_zero_iff.1 (by have:=congrArg List.length h1;simp at this;omega)
  subst hc
  rw [List.append_nil] at h1
  exact⟨[],by rw [h1,List.append_nil],by simpa using h2.symm⟩
theorem zpo {S1 S2 S3:Nat→Prop} {a b:State} {a1 a2 a3 b1 b2 b3 vc:Value} {base:List Mark} {w:World} (ha:StAt w S1 a a1 a2 a3) (hb:StAt w S2 b b1 b2 b3) (hc:Sl markT w S3 vc base) (ra:∀ e ∈ a.entries,RoomE e) (rb:∀ e ∈ b.entries,RoomE e) :
  Calls Tryz.prog 7 #[stV a1 a2 a3,stV b1 b2 b3,vc] w fun r w'=>r = .returned (.bool true)∧Ext w w':=by
 obtain⟨sa,se,sp⟩:=a
 obtain⟨ta,te,tp⟩:=b
 obtain⟨A1,n1,rfl,-,-⟩:=ha.all.form
 obtain⟨A2,n2,rfl,-,-⟩:=ha.entries.form
 obtain⟨A3,n3,rfl,-,-⟩:=ha.pruned.form
 obtain⟨B1,m1,rfl,-,-⟩:=hb.all.form
 obtain⟨B2,m2,rfl,-,-⟩:=hb.entries.form
 obtain⟨B3,m3,rfl,-,-⟩:=hb.pruned.form
 obtain⟨C,mc,rfl,-,-⟩:=hc.form
 have hx0:Ext w ((w.alloc (.cells #[.slice A1 sa.length n1,.slice A2 se.length n2,.slice A3 sp.length n3] 30)).alloc (.cells #[.slice B1 ta.length m1,.slice B2 te.length m2,.slice B3 tp.length m3] 30)):=((Ext.refl w).alloc _).alloc _
 have hA0:Arg2S ((w.alloc (.cells #[.slice A1 sa.length n1,.slice A2 se.length n2,.slice A3 sp.length n3] 30)).alloc (.cells #[.slice B1 ta.length m1,.slice B2 te.length m2,.slice B3 tp.length m3] 30)) w.heap.size w.heap.size ⟨sa,se,sp⟩ ⟨ta,te,tp⟩ base (.slice A1 sa.length n1) (.slice A2 se.length n2) (.slice A3 sp.length n3) (.slice B1 ta.length m1) (.slice B2 te.length m2) (.slice B3 tp.length m3) (.slice C base.length mc) :=
  ⟨(zac w 30 [.slice A1 sa.length n1,.slice A2 se.length n2,.slice A3 sp.length n3]).alloc _,by have h:=zac (w.alloc (.cells #[.slice A1 sa.length n1,.slice A2 se.length n2,.slice A3 sp.length n3] 30)) 30 [.slice B1 ta.length m1,.slice B2 te.length m2,.slice B3 tp.length m3];simp only [World.size_alloc] at h;exact h,
   (ha.mono (S':=fun x=>x < w.heap.size) (fun x hx _=>hx)).ext hx0,(hb.mono (S':=fun x=>x < w.heap.size) (fun x hx _=>hx)).ext hx0,(hc.mono (S':=fun x=>x < w.heap.size) (by decide) (fun x hx _=>hx)).ext (by decide) hx0⟩
 have hz0:w.heap.size+2≤((w.alloc (.cells #[.slice A1 sa.length n1,.slice A2 se.length n2,.slice A3 sp.length n3] 30)).alloc (.cells #[.slice B1 ta.length m1,.slice B2 te.length m2,.slice B3 tp.length m3] 30)).heap.size:=by simp
 have RA:=Lib.hid ra
 have RB:=Lib.hid rb
 clear ha ra hb rb hc
 have HL1:=Lib.hid (zjc hA0.sa RA.out)
 have c0:=hA0.ra.cell (j:=0) rfl
 have c1:=hA0.ra.cell (j:=1) rfl
 have c2:=hA0.ra.cell (j:=2) rfl
 have HA:=Lib.hid hA0
 have HX:=Lib.hid hx0
 clear hx0 hA0
 go_enter Tryz.func7,Tryz.ntmps7
 go_wp2_with fail
 generalize ((w.alloc (.cells #[.slice A1 sa.length n1,.slice A2 se.length n2,.slice A3 sp.length n3] 30)).alloc (.cells #[.slice B1 ta.length m1,.slice B2 te.length m2,.slice B3 tp.length m3] 30))=W0 at *
 refine HL1.out.mono ?_
 rintro r W1 ⟨rfl,hx1⟩
 clear c0 c1 c2 HL1
 have HA:=Lib.hid (HA.out.ext hx1)
 have HX:=Lib.hid (HX.out.trans hx1)
 have hz0:=Nat.le_trans hz0 hx1.size
 clear hx1
 cases hl1:zb3 ⟨sa,se,sp⟩ with
 | true =>
  go_wp2_with fail
  refine (zd0 _).mono ?_
  rintro r Z ⟨rfl,hxz⟩
  go_wp2_with fail
  go_ret
  exact⟨rfl,HX.out.trans hxz⟩
 | false =>
  have SMA:=Lib.hid (zgv hl1)
  have LSA:=Lib.hid (zhu hl1)
  clear hl1
  have HL2:=Lib.hid (zjc HA.out.sb RB.out)
  have c0:=HA.out.rb.cell (j:=0) rfl
  have c1:=HA.out.rb.cell (j:=1) rfl
  have c2:=HA.out.rb.cell (j:=2) rfl
  go_wp2_with fail
  refine HL2.out.mono ?_
  rintro r W2 ⟨rfl,hx1⟩
  clear c0 c1 c2 HL2
  have HA:=Lib.hid (HA.out.ext hx1)
  have HX:=Lib.hid (HX.out.trans hx1)
  have hz0:=Nat.le_trans hz0 hx1.size
  clear hx1
  cases hl1:zb3 ⟨ta,te,tp⟩ with
  | true =>
   go_wp2_with fail
   refine (zd0 _).mono ?_
   rintro r Z ⟨rfl,hxz⟩
   go_wp2_with fail
   go_ret
   exact⟨rfl,HX.out.trans hxz⟩
  | false =>
   have SMB:=Lib.hid (zgv hl1)
   have LSB:=Lib.hid (zhu hl1)
   clear hl1
   by_cases h60:60 < base.length
   ·have q1:decide ((60:Int) < (base.length:Int))=true:=decide_eq_true (by omega)
    have q2:(base.length:Int) > 60:=by omega
    clear h60
    go_wp2_with fail
    refine (zd0 _).mono ?_
    rintro r Z ⟨rfl,hxz⟩
    go_wp2_with fail
    go_ret
    exact⟨rfl,HX.out.trans hxz⟩
   ·have q1:decide ((60:Int) < (base.length:Int))=false:=decide_eq_false (by omega)
    have q2:¬ (base.length:Int) > 60:=by omega
    have hbl:base.length≤60:=Nat.not_lt.1 h60
    clear h60
    have HM1:=Lib.hid (zgj HA.out.sa SMA.out)
    have c0:=HA.out.ra.cell (j:=0) rfl
    have c1:=HA.out.ra.cell (j:=1) rfl
    have c2:=HA.out.ra.cell (j:=2) rfl
    go_wp2_with fail
    refine HM1.out.mono ?_
    rintro r W3 ⟨rfl,hx1⟩
    clear HM1 c0 c1 c2 q1 q2
    have HA:=Lib.hid (HA.out.ext hx1)
    have HX:=Lib.hid (HX.out.trans hx1)
    have hz0:=Nat.le_trans hz0 hx1.size
    clear hx1
    cases hm1:mayS ⟨sa,se,sp⟩ with
    | false =>
     go_wp2_with fail
     refine (zd0 _).mono ?_
     rintro r Z ⟨rfl,hxz⟩
     go_wp2_with fail
     go_ret
     exact⟨rfl,HX.out.trans hxz⟩
    | true =>
     have MYA:=Lib.hid hm1
     clear hm1
     have HM1:=Lib.hid (zgj HA.out.sb SMB.out)
     have c0:=HA.out.rb.cell (j:=0) rfl
     have c1:=HA.out.rb.cell (j:=1) rfl
     have c2:=HA.out.rb.cell (j:=2) rfl
     go_wp2_with fail
     refine HM1.out.mono ?_
     rintro r W4 ⟨rfl,hx1⟩
     clear HM1 c0 c1 c2
     have HA:=Lib.hid (HA.out.ext hx1)
     have HX:=Lib.hid (HX.out.trans hx1)
     have hz0:=Nat.le_trans hz0 hx1.size
     clear hx1
     cases hm1:mayS ⟨ta,te,tp⟩ with
     | false =>
      go_wp2_with fail
      refine (zd0 _).mono ?_
      rintro r Z ⟨rfl,hxz⟩
      go_wp2_with fail
      go_ret
      exact⟨rfl,HX.out.trans hxz⟩
     | true =>
      have MYB:=Lib.hid hm1
      clear hm1
      have HSC:=Lib.hid (zhq HA.out.sb HA.out.sc SMB.out (Nat.le_trans hbl (by decide)))
      have c0:=HA.out.rb.cell (j:=0) rfl
      have c1:=HA.out.rb.cell (j:=1) rfl
      have c2:=HA.out.rb.cell (j:=2) rfl
      go_wp2_with fail
      refine HSC.out.mono ?_
      rintro r V ⟨u0,u1,u2,u3,rfl,hO,hS,hx1⟩
      clear HSC c0 c1 c2
      have HA:=Lib.hid (HA.out.ext hx1)
      have HX:=Lib.hid (HX.out.trans hx1)
      have hz0:=Nat.le_trans hz0 hx1.size
      clear hx1
      have JG:=Lib.hid (zeu base [])
      have JL:(zaq base []).length≤60:=by rw [zg2];exact Nat.le_trans (zc9 _) hbl
      generalize zaq base []=JB at *
      obtain⟨D,hD⟩:∃ D,te.filter (zb9 base)=D:=⟨_,rfl⟩
      have hSd:zij ⟨ta,te,tp⟩ base=⟨ta,D,tp⟩:=by rw [← hD];rfl
      rw [hSd] at hS
      have HD:=Lib.hid hD
      clear hD hSd
      have DL:D.length≤te.length:=by rw [← HD.out];exact List.length_filter_le _ _
      have SMD:Hid (SmallS ⟨ta,D,tp⟩):=Lib.hid (by have h:=LSB.out;refine LimS.small (n:=400) ⟨h.all,Nat.le_trans DL h.entries,h.pruned,fun e he=>h.each e ?_⟩ (by decide);rw [← HD.out] at he;exact (List.mem_filter.1 he).1)
      have hO2:=(za5 hO).mono (S':=fun _=>True) (by decide) (fun _ _ _=>trivial)
      have hS2:=hS.at.mono (S':=fun _=>True) (fun _ _ _=>trivial)
      clear hO hS
      obtain⟨D0,y0,rfl,-,-⟩:=hO2.form
      obtain⟨D1,y1,rfl,-,-⟩:=hS2.all.form
      obtain⟨D2,y2,rfl,-,-⟩:=hS2.entries.form
      obtain⟨D3,y3,rfl,-,-⟩:=hS2.pruned.form
      have hx1:=(Ext.refl V).alloc (.cells #[.slice D0 JB.length y0,.slice D1 ta.length y1,.slice D2 D.length y2,.slice D3 tp.length y3] 64)
      have HT:Hid (BoxD (V.alloc (.cells #[.slice D0 JB.length y0,.slice D1 ta.length y1,.slice D2 D.length y2,.slice D3 tp.length y3] 64)) V.heap.size ⟨ta,D,tp⟩ JB (.slice D0 JB.length y0) (.slice D1 ta.length y1) (.slice D2 D.length y2) (.slice D3 tp.length y3)):=Lib.hid ⟨zac V 64 [.slice D0 JB.length y0,.slice D1 ta.length y1,.slice D2 D.length y2,.slice D3 tp.length y3],hS2.ext hx1,hO2.ext (by decide) hx1⟩
      clear hS2 hO2
      have HA:=Lib.hid (HA.out.ext hx1)
      have HX:=Lib.hid (HX.out.trans hx1)
      have hz0:=Nat.le_trans hz0 hx1.size
      clear hx1
      obtain⟨W5,hW5⟩:∃ W5,(V.alloc (.cells #[.slice D0 JB.length y0,.slice D1 ta.length y1,.slice D2 D.length y2,.slice D3 tp.length y3] 64))=W5:=⟨_,rfl⟩
      obtain⟨g,hg⟩:∃ g,V.heap.size=g:=⟨_,rfl⟩
      rw [hW5] at HA HX HT hz0
      rw [hg] at HT
      have HWW:=Lib.hid hW5
      have HGG:=Lib.hid hg
      clear hW5 hg
      go_wp2_with fail
      rw [HWW.out,HGG.out]
      clear HWW HGG
      have HTE:=Lib.hid (fun (pre post:List Entry) (m:Entry) (wr:World) (h:Ext W5 wr) (hl:te=pre++m :: post)=>zb0 HA.out.sb.entries h hl)
      have HDE:=Lib.hid (fun (pre post:List Entry) (m:Entry) (wr:World) (h:Ext W5 wr) (hl:D=pre++m :: post)=>zb0 HT.out.st.entries h hl)
      have HFA:=Lib.hid (fun (pre post:List Entry) (m:Entry) (hl:te=pre++m :: post) (hm:zb9 base m=true)=>show D=pre.filter (zb9 base)++m :: post.filter (zb9 base) by rw [← HD.out,hl,List.filter_append,List.filter_cons,if_pos hm])
      have hte:te.length≤400:=LSB.out.entries
      have hsl:∀ e ∈ te,e.seen.length≤1000000:=fun e he=>Nat.le_trans (LSB.out.each e he).seen (by decide)
      have HSL:=Lib.hid hsl
      clear hsl
      go_loopw [8,9] (fun k i wr=>∃ pre post,te=pre++post∧i=I pre.length∧k=I (pre.filter (zb9 base)).length∧Ext W5 wr) (fun _ i _=>te.length - (intOf i).toNat)
      case atStart=>exact⟨[],te,rfl,rfl,rfl,Ext.refl _⟩
      case round =>
       obtain⟨pre,post,hl,rfl,rfl,hx1⟩:=hrel
       have HX6:=Lib.hid hx1
       have HA:=Lib.hid (HA.out.ext hx1)
       have HT:=Lib.hid (HT.out.ext hx1)
       have HX:=Lib.hid (HX.out.trans hx1)
       have hz0:=Nat.le_trans hz0 hx1.size
       clear hx1
       cases post with
       | cons e post =>
        have hlt:pre.length < te.length:=by rw [hl];simp
        obtain⟨b1,o1,w1,w2,w3,rfl,e0,e1,e2,e3,e4,e5,e6,hEA⟩:=HTE.out pre post e wr HX6.out hl
        obtain⟨Z1,z1,rfl,-,-⟩:=hEA.seen.form
        obtain⟨Z2,z2,rfl,-,-⟩:=hEA.counts.form
        obtain⟨Z3,z3,rfl,-,-⟩:=hEA.items.form
        have HL:=Lib.hid hl
        have HF:=Lib.hid (HFA.out pre post e hl)
        have HEE:=Lib.hid (hEA.ext HX6.out)
        have HCV:=Lib.hid (zfl HA.out.sc (hEA.seen.ext (by decide) HX6.out) (HSL.out e (by rw [hl];simp)))
        clear hl hEA
        have c1:=HA.out.rb.cell (j:=1) rfl
        go_wp2_with fail
        refine HCV.out.mono ?_
        rintro r W6 ⟨rfl,hx1⟩
        clear HCV
        have d0:=hx1.cell e0
        have d1:=hx1.cell e1
        have d2:=hx1.cell e2
        have d3:=hx1.cell e3
        have d4:=hx1.cell e4
        have d5:=hx1.cell e5
        have d6:=hx1.cell e6
        have HX6:=Lib.hid (HX6.out.trans hx1)
        have HEE:=Lib.hid (HEE.out.ext hx1)
        clear e0 e1 e2 e3 e4 e5 e6
        have HA:=Lib.hid (HA.out.ext hx1)
        have HT:=Lib.hid (HT.out.ext hx1)
        have HX:=Lib.hid (HX.out.trans hx1)
        have hz0:=Nat.le_trans hz0 hx1.size
        clear hx1
        clear c1
        have c1:=HA.out.rb.cell (j:=1) rfl
        cases hcv:zar base e.seen with
        | true =>
         have hlk:zb9 base e=false:=by simp [zb9,hcv]
         have HFS:=Lib.hid (zkg (pre:=pre) hlk)
         clear hcv hlk
         go_wp2_with fail
         go_roundw
         case rel=>exact⟨pre++[e],post,by rw [HL.out];simp,by simp,by rw [HFS.out],HX6.out⟩
         case measure=>simp [intOf];omega
        | false =>
         have hlk:zb9 base e=true:=by simp [zb9,hcv]
         have hD2:=HF.out hlk
         have HFS:=Lib.hid (zkf (pre:=pre) hlk)
         clear hcv hlk HF
         generalize pre.filter (zb9 base)=pf at *
         have hlf:pf.length < D.length:=by rw [hD2];simp
         obtain⟨b2,o2,x1,x2,x3,rfl,f0,f1,f2,f3,f4,f5,f6,hEB⟩:=HDE.out pf (post.filter (zb9 base)) e W6 HX6.out hD2
         obtain⟨Y1,q1,rfl,-,-⟩:=hEB.seen.form
         obtain⟨Y2,q2,rfl,-,-⟩:=hEB.counts.form
         obtain⟨Y3,q3,rfl,-,-⟩:=hEB.items.form
         have HEB:=Lib.hid hEB
         clear hEB hD2
         have g2:=HT.out.row.cell (j:=2) rfl
         go_wp2_with fail
         obtain⟨Wd,hWd⟩:∃ W,W6.drew=W:=⟨_,rfl⟩
         have hdr:Ext W6 Wd:=by rw [← hWd];exact (Ext.refl W6).drew
         have HC:=Lib.hid (zns ((HEB.out.ext HX6.out).ext hdr) (HEE.out.ext hdr))
         rw [show zau e e=true from sameE_iff.2 rfl] at HC
         have k0:=hdr.cell d0
         have k1:=hdr.cell d1
         have k2:=hdr.cell d2
         have k3:=hdr.cell d3
         have k4:=hdr.cell d4
         have k5:=hdr.cell d5
         have k6:=hdr.cell d6
         have l0:=hdr.cell f0
         have l1:=hdr.cell f1
         have l2:=hdr.cell f2
         have l3:=hdr.cell f3
         have l4:=hdr.cell f4
         have l5:=hdr.cell f5
         have l6:=hdr.cell f6
         have cc:=hdr.cell c1
         have gg:=hdr.cell g2
         have hx1:=hdr
         have HX6:=Lib.hid (HX6.out.trans hx1)
         have HA:=Lib.hid (HA.out.ext hx1)
         have HT:=Lib.hid (HT.out.ext hx1)
         have HX:=Lib.hid (HX.out.trans hx1)
         have hz0:=Nat.le_trans hz0 hx1.size
         clear hx1
         have HWD:=Lib.hid hWd
         clear hWd hdr HEE HEB c1 g2 d0 f0 d1 f1 d2 f2 d3 f3 d4 f4 d5 f5 d6 f6
         refine wp_region_still_tail 18 (by kernel_rfl) (by kernel_rfl) ?_
         simp only [List.take_succ_cons,List.take_zero,List.drop_succ_cons,List.drop_zero]
         change wpStill _ _ W6.drew (fun a'=>wpList _ _ _ _ a' W6.drew) _ _
         rw [HWD.out]
         generalize hA:Act.mk _ _=A0;repeat (refine wpStill_step (fun K2 hK2=>?_);subst hA;go_simp;generalize hA:Act.mk _ _=A0;refine hK2 A0 ?_;clear hK2 K2)
         refine wpStill_nil ?_
         subst hA
         go_wp2_with fail
         refine HC.out.mono ?_
         rintro r W7 ⟨rfl,hx1⟩
         have HX6:=Lib.hid (HX6.out.trans hx1)
         go_wp2_with fail
         go_roundw
         case rel=>exact⟨pre++[e],post,by rw [HL.out];simp,by simp,by rw [HFS.out];simp,HX6.out⟩
         case measure=>simp [intOf];omega
       | nil =>
        rw [List.append_nil] at hl
        subst hl
        have HKD:=Lib.hid (congrArg List.length HD.out)
        have HAP:=Lib.hid (zhr HA.out.sa HT.out.st HT.out.ba SMA.out SMD.out (Nat.le_trans JL (by decide)))
        have HTL:=Lib.hid (znz (s:=⟨sa,se,sp⟩) (d:=⟨ta,D,tp⟩) JG.out)
        obtain⟨R,hR⟩:∃ R,zc7 ⟨sa,se,sp⟩ JB ⟨ta,D,tp⟩=R:=⟨_,rfl⟩
        rw [hR] at HAP HTL
        clear hR
        obtain⟨⟨va,ve,vp⟩,er⟩:=R
        dsimp only at HAP
        have b1:=HA.out.rb.cell (j:=1) rfl
        have c0:=HA.out.ra.cell (j:=0) rfl
        have c1:=HA.out.ra.cell (j:=1) rfl
        have c2:=HA.out.ra.cell (j:=2) rfl
        have g0:=HT.out.row.cell (j:=0) rfl
        have g1:=HT.out.row.cell (j:=1) rfl
        have g2:=HT.out.row.cell (j:=2) rfl
        have g3:=HT.out.row.cell (j:=3) rfl
        go_wp2_with fail
        rw [HKD.out]
        clear HKD HTE HDE HFA HSL b1
        refine HAP.out.mono ?_
        rintro r V2 ⟨u1,u2,u3,rfl,hS,hx1⟩
        clear HAP c0 c1 c2 g0 g1 g2 g3
        have HA:=Lib.hid (HA.out.ext hx1)
        have HT:=Lib.hid (HT.out.ext hx1)
        have HX:=Lib.hid (HX.out.trans hx1)
        have hz0:=Nat.le_trans hz0 hx1.size
        clear hx1
        have hS2:=hS.mono (S':=fun _=>True) (fun _ _ _=>trivial)
        clear hS
        obtain⟨E1,x1,rfl,-,-⟩:=hS2.all.form
        obtain⟨E2,x2,rfl,-,-⟩:=hS2.entries.form
        obtain⟨E3,x3,rfl,-,-⟩:=hS2.pruned.form
        have hx1:=(Ext.refl V2).alloc (.cells #[.slice E1 va.length x1,.slice E2 ve.length x2,.slice E3 vp.length x3] 30)
        have HU:Hid (BoxT (V2.alloc (.cells #[.slice E1 va.length x1,.slice E2 ve.length x2,.slice E3 vp.length x3] 30)) V2.heap.size ⟨va,ve,vp⟩ (.slice E1 va.length x1) (.slice E2 ve.length x2) (.slice E3 vp.length x3)):=Lib.hid ⟨zac V2 30 [.slice E1 va.length x1,.slice E2 ve.length x2,.slice E3 vp.length x3],hS2.ext hx1⟩
        clear hS2
        have HA:=Lib.hid (HA.out.ext hx1)
        have HT:=Lib.hid (HT.out.ext hx1)
        have HX:=Lib.hid (HX.out.trans hx1)
        have hz0:=Nat.le_trans hz0 hx1.size
        clear hx1
        obtain⟨W8,hW8⟩:∃ W8,(V2.alloc (.cells #[.slice E1 va.length x1,.slice E2 ve.length x2,.slice E3 vp.length x3] 30))=W8:=⟨_,rfl⟩
        obtain⟨g2,hg2⟩:∃ g2,V2.heap.size=g2:=⟨_,rfl⟩
        rw [hW8] at HA HX HT HU hz0
        rw [hg2] at HU
        have HWW:=Lib.hid hW8
        have HGG:=Lib.hid hg2
        clear hW8 hg2
        go_wp2_with fail
        rw [HWW.out,HGG.out]
        clear HWW HGG
        have HJB:=Lib.hid (fun (pre post:List Mark) (m:Mark) (wr:World) (h:Ext W8 wr) (hl:JB=pre++m :: post)=>zcc HT.out.ba h hl)
        have HPA:=Lib.hid (fun (pre post:List Str) (m:Str) (wr:World) (h:Ext W8 wr) (hl:sp=pre++m :: post)=>ze0 HA.out.sa.pruned h hl)
        have HPB:=Lib.hid (fun (pre post:List Str) (m:Str) (wr:World) (h:Ext W8 wr) (hl:tp=pre++m :: post)=>ze0 HA.out.sb.pruned h hl)
        have hspl:sp.length≤400:=LSA.out.pruned
        have htpl:tp.length≤400:=LSB.out.pruned
        go_loopw [12,13] (fun t i wr=>∃ pre post,JB=pre++post∧i=I pre.length∧t = .bool (zd1 sa (sp++tp) pre)∧Ext W8 wr) (fun _ i _=>JB.length - (intOf i).toNat)
        case atStart=>exact⟨[],JB,rfl,rfl,rfl,Ext.refl _⟩
        case round =>
         obtain⟨pre,post,hl,rfl,rfl,hx1⟩:=hrel
         have HX9:=Lib.hid hx1
         have HA:=Lib.hid (HA.out.ext hx1)
         have HT:=Lib.hid (HT.out.ext hx1)
         have HU:=Lib.hid (HU.out.ext hx1)
         have HX:=Lib.hid (HX.out.trans hx1)
         have hz0:=Nat.le_trans hz0 hx1.size
         clear hx1
         have g0:=HT.out.row.cell (j:=0) rfl
         cases post with
         | cons m post =>
          have hlt:pre.length < JB.length:=by rw [hl];simp
          have HL:=Lib.hid hl
          have HBS:=Lib.hid (zny sa (sp++tp) pre m)
          generalize zd1 sa (sp++tp) pre=bh at *
          clear hl
          go_wp2_with fail
          obtain⟨wo,rfl⟩:∃ wo:World,wo=wr:=⟨_,rfl⟩
          go_loopw [14,15] (fun t j wq=>∃ p2 q2,sp++tp=p2++q2∧j=I p2.length∧t = .bool (decide (m.1 ∈ p2))∧Ext wo wq) (fun _ j _=>(sp++tp).length - (intOf j).toNat)
          case atStart=>exact⟨[],sp++tp,rfl,rfl,by simp,Ext.refl _⟩
          case round =>
           obtain⟨p2,q2,hl,rfl,rfl,hx1⟩:=hrel
           have HXQ:=Lib.hid hx1
           have HX9q:=Lib.hid (HX9.out.trans hx1)
           have HA9:=HA
           have HT9:=HT
           have HU9:=HU
           have HX0:=HX
           have hz9:=hz0
           have HA:=Lib.hid (HA.out.ext hx1)
           have HT:=Lib.hid (HT.out.ext hx1)
           have HU:=Lib.hid (HU.out.ext hx1)
           have HX:=Lib.hid (HX.out.trans hx1)
           have hz0:=Nat.le_trans hz0 hx1.size
           clear hx1
           have c2:=HA.out.ra.cell (j:=2) rfl
           have c3:=HA.out.rb.cell (j:=2) rfl
           cases q2 with
           | cons s q2 =>
            have HLQ:=Lib.hid hl
            have hlq:p2.length < sp.length+tp.length:=by have:=congrArg List.length hl;simp at this;omega
            have HMEM:=Lib.hid (show decide (m.1 ∈ p2++[s])=(decide (m.1 ∈ p2) || decide (s=m.1)) by rw [Bool.eq_iff_iff];simp only [List.mem_append,List.mem_singleton,Bool.or_eq_true,decide_eq_true_eq];exact or_congr Iff.rfl eq_comm)
            obtain⟨bm,om,hbm,f0,f1⟩:=HJB.out pre post m _ HX9q.out HL.out
            subst hbm
            generalize decide (m.1 ∈ p2)=kb at *
            by_cases hj:p2.length < sp.length
            ·obtain⟨spq,hspq⟩:=zpn hl hj
             obtain⟨bs,os,hbs,s0⟩:=HPA.out p2 spq s _ HX9q.out hspq
             subst hbs
             clear hspq
             have g0q:=HT.out.row.cell (j:=0) rfl
             clear hl
             go_wp2_with fail
             obtain⟨Wd,hWd⟩:∃ W,wr.drew=W:=⟨_,rfl⟩
             have hdr:Ext wr Wd:=by rw [← hWd];exact (Ext.refl _).drew
             have s0d:=hdr.cell s0
             have f0d:=hdr.cell f0
             have c2d:=hdr.cell c2
             have c3d:=hdr.cell c3
             have g0d:=hdr.cell g0q
             have HXQ:=Lib.hid (HXQ.out.trans hdr)
             have HWD:=Lib.hid hWd
             clear hWd hdr s0 f0 c2 c3 g0q
             cases kb with
             | true =>
              refine wp_region_still_tail 13 (by kernel_rfl) (by kernel_rfl) ?_
              simp only [List.take_succ_cons,List.take_zero,List.drop_succ_cons,List.drop_zero]
              change wpStill _ _ wr.drew (fun a'=>wpList _ _ _ _ a' wr.drew) _ _
              rw [HWD.out]
              generalize hA:Act.mk _ _=A0;repeat (refine wpStill_step (fun K2 hK2=>?_);subst hA;go_simp;generalize hA:Act.mk _ _=A0;refine hK2 A0 ?_;clear hK2 K2)
              refine wpStill_nil ?_
              subst hA
              go_wp2_with fail
              go_roundw
              case rel=>exact⟨p2++[s],q2,by rw [HLQ.out];simp,by simp,by rw [HMEM.out];rfl,HXQ.out⟩
              case measure=>simp [intOf];omega
             | false =>
              refine wp_region_still_tail 13 (by kernel_rfl) (by kernel_rfl) ?_
              simp only [List.take_succ_cons,List.take_zero,List.drop_succ_cons,List.drop_zero]
              change wpStill _ _ wr.drew (fun a'=>wpList _ _ _ _ a' wr.drew) _ _
              rw [HWD.out]
              by_cases hsm:s=m.1
              ·have hsb:(s == m.1)=true:=by simpa using hsm
               generalize hA:Act.mk _ _=A0;repeat (refine wpStill_step (fun K2 hK2=>?_);subst hA;go_simp;generalize hA:Act.mk _ _=A0;refine hK2 A0 ?_;clear hK2 K2)
               refine wpStill_nil ?_
               subst hA
               go_wp2_with fail
               go_roundw
               case rel=>exact⟨p2++[s],q2,by rw [HLQ.out];simp,by simp,by rw [HMEM.out,decide_eq_true hsm];rfl,HXQ.out⟩
               case measure=>simp [intOf];omega
              ·have hsb:(s == m.1)=false:=by simpa using hsm
               generalize hA:Act.mk _ _=A0;repeat (refine wpStill_step (fun K2 hK2=>?_);subst hA;go_simp;generalize hA:Act.mk _ _=A0;refine hK2 A0 ?_;clear hK2 K2)
               refine wpStill_nil ?_
               subst hA
               go_wp2_with fail
               go_roundw
               case rel=>exact⟨p2++[s],q2,by rw [HLQ.out];simp,by simp,by rw [HMEM.out,decide_eq_false hsm];rfl,HXQ.out⟩
               case measure=>simp [intOf];omega
            ·obtain⟨p3,hp3,htp⟩:=zn0 hl (Nat.not_lt.1 hj)
             obtain⟨bs,os,hbs,s0⟩:=HPB.out p3 q2 s _ HX9q.out htp
             subst hbs
             have hpl:p2.length=sp.length+p3.length:=by rw [hp3];simp
             have htl:p3.length < tp.length:=by rw [htp];simp
             have hj2:¬ ((p2.length:Int) < (sp.length:Int)):=by omega
             have hsub:(p2.length:Int) - (sp.length:Int)=(p3.length:Int):=by omega
             have hb3:(p3.length:Int) < 1000:=by omega
             have hb4:=wrap_small (n:=p3.length) (by omega)
             clear hp3 htp hpl
             have g0q:=HT.out.row.cell (j:=0) rfl
             clear hl
             go_wp2_with fail
             obtain⟨Wd,hWd⟩:∃ W,wr.drew=W:=⟨_,rfl⟩
             have hdr:Ext wr Wd:=by rw [← hWd];exact (Ext.refl _).drew
             have s0d:=hdr.cell s0
             have f0d:=hdr.cell f0
             have c2d:=hdr.cell c2
             have c3d:=hdr.cell c3
             have g0d:=hdr.cell g0q
             have HXQ:=Lib.hid (HXQ.out.trans hdr)
             have HWD:=Lib.hid hWd
             clear hWd hdr s0 f0 c2 c3 g0q
             cases kb with
             | true =>
              refine wp_region_still_tail 17 (by kernel_rfl) (by kernel_rfl) ?_
              simp only [List.take_succ_cons,List.take_zero,List.drop_succ_cons,List.drop_zero]
              change wpStill _ _ wr.drew (fun a'=>wpList _ _ _ _ a' wr.drew) _ _
              rw [HWD.out]
              generalize hA:Act.mk _ _=A0;repeat (refine wpStill_step (fun K2 hK2=>?_);subst hA;go_simp;generalize hA:Act.mk _ _=A0;refine hK2 A0 ?_;clear hK2 K2)
              refine wpStill_nil ?_
              subst hA
              go_wp2_with fail
              go_roundw
              case rel=>exact⟨p2++[s],q2,by rw [HLQ.out];simp,by simp,by rw [HMEM.out];rfl,HXQ.out⟩
              case measure=>simp [intOf];omega
             | false =>
              refine wp_region_still_tail 17 (by kernel_rfl) (by kernel_rfl) ?_
              simp only [List.take_succ_cons,List.take_zero,List.drop_succ_cons,List.drop_zero]
              change wpStill _ _ wr.drew (fun a'=>wpList _ _ _ _ a' wr.drew) _ _
              rw [HWD.out]
              by_cases hsm:s=m.1
              ·have hsb:(s == m.1)=true:=by simpa using hsm
               generalize hA:Act.mk _ _=A0;repeat (refine wpStill_step (fun K2 hK2=>?_);subst hA;go_simp;generalize hA:Act.mk _ _=A0;refine hK2 A0 ?_;clear hK2 K2)
               refine wpStill_nil ?_
               subst hA
               go_wp2_with fail
               go_roundw
               case rel=>exact⟨p2++[s],q2,by rw [HLQ.out];simp,by simp,by rw [HMEM.out,decide_eq_true hsm];rfl,HXQ.out⟩
               case measure=>simp [intOf];omega
              ·have hsb:(s == m.1)=false:=by simpa using hsm
               generalize hA:Act.mk _ _=A0;repeat (refine wpStill_step (fun K2 hK2=>?_);subst hA;go_simp;generalize hA:Act.mk _ _=A0;refine hK2 A0 ?_;clear hK2 K2)
               refine wpStill_nil ?_
               subst hA
               go_wp2_with fail
               go_roundw
               case rel=>exact⟨p2++[s],q2,by rw [HLQ.out];simp,by simp,by rw [HMEM.out,decide_eq_false hsm];rfl,HXQ.out⟩
               case measure=>simp [intOf];omega
           | nil =>
            rw [List.append_nil] at hl
            subst hl
            have hlq:(sp++tp).length=sp.length+tp.length:=List.length_append
            obtain⟨kb,hkb⟩:∃ kb,decide (m.1 ∈ sp++tp)=kb:=⟨_,rfl⟩
            rw [hkb]
            have HKB:=Lib.hid hkb
            clear hkb
            have g0q:=HT.out.row.cell (j:=0) rfl
            have c0:=HA.out.ra.cell (j:=0) rfl
            obtain⟨bm,om,hbm,f0,f1⟩:=HJB.out pre post m _ HX9q.out HL.out
            subst hbm
            go_wp2_with fail
            obtain⟨Wd,hWd⟩:∃ W,wr.drew=W:=⟨_,rfl⟩
            have hdr:Ext wr Wd:=by rw [← hWd];exact (Ext.refl _).drew
            have HOF:=Lib.hid (zfi m.1 (HA.out.sa.all.ext (by decide) hdr))
            have f0d:=hdr.cell f0
            have f1d:=hdr.cell f1
            have c0d:=hdr.cell c0
            have g0d:=hdr.cell g0q
            have HXQ:=Lib.hid (HXQ.out.trans hdr)
            have HWD:=Lib.hid hWd
            clear hWd hdr f0 f1 c0 g0q c2 c3
            cases bh with
            | true =>
             refine wp_region_still_tail 17 (by kernel_rfl) (by kernel_rfl) ?_
             simp only [List.take_succ_cons,List.take_zero,List.drop_succ_cons,List.drop_zero]
             change wpStill _ _ wr.drew (fun a'=>wpList _ _ _ _ a' wr.drew) _ _
             rw [HWD.out]
             generalize hA:Act.mk _ _=A0;repeat (refine wpStill_step (fun K2 hK2=>?_);subst hA;go_simp;generalize hA:Act.mk _ _=A0;refine hK2 A0 ?_;clear hK2 K2)
             refine wpStill_nil ?_
             subst hA
             go_wp2_with fail
             go_roundw
             case rel=>exact⟨pre++[m],post,by rw [HL.out];simp,by simp,by rw [HBS.out];rfl,HX9.out.trans HXQ.out⟩
             case measure=>simp [intOf];omega
            | false =>
             refine wp_region_still_tail 17 (by kernel_rfl) (by kernel_rfl) ?_
             simp only [List.take_succ_cons,List.take_zero,List.drop_succ_cons,List.drop_zero]
             change wpStill _ _ wr.drew (fun a'=>wpList _ _ _ _ a' wr.drew) _ _
             rw [HWD.out]
             generalize hA:Act.mk _ _=A0;repeat (refine wpStill_step (fun K2 hK2=>?_);subst hA;go_simp;generalize hA:Act.mk _ _=A0;refine hK2 A0 ?_;clear hK2 K2)
             refine wpStill_step (fun K2 hK2=>?_);subst hA;go_simp;refine ⟨_,(HOF.out.mono fun e w' h=>⟨h.1,h.2.symm⟩),?_⟩
             generalize hA:Act.mk _ _=A0;refine hK2 A0 ?_;clear hK2 K2
             repeat (refine wpStill_step (fun K2 hK2=>?_);subst hA;go_simp;generalize hA:Act.mk _ _=A0;refine hK2 A0 ?_;clear hK2 K2)
             refine wpStill_nil ?_
             subst hA
             obtain⟨n,hn⟩:∃ n,ofM sa m.1=n:=⟨_,rfl⟩
             rw [hn]
             have HN:=Lib.hid hn
             clear hn
             by_cases hc:n < m.2
             ·have HC:=Lib.hid (decide_eq_true hc)
              cases kb with
              | true =>
               go_wp2_with fail
               go_roundw
               case rel=>exact⟨pre++[m],post,by rw [HL.out];simp,by simp,by rw [HBS.out,HN.out,HC.out,HKB.out];rfl,HX9.out.trans HXQ.out⟩
               case measure=>simp [intOf];omega
              | false =>
               go_wp2_with fail
               go_roundw
               case rel=>exact⟨pre++[m],post,by rw [HL.out];simp,by simp,by rw [HBS.out,HN.out,HC.out,HKB.out];rfl,HX9.out.trans HXQ.out⟩
               case measure=>simp [intOf];omega
             ·have HC:=Lib.hid (decide_eq_false hc)
              go_wp2_with fail
              go_roundw
              case rel=>exact⟨pre++[m],post,by rw [HL.out];simp,by simp,by rw [HBS.out,HN.out,HC.out];rfl,HX9.out.trans HXQ.out⟩
              case measure=>simp [intOf];omega
         | nil =>
          rw [List.append_nil] at hl
          subst hl
          obtain⟨bh,hbh⟩:∃ bh,zd1 sa (sp++tp) JB=bh:=⟨_,rfl⟩
          have htl:=HTL.out
          rw [hbh] at htl
          rw [hbh]
          clear hbh HTL HJB HPA HPB
          have h2:=HT.out.row.cell (j:=2) rfl
          cases bh with
          | true =>
           rw [if_pos rfl] at htl
           injection htl with e0 e1
           cases e0
           subst e1
           go_wp2_with fail
           refine (zd0 _).mono ?_
           rintro r Z ⟨rfl,hxz⟩
           go_wp2_with fail
           go_ret
           exact⟨rfl,HX.out.trans hxz⟩
          | false =>
           rw [if_neg (by decide)] at htl
           injection htl with e0 e1
           subst e1
           have hva:va=zaq sa ta:=congrArg State.all e0
           have HC1:=Lib.hid (zfl HU.out.st.all HA.out.sa.all (Nat.le_trans LSA.out.all (by decide)))
           rw [show zar va sa=true from by rw [hva];exact zjp sa ta] at HC1
           have HCB:=Lib.hid (show zar va ta=true from by rw [hva];exact zit sa ta)
           clear hva e0
           have u0:=HU.out.row.cell (j:=0) rfl
           have c0:=HA.out.ra.cell (j:=0) rfl
           go_wp2_with fail
           refine HC1.out.mono ?_
           rintro r Z1 ⟨rfl,hx1⟩
           clear HC1 u0 c0 h2
           have HA:=Lib.hid (HA.out.ext hx1)
           have HT:=Lib.hid (HT.out.ext hx1)
           have HU:=Lib.hid (HU.out.ext hx1)
           have HX:=Lib.hid (HX.out.trans hx1)
           have hz0:=Nat.le_trans hz0 hx1.size
           clear hx1
           have u0:=HU.out.row.cell (j:=0) rfl
           have c0:=HA.out.rb.cell (j:=0) rfl
           have HC2:=Lib.hid (zfl HU.out.st.all HA.out.sb.all (Nat.le_trans LSB.out.all (by decide)))
           rw [HCB.out] at HC2
           go_wp2_with fail
           refine HC2.out.mono ?_
           rintro r Z2 ⟨rfl,hx1⟩
           clear HC2 u0 c0
           have HA:=Lib.hid (HA.out.ext hx1)
           have HT:=Lib.hid (HT.out.ext hx1)
           have HU:=Lib.hid (HU.out.ext hx1)
           have HX:=Lib.hid (HX.out.trans hx1)
           have hz0:=Nat.le_trans hz0 hx1.size
           clear hx1
           go_wp2_with fail
           refine (zd0 _).mono ?_
           rintro r Z ⟨rfl,hxz⟩
           go_wp2_with fail
           go_ret
           exact⟨rfl,HX.out.trans hxz⟩
end
end Go.Proofs.YtdikcgmdmcfpfaaGreat
