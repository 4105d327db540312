/- Contracts of the functions that the statement goes through, and plain laws of them. -/
import Derived.Test.YtdikcgmdmcfpfaaGreatSi28
import Derived.Test.YtdikcgmdmcfpfaaGreatSi01
import Derived.Test.YtdikcgmdmcfpfaaGreatSi22
import Derived.Test.YtdikcgmdmcfpfaaGreatSi08
import Derived.Test.YtdikcgmdmcfpfaaGreatSi19
set_option linter.unusedVariables false
set_option linter.unusedSimpArgs false
set_option linter.unusedSectionVars false
set_option maxRecDepth 100000
set_option maxHeartbeats 4000000
namespace Go.Proofs.YtdikcgmdmcfpfaaGreat
section
open Go.RowKit Go.Shelf
theorem zrk {S:Nat→Prop} {ek:Str} {es:List Mark} {ec:List zal} {ei:List Item} {x1:Nat} {x2:Str} {x3:Bool} {A1 A2 A3:Option Addr} {n1 n2 n3:Nat} {w:World} (dO:Nat) (k:Str) (n:Int) (tx:Str) (d1:Str) (dn:Nat) (h:EntAt w S ⟨ek,es,ec,ei,(x1,x2,x3)⟩ (.slice A1 es.length n1) (.slice A2 ec.length n2) (.slice A3 ei.length n3)) (hk:keyS k=true) (he:ek=k) (hd:(d1 == [])=false) (h2:¬ (dn:Int) < 1) (h3:¬ (dn:Int) > 281474976710656) (hh:hasM es (d1,dn)=true) :
  Calls Tryz.prog 42 #[.agg #[St ek,.slice A1 es.length n1,.slice A2 ec.length n2,.slice A3 ei.length n3,U x1,St x2,.bool x3],.agg #[K8 dO,St k,I n,St tx],.agg #[St d1,U dn]] w fun r w'=>r = .returned (.tuple #[entV zad (.slice none 0 0) (.slice none 0 0) (.slice none 0 0),I 2])∧Ext w w':=by
 subst he
 obtain⟨W0,hW0⟩:∃ W0,W0=(((w.alloc (.cells #[St ek,.slice A1 es.length n1,.slice A2 ec.length n2,.slice A3 ei.length n3,U x1,St x2,.bool x3] 37)).alloc (.cells #[K8 dO,St ek,I n,St tx] 42)).alloc (.cells #[St d1,U dn] 97)).alloc (.cells #[St [],.slice none 0 0,.slice none 0 0,.slice none 0 0,.int .u64 0,St [],.bool false] 37):=⟨_,rfl⟩
 have hx0:Ext w W0:=by rw [hW0];exact ((((Ext.refl w).alloc _).alloc _).alloc _).alloc _
 have hz0:W0.heap.size=w.heap.size+1+1+1+1:=by rw [hW0];simp
 have rE0:RowIs W0 w.heap.size 37 [St ek,.slice A1 es.length n1,.slice A2 ec.length n2,.slice A3 ei.length n3,U x1,St x2,.bool x3] []:=by rw [hW0];exact (((zac w _ _).alloc _).alloc _).alloc _
 have rO0:RowIs W0 (w.heap.size+1) 42 [K8 dO,St ek,I n,St tx] []:=by rw [hW0];have h:=zac (w.alloc (.cells #[St ek,.slice A1 es.length n1,.slice A2 ec.length n2,.slice A3 ei.length n3,U x1,St x2,.bool x3] 37)) 42 [K8 dO,St ek,I n,St tx];simp only [World.size_alloc] at h;exact (h.alloc _).alloc _
 have rD0:RowIs W0 (w.heap.size+1+1) 97 [St d1,U dn] []:=by rw [hW0];have h:=zac ((w.alloc (.cells #[St ek,.slice A1 es.length n1,.slice A2 ec.length n2,.slice A3 ei.length n3,U x1,St x2,.bool x3] 37)).alloc (.cells #[K8 dO,St ek,I n,St tx] 42)) 97 [St d1,U dn];simp only [World.size_alloc] at h;exact h.alloc _
 have rR0:RowIs W0 (w.heap.size+1+1+1) 37 [St [],.slice none 0 0,.slice none 0 0,.slice none 0 0,.int .u64 0,St [],.bool false] []:=by rw [hW0];have h:=zac (((w.alloc (.cells #[St ek,.slice A1 es.length n1,.slice A2 ec.length n2,.slice A3 ei.length n3,U x1,St x2,.bool x3] 37)).alloc (.cells #[K8 dO,St ek,I n,St tx] 42)).alloc (.cells #[St d1,U dn] 97)) 37 [St [],.slice none 0 0,.slice none 0 0,.slice none 0 0,.int .u64 0,St [],.bool false];simp only [World.size_alloc] at h;exact h
 have H1:=Lib.hid (zcv ek W0)
 have HE:=Lib.hid h
 rw [hW0] at H1
 clear h
 go_enter Tryz.func42,Tryz.ntmps42
 go_wp2_with fail
 refine H1.out.mono ?_
 rintro r V ⟨rfl,hx1⟩
 obtain⟨hx1,hzz,rE,rO,rD,rR⟩:Ext w V∧w.heap.size+4≤V.heap.size∧RowIs V w.heap.size 37 [St ek,.slice A1 es.length n1,.slice A2 ec.length n2,.slice A3 ei.length n3,U x1,St x2,.bool x3] []∧RowIs V (w.heap.size+1) 42 [K8 dO,St ek,I n,St tx] []∧RowIs V (w.heap.size+1+1) 97 [St d1,U dn] []∧RowIs V (w.heap.size+1+1+1) 37 [St [],.slice none 0 0,.slice none 0 0,.slice none 0 0,.int .u64 0,St [],.bool false] []:=by
  have H0:Ext W0 V:=by rw [hW0];exact hx1
  exact⟨hx0.trans H0,by have:=H0.size;omega,rE0.ext H0,rO0.ext H0,rD0.ext H0,rR0.ext H0⟩
 clear hx0 hz0 rE0 rO0 rD0 rR0 H1 hW0
 rw [hk]
 have HH:=Lib.hid (zfx (d1,dn) (HE.out.seen.ext (by decide) hx1))
 have e0:=rE.cell (j:=0) rfl
 have e1:=rE.cell (j:=1) rfl
 have e2:=rE.cell (j:=2) rfl
 have e3:=rE.cell (j:=3) rfl
 have e4:=rE.cell (j:=4) rfl
 have e5:=rE.cell (j:=5) rfl
 have e6:=rE.cell (j:=6) rfl
 have o0:=rO.cell (j:=0) rfl
 have o1:=rO.cell (j:=1) rfl
 have o2:=rO.cell (j:=2) rfl
 have o3:=rO.cell (j:=3) rfl
 have dc0:=rD.cell (j:=0) rfl
 have dc1:=rD.cell (j:=1) rfl
 go_wp2_with fail
 refine HH.out.mono ?_
 rintro r V3 ⟨rfl,hx3⟩
 rw [hh]
 obtain⟨hx1,hzz,rE,rO,rD,rR⟩:Ext w V3∧w.heap.size+4≤V3.heap.size∧RowIs V3 w.heap.size 37 [St ek,.slice A1 es.length n1,.slice A2 ec.length n2,.slice A3 ei.length n3,U x1,St x2,.bool x3] []∧RowIs V3 (w.heap.size+1) 42 [K8 dO,St ek,I n,St tx] []∧RowIs V3 (w.heap.size+1+1) 97 [St d1,U dn] []∧RowIs V3 (w.heap.size+1+1+1) 37 [St [],.slice none 0 0,.slice none 0 0,.slice none 0 0,.int .u64 0,St [],.bool false] []:=⟨hx1.trans hx3,by have:=hx3.size;omega,rE.ext hx3,rO.ext hx3,rD.ext hx3,rR.ext hx3⟩
 clear hx3
 have r0:=rR.cell (j:=0) rfl
 have r1:=rR.cell (j:=1) rfl
 have r2:=rR.cell (j:=2) rfl
 have r3:=rR.cell (j:=3) rfl
 have r4:=rR.cell (j:=4) rfl
 have r5:=rR.cell (j:=5) rfl
 have r6:=rR.cell (j:=6) rfl
 have f0:=rR.frozen 0
 have f1:=rR.frozen 1
 have f2:=rR.frozen 2
 have f3:=rR.frozen 3
 have f4:=rR.frozen 4
 have f5:=rR.frozen 5
 have f6:=rR.frozen 6
 have HX:=Lib.hid hx1
 clear hx1 rR
 go_wp2_with fail
 (try simp only [Exit.inBlock,Exit.then])
 refine bodyPost_ret (v:=.tuple #[entV zad (.slice none 0 0) (.slice none 0 0) (.slice none 0 0),I 2]) (by simp [results,Tryz.f42,go_sem,entV,entC,zad,r0,r1,r2,r3,r4,r5,r6]) rfl ?_
 have hp:=za7 (q:=w.heap.size+1+1+1) HX.out (by omega) zad (.slice none 0 0) (.slice none 0 0) (.slice none 0 0)
 exact⟨rfl,hp⟩
theorem znn {S:Nat→Prop} {ek:Str} {es:List Mark} {ec:List zal} {ei:List Item} {x1:Nat} {x2:Str} {x3:Bool} {A1 A2 A3:Option Addr} {n1 n2 n3:Nat} {w:World} (dO:Nat) (k:Str) (n:Int) (tx:Str) (d1:Str) (dn:Nat) (h:EntAt w S ⟨ek,es,ec,ei,(x1,x2,x3)⟩ (.slice A1 es.length n1) (.slice A2 ec.length n2) (.slice A3 ei.length n3)) (hk:keyS k=true) (hne:(ek == k)=false) (hs:zau ⟨ek,es,ec,ei,(x1,x2,x3)⟩ zad=true) (hd:(d1 == [])=false) (h2:¬ (dn:Int) < 1) (h3:¬ (dn:Int) > 281474976710656) (hh:hasM es (d1,dn)=true) :
  Calls Tryz.prog 42 #[.agg #[St ek,.slice A1 es.length n1,.slice A2 ec.length n2,.slice A3 ei.length n3,U x1,St x2,.bool x3],.agg #[K8 dO,St k,I n,St tx],.agg #[St d1,U dn]] w fun r w'=>r = .returned (.tuple #[entV zad (.slice none 0 0) (.slice none 0 0) (.slice none 0 0),I 2])∧Ext w w':=by
 obtain⟨W0,hW0⟩:∃ W0,W0=(((w.alloc (.cells #[St ek,.slice A1 es.length n1,.slice A2 ec.length n2,.slice A3 ei.length n3,U x1,St x2,.bool x3] 37)).alloc (.cells #[K8 dO,St k,I n,St tx] 42)).alloc (.cells #[St d1,U dn] 97)).alloc (.cells #[St [],.slice none 0 0,.slice none 0 0,.slice none 0 0,.int .u64 0,St [],.bool false] 37):=⟨_,rfl⟩
 have hx0:Ext w W0:=by rw [hW0];exact ((((Ext.refl w).alloc _).alloc _).alloc _).alloc _
 have hz0:W0.heap.size=w.heap.size+1+1+1+1:=by rw [hW0];simp
 have rE0:RowIs W0 w.heap.size 37 [St ek,.slice A1 es.length n1,.slice A2 ec.length n2,.slice A3 ei.length n3,U x1,St x2,.bool x3] []:=by rw [hW0];exact (((zac w _ _).alloc _).alloc _).alloc _
 have rO0:RowIs W0 (w.heap.size+1) 42 [K8 dO,St k,I n,St tx] []:=by rw [hW0];have h:=zac (w.alloc (.cells #[St ek,.slice A1 es.length n1,.slice A2 ec.length n2,.slice A3 ei.length n3,U x1,St x2,.bool x3] 37)) 42 [K8 dO,St k,I n,St tx];simp only [World.size_alloc] at h;exact (h.alloc _).alloc _
 have rD0:RowIs W0 (w.heap.size+1+1) 97 [St d1,U dn] []:=by rw [hW0];have h:=zac ((w.alloc (.cells #[St ek,.slice A1 es.length n1,.slice A2 ec.length n2,.slice A3 ei.length n3,U x1,St x2,.bool x3] 37)).alloc (.cells #[K8 dO,St k,I n,St tx] 42)) 97 [St d1,U dn];simp only [World.size_alloc] at h;exact h.alloc _
 have rR0:RowIs W0 (w.heap.size+1+1+1) 37 [St [],.slice none 0 0,.slice none 0 0,.slice none 0 0,.int .u64 0,St [],.bool false] []:=by rw [hW0];have h:=zac (((w.alloc (.cells #[St ek,.slice A1 es.length n1,.slice A2 ec.length n2,.slice A3 ei.length n3,U x1,St x2,.bool x3] 37)).alloc (.cells #[K8 dO,St k,I n,St tx] 42)).alloc (.cells #[St d1,U dn] 97)) 37 [St [],.slice none 0 0,.slice none 0 0,.slice none 0 0,.int .u64 0,St [],.bool false];simp only [World.size_alloc] at h;exact h
 have H1:=Lib.hid (zcv k W0)
 have HE:=Lib.hid h
 rw [hW0] at H1
 clear h
 go_enter Tryz.func42,Tryz.ntmps42
 go_wp2_with fail
 refine H1.out.mono ?_
 rintro r V ⟨rfl,hx1⟩
 obtain⟨hx1,hzz,rE,rO,rD,rR⟩:Ext w V∧w.heap.size+4≤V.heap.size∧RowIs V w.heap.size 37 [St ek,.slice A1 es.length n1,.slice A2 ec.length n2,.slice A3 ei.length n3,U x1,St x2,.bool x3] []∧RowIs V (w.heap.size+1) 42 [K8 dO,St k,I n,St tx] []∧RowIs V (w.heap.size+1+1) 97 [St d1,U dn] []∧RowIs V (w.heap.size+1+1+1) 37 [St [],.slice none 0 0,.slice none 0 0,.slice none 0 0,.int .u64 0,St [],.bool false] []:=by
  have H0:Ext W0 V:=by rw [hW0];exact hx1
  exact⟨hx0.trans H0,by have:=H0.size;omega,rE0.ext H0,rO0.ext H0,rD0.ext H0,rR0.ext H0⟩
 clear hx0 hz0 rE0 rO0 rD0 rR0 H1 hW0
 rw [hk]
 have HN:=Lib.hid (zdw (HE.out.ext hx1))
 have e0:=rE.cell (j:=0) rfl
 have e1:=rE.cell (j:=1) rfl
 have e2:=rE.cell (j:=2) rfl
 have e3:=rE.cell (j:=3) rfl
 have e4:=rE.cell (j:=4) rfl
 have e5:=rE.cell (j:=5) rfl
 have e6:=rE.cell (j:=6) rfl
 have o0:=rO.cell (j:=0) rfl
 have o1:=rO.cell (j:=1) rfl
 have o2:=rO.cell (j:=2) rfl
 have o3:=rO.cell (j:=3) rfl
 go_wp2_with fail
 refine HN.out.mono ?_
 rintro r V2 ⟨rfl,hx2⟩
 rw [hs]
 obtain⟨hx1,hzz,rE,rO,rD,rR⟩:Ext w V2∧w.heap.size+4≤V2.heap.size∧RowIs V2 w.heap.size 37 [St ek,.slice A1 es.length n1,.slice A2 ec.length n2,.slice A3 ei.length n3,U x1,St x2,.bool x3] []∧RowIs V2 (w.heap.size+1) 42 [K8 dO,St k,I n,St tx] []∧RowIs V2 (w.heap.size+1+1) 97 [St d1,U dn] []∧RowIs V2 (w.heap.size+1+1+1) 37 [St [],.slice none 0 0,.slice none 0 0,.slice none 0 0,.int .u64 0,St [],.bool false] []:=⟨hx1.trans hx2,by have:=hx2.size;omega,rE.ext hx2,rO.ext hx2,rD.ext hx2,rR.ext hx2⟩
 clear hx2 e0 e1 e2 e3 e4 e5 e6 o0 o1 o2 o3 HN
 have HH:=Lib.hid (zfx (d1,dn) (HE.out.seen.ext (by decide) hx1))
 have e0:=rE.cell (j:=0) rfl
 have e1:=rE.cell (j:=1) rfl
 have e2:=rE.cell (j:=2) rfl
 have e3:=rE.cell (j:=3) rfl
 have e4:=rE.cell (j:=4) rfl
 have e5:=rE.cell (j:=5) rfl
 have e6:=rE.cell (j:=6) rfl
 have o0:=rO.cell (j:=0) rfl
 have o1:=rO.cell (j:=1) rfl
 have o2:=rO.cell (j:=2) rfl
 have o3:=rO.cell (j:=3) rfl
 have dc0:=rD.cell (j:=0) rfl
 have dc1:=rD.cell (j:=1) rfl
 go_wp2_with fail
 refine HH.out.mono ?_
 rintro r V3 ⟨rfl,hx3⟩
 rw [hh]
 obtain⟨hx1,hzz,rE,rO,rD,rR⟩:Ext w V3∧w.heap.size+4≤V3.heap.size∧RowIs V3 w.heap.size 37 [St ek,.slice A1 es.length n1,.slice A2 ec.length n2,.slice A3 ei.length n3,U x1,St x2,.bool x3] []∧RowIs V3 (w.heap.size+1) 42 [K8 dO,St k,I n,St tx] []∧RowIs V3 (w.heap.size+1+1) 97 [St d1,U dn] []∧RowIs V3 (w.heap.size+1+1+1) 37 [St [],.slice none 0 0,.slice none 0 0,.slice none 0 0,.int .u64 0,St [],.bool false] []:=⟨hx1.trans hx3,by have:=hx3.size;omega,rE.ext hx3,rO.ext hx3,rD.ext hx3,rR.ext hx3⟩
 clear hx3
 have r0:=rR.cell (j:=0) rfl
 have r1:=rR.cell (j:=1) rfl
 have r2:=rR.cell (j:=2) rfl
 have r3:=rR.cell (j:=3) rfl
 have r4:=rR.cell (j:=4) rfl
 have r5:=rR.cell (j:=5) rfl
 have r6:=rR.cell (j:=6) rfl
 have f0:=rR.frozen 0
 have f1:=rR.frozen 1
 have f2:=rR.frozen 2
 have f3:=rR.frozen 3
 have f4:=rR.frozen 4
 have f5:=rR.frozen 5
 have f6:=rR.frozen 6
 have HX:=Lib.hid hx1
 clear hx1 rR
 go_wp2_with fail
 (try simp only [Exit.inBlock,Exit.then])
 refine bodyPost_ret (v:=.tuple #[entV zad (.slice none 0 0) (.slice none 0 0) (.slice none 0 0),I 2]) (by simp [results,Tryz.f42,go_sem,entV,entC,zad,r0,r1,r2,r3,r4,r5,r6]) rfl ?_
 have hp:=za7 (q:=w.heap.size+1+1+1) HX.out (by omega) zad (.slice none 0 0) (.slice none 0 0) (.slice none 0 0)
 exact⟨rfl,hp⟩
theorem zs4 {S:Nat→Prop} {ek:Str} {es:List Mark} {ec:List zal} {ei:List Item} {x1:Nat} {x2:Str} {x3:Bool} {A1 A2 A3:Option Addr} {n1 n2 n3:Nat} {w:World} (dO:Nat) (k:Str) (n:Int) (tx:Str) (d1:Str) (dn:Nat) (h:EntAt w S ⟨ek,es,ec,ei,(x1,x2,x3)⟩ (.slice A1 es.length n1) (.slice A2 ec.length n2) (.slice A3 ei.length n3)) (hk:keyS k=true) (he:ek=k) (hd:(d1 == [])=false) (h2:1≤(dn:Int)) (h3:(dn:Int)≤281474976710656) (hh:hasM es (d1,dn)=false) (sm:SmallE ⟨ek,es,ec,ei,(x1,x2,x3)⟩) (hn1:-9223372036854775808≤n) (hn2:n≤9223372036854775807) :
  Calls Tryz.prog 42 #[.agg #[St ek,.slice A1 es.length n1,.slice A2 ec.length n2,.slice A3 ei.length n3,U x1,St x2,.bool x3],.agg #[K8 dO,St k,I n,St tx],.agg #[St d1,U dn]] w fun r w'=>∃ u1 u2 u3,r = .returned (.tuple #[entV (zdg ⟨k,es,ec,ei,(x1,x2,x3)⟩ (dO,k,n,tx) (d1,dn)).1 u1 u2 u3,I (zdg ⟨k,es,ec,ei,(x1,x2,x3)⟩ (dO,k,n,tx) (d1,dn)).2])∧EntAt w' (fun b=>w.heap.size≤b) (zdg ⟨k,es,ec,ei,(x1,x2,x3)⟩ (dO,k,n,tx) (d1,dn)).1 u1 u2 u3∧Ext w w':=by
 subst he
 obtain⟨W0,hW0⟩:∃ W0,W0=(((w.alloc (.cells #[St ek,.slice A1 es.length n1,.slice A2 ec.length n2,.slice A3 ei.length n3,U x1,St x2,.bool x3] 37)).alloc (.cells #[K8 dO,St ek,I n,St tx] 42)).alloc (.cells #[St d1,U dn] 97)).alloc (.cells #[St [],.slice none 0 0,.slice none 0 0,.slice none 0 0,.int .u64 0,St [],.bool false] 37):=⟨_,rfl⟩
 have hx0:Ext w W0:=by rw [hW0];exact ((((Ext.refl w).alloc _).alloc _).alloc _).alloc _
 have hz0:W0.heap.size=w.heap.size+1+1+1+1:=by rw [hW0];simp
 have rE0:RowIs W0 w.heap.size 37 [St ek,.slice A1 es.length n1,.slice A2 ec.length n2,.slice A3 ei.length n3,U x1,St x2,.bool x3] []:=by rw [hW0];exact (((zac w _ _).alloc _).alloc _).alloc _
 have rO0:RowIs W0 (w.heap.size+1) 42 [K8 dO,St ek,I n,St tx] []:=by rw [hW0];have h:=zac (w.alloc (.cells #[St ek,.slice A1 es.length n1,.slice A2 ec.length n2,.slice A3 ei.length n3,U x1,St x2,.bool x3] 37)) 42 [K8 dO,St ek,I n,St tx];simp only [World.size_alloc] at h;exact (h.alloc _).alloc _
 have rD0:RowIs W0 (w.heap.size+1+1) 97 [St d1,U dn] []:=by rw [hW0];have h:=zac ((w.alloc (.cells #[St ek,.slice A1 es.length n1,.slice A2 ec.length n2,.slice A3 ei.length n3,U x1,St x2,.bool x3] 37)).alloc (.cells #[K8 dO,St ek,I n,St tx] 42)) 97 [St d1,U dn];simp only [World.size_alloc] at h;exact h.alloc _
 have rR0:RowIs W0 (w.heap.size+1+1+1) 37 [St [],.slice none 0 0,.slice none 0 0,.slice none 0 0,.int .u64 0,St [],.bool false] []:=by rw [hW0];have h:=zac (((w.alloc (.cells #[St ek,.slice A1 es.length n1,.slice A2 ec.length n2,.slice A3 ei.length n3,U x1,St x2,.bool x3] 37)).alloc (.cells #[K8 dO,St ek,I n,St tx] 42)).alloc (.cells #[St d1,U dn] 97)) 37 [St [],.slice none 0 0,.slice none 0 0,.slice none 0 0,.int .u64 0,St [],.bool false];simp only [World.size_alloc] at h;exact h
 have H1:=Lib.hid (zcv ek W0)
 have HE:=Lib.hid h
 rw [hW0] at H1
 clear h
 go_enter Tryz.func42,Tryz.ntmps42
 go_wp2_with fail
 refine H1.out.mono ?_
 rintro r V ⟨rfl,hx1⟩
 obtain⟨hx1,hzz,rE,rO,rD,rR⟩:Ext w V∧w.heap.size+4≤V.heap.size∧RowIs V w.heap.size 37 [St ek,.slice A1 es.length n1,.slice A2 ec.length n2,.slice A3 ei.length n3,U x1,St x2,.bool x3] []∧RowIs V (w.heap.size+1) 42 [K8 dO,St ek,I n,St tx] []∧RowIs V (w.heap.size+1+1) 97 [St d1,U dn] []∧RowIs V (w.heap.size+1+1+1) 37 [St [],.slice none 0 0,.slice none 0 0,.slice none 0 0,.int .u64 0,St [],.bool false] []:=by
  have H0:Ext W0 V:=by rw [hW0];exact hx1
  exact⟨hx0.trans H0,by have:=H0.size;omega,rE0.ext H0,rO0.ext H0,rD0.ext H0,rR0.ext H0⟩
 clear hx0 hz0 rE0 rO0 rD0 rR0 H1 hW0
 rw [hk]
 have HH:=Lib.hid (zfx (d1,dn) (HE.out.seen.ext (by decide) hx1))
 have e0:=rE.cell (j:=0) rfl
 have e1:=rE.cell (j:=1) rfl
 have e2:=rE.cell (j:=2) rfl
 have e3:=rE.cell (j:=3) rfl
 have e4:=rE.cell (j:=4) rfl
 have e5:=rE.cell (j:=5) rfl
 have e6:=rE.cell (j:=6) rfl
 have o0:=rO.cell (j:=0) rfl
 have o1:=rO.cell (j:=1) rfl
 have o2:=rO.cell (j:=2) rfl
 have o3:=rO.cell (j:=3) rfl
 have dc0:=rD.cell (j:=0) rfl
 have dc1:=rD.cell (j:=1) rfl
 go_wp2_with fail
 all_goals (try (exfalso;omega))
 refine HH.out.mono ?_
 rintro r V3 ⟨rfl,hx3⟩
 rw [hh]
 obtain⟨hx1,hzz,rE,rO,rD,rR⟩:Ext w V3∧w.heap.size+4≤V3.heap.size∧RowIs V3 w.heap.size 37 [St ek,.slice A1 es.length n1,.slice A2 ec.length n2,.slice A3 ei.length n3,U x1,St x2,.bool x3] []∧RowIs V3 (w.heap.size+1) 42 [K8 dO,St ek,I n,St tx] []∧RowIs V3 (w.heap.size+1+1) 97 [St d1,U dn] []∧RowIs V3 (w.heap.size+1+1+1) 37 [St [],.slice none 0 0,.slice none 0 0,.slice none 0 0,.int .u64 0,St [],.bool false] []:=⟨hx1.trans hx3,by have:=hx3.size;omega,rE.ext hx3,rO.ext hx3,rD.ext hx3,rR.ext hx3⟩
 clear hx3 HH
 have HCP:=Lib.hid (zdx (HE.out.ext hx1) (Nat.le_trans sm.seen (by decide)) (Nat.le_trans sm.counts (by decide)) (Nat.le_trans sm.items (by decide)) (fun it hit=>Nat.le_trans (sm.dots it hit) (by omega)))
 have p0:=rE.cell (j:=0) rfl
 have p1:=rE.cell (j:=1) rfl
 have p2:=rE.cell (j:=2) rfl
 have p3:=rE.cell (j:=3) rfl
 have p4:=rE.cell (j:=4) rfl
 have p5:=rE.cell (j:=5) rfl
 have p6:=rE.cell (j:=6) rfl
 go_wp2_with fail
 refine HCP.out.mono ?_
 rintro r V4 ⟨u1,u2,u3,rfl,hu,hx4⟩
 have hzb:=hx4.size
 obtain⟨hx1,hzz,rE,rO,rD,rR⟩:Ext w V4∧w.heap.size+4≤V4.heap.size∧RowIs V4 w.heap.size 37 [St ek,.slice A1 es.length n1,.slice A2 ec.length n2,.slice A3 ei.length n3,U x1,St x2,.bool x3] []∧RowIs V4 (w.heap.size+1) 42 [K8 dO,St ek,I n,St tx] []∧RowIs V4 (w.heap.size+1+1) 97 [St d1,U dn] []∧RowIs V4 (w.heap.size+1+1+1) 37 [St [],.slice none 0 0,.slice none 0 0,.slice none 0 0,.int .u64 0,St [],.bool false] []:=⟨hx1.trans hx4,by have:=hx4.size;omega,rE.ext hx4,rO.ext hx4,rD.ext hx4,rR.ext hx4⟩
 obtain⟨B1,m1,rfl,-,-⟩:=hu.seen.form
 obtain⟨B2,m2,rfl,-,-⟩:=hu.counts.form
 obtain⟨B3,m3,rfl,-,-⟩:=hu.items.form
 have HU:=Lib.hid (show EntAt V4 (fun b=>V3.heap.size≤b∧b < V4.heap.size) ⟨ek,es,ec,ei,(x1,x2,x3)⟩ (.slice B1 es.length m1) (.slice B2 ec.length m2) (.slice B3 ei.length m3) from (show EntAt V4 (fun b=>V3.heap.size≤b) ⟨ek,es,ec,ei,(x1,x2,x3)⟩ _ _ _ from ⟨hu.at.seen,hu.at.counts,hu.at.items⟩).mono fun b hb h=>⟨h,hb⟩)
 clear hx4 hu HCP
 have hlt1:w.heap.size+1 < V4.heap.size:=by omega
 have q0:=rO.cell (j:=0) rfl
 have q1:=rO.cell (j:=1) rfl
 have q2:=rO.cell (j:=2) rfl
 have q3:=rO.cell (j:=3) rfl
 go_wp2_with fail
 have rN:=zac V4 37 [St ek,.slice B1 es.length m1,.slice B2 ec.length m2,.slice B3 ei.length m3,U x1,St x2,.bool x3]
 have hxa:=(Ext.refl V4).alloc (.cells #[St ek,.slice B1 es.length m1,.slice B2 ec.length m2,.slice B3 ei.length m3,U x1,St x2,.bool x3] 37)
 have rO4:=rO.ext hxa
 have rD4:=rD.ext hxa
 have rR4:=rR.ext hxa
 have HU4:=Lib.hid (HU.out.ext hxa)
 have hx4:=hx1.trans hxa
 have hzn:=rN.lt
 generalize hW4:V4.alloc (.cells #[St ek,.slice B1 es.length m1,.slice B2 ec.length m2,.slice B3 ei.length m3,U x1,St x2,.bool x3] 37)=W4 at *
 have hv4:=hxa.size
 clear hW4 rO rD rR rE hx1 hxa HU q0 q1 q2 q3
 refine za9 [fun v _=>v=opV (dO,ek,n,tx),
  fun v _=>v=dotV (d1,dn),
  fun v W2=>∃ B m,W4.heap.size≤B∧B+6≤W2.heap.size∧UpdAt W2 B V4.heap.size n tx (d1,dn) m∧v = .map (some m),
  fun v _=>v = .pointer (some ⟨w.heap.size+1,1,none⟩),
  fun v _=>v=St ek,
  fun v _=>v=K8 (zaj ek),
  fun v W2=>∃ B m,W4.heap.size≤B∧B+6≤W2.heap.size∧UpdAt W2 B V4.heap.size n tx (d1,dn) m∧InnerIs W2 B (zaj ek) v,
  fun v _=>v = .pointer (some ⟨w.heap.size+1,0,none⟩),
  fun v _=>v=K8 dO,
  fun v W2=>∃ B m,W4.heap.size≤B∧B+6≤W2.heap.size∧UpdAt W2 B V4.heap.size n tx (d1,dn) m∧v = .tuple #[(za2 B (zaj ek) dO).getD .nilFunc,.bool (za2 B (zaj ek) dO).isSome],
  fun v W2=>∃ B m,W4.heap.size≤B∧B+6≤W2.heap.size∧UpdAt W2 B V4.heap.size n tx (d1,dn) m∧v = .tuple #[(za2 B (zaj ek) dO).getD .nilFunc,.bool (za2 B (zaj ek) dO).isSome],
  fun v W2=>∃ B m,W4.heap.size≤B∧B+6≤W2.heap.size∧UpdAt W2 B V4.heap.size n tx (d1,dn) m∧v=(za2 B (zaj ek) dO).getD .nilFunc,
  fun v _=>v = .bool (doE (zaj ek) ⟨ek,es,ec,ei,(x1,x2,x3)⟩ (dO,ek,n,tx) (d1,dn)).isSome,
  fun v W2=>∃ B m,W4.heap.size≤B∧B+6≤W2.heap.size∧UpdAt W2 B V4.heap.size n tx (d1,dn) m∧v=(za2 B (zaj ek) dO).getD .nilFunc] rfl (by kernel_rfl) ?hR ?hstep ?hend
 case hR =>
  simp only [List.mem_cons,List.not_mem_nil,or_false,forall_eq_or_imp,forall_eq]
  exact⟨fun v _ _ h _=>h,fun v _ _ h _=>h,fun v _ _ h he=>by obtain⟨B,m,h1,h2,h3,h4⟩:=h;exact⟨B,m,h1,Nat.le_trans h2 he.size,h3.ext he,h4⟩,fun v _ _ h _=>h,fun v _ _ h _=>h,fun v _ _ h _=>h,fun v _ _ h he=>by obtain⟨B,m,h1,h2,h3,h4⟩:=h;exact⟨B,m,h1,Nat.le_trans h2 he.size,h3.ext he,h4.ext he⟩,fun v _ _ h _=>h,fun v _ _ h _=>h,fun v _ _ h he=>by obtain⟨B,m,h1,h2,h3,h4⟩:=h;exact⟨B,m,h1,Nat.le_trans h2 he.size,h3.ext he,h4⟩,fun v _ _ h he=>by obtain⟨B,m,h1,h2,h3,h4⟩:=h;exact⟨B,m,h1,Nat.le_trans h2 he.size,h3.ext he,h4⟩,fun v _ _ h he=>by obtain⟨B,m,h1,h2,h3,h4⟩:=h;exact⟨B,m,h1,Nat.le_trans h2 he.size,h3.ext he,h4⟩,fun v _ _ h _=>h,fun v _ _ h he=>by obtain⟨B,m,h1,h2,h3,h4⟩:=h;exact⟨B,m,h1,Nat.le_trans h2 he.size,h3.ext he,h4⟩⟩
 case hstep =>
  simp only [List.length_cons,List.length_nil,Nat.reduceAdd,List.take_succ_cons,List.take_zero,zb1,and_true]
  refine ⟨?_,?_,?_,?_,?_,?_,?_,?_,?_,?_,?_,?_,?_,?_⟩
  ·intro x W he f
   have h:x 4 = .pointer (some ⟨w.heap.size+1,0,none⟩):=f.1
   have q0:=(rO4.ext he).cell (j:=0) rfl
   have q1:=(rO4.ext he).cell (j:=1) rfl
   have q2:=(rO4.ext he).cell (j:=2) rfl
   have q3:=(rO4.ext he).cell (j:=3) rfl
   go_wp
   exact zaa rfl (Ext.refl _)
  ·intro x W he f
   have h:x 5 = .pointer (some ⟨w.heap.size+1+1,0,none⟩):=f.1
   have q0:=(rD4.ext he).cell (j:=0) rfl
   have q1:=(rD4.ext he).cell (j:=1) rfl
   go_wp
   exact zaa rfl (Ext.refl _)
  ·intro x W he f
   have h8:x 8 = .pointer (some ⟨V4.heap.size,0,none⟩):=f.1
   have h54:x 54=opV (dO,ek,n,tx):=f.2.1
   have h55:x 55=dotV (d1,dn):=f.2.2.1
   have hs:=he.size
   have HC:=Lib.hid (zi8 (W:=W) (E:=V4.heap.size) ek dO n tx (d1,dn))
   go_wp
   refine HC.out.mono ?_
   rintro r W2 ⟨m,rfl,hU,hz,hx2⟩
   dsimp only
   go_wp
   exact zaa (v:=.map (some m)) ⟨W.heap.size,m,hs,hz,hU,rfl⟩ hx2
  ·intro x W he f
   have h:x 4 = .pointer (some ⟨w.heap.size+1,0,none⟩):=f.1
   go_wp
   exact zaa rfl (Ext.refl _)
  ·intro x W he f
   have h:x 57 = .pointer (some ⟨w.heap.size+1,1,none⟩):=f.1
   have q1:=(rO4.ext he).cell (j:=1) rfl
   go_wp
   exact zaa rfl (Ext.refl _)
  ·intro x W he f
   have h:x 58=St ek:=f.1
   have HC:=Lib.hid (zgi ek W)
   go_wp
   refine HC.out.mono ?_
   rintro r W2 ⟨rfl,hx2⟩
   dsimp only
   go_wp
   exact zaa rfl hx2
  ·intro x W he f
   obtain⟨B,m,b1,b2,hU,h⟩:∃ B m,W4.heap.size≤B∧B+6≤W.heap.size∧UpdAt W B V4.heap.size n tx (d1,dn) m∧x 56 = .map (some m):=f.1
   have h59:x 59=K8 (zaj ek):=f.2.1
   obtain⟨u,hu1,hu2⟩:=zmm hU (zaj ek)
   have hl:=hu1 W (Ext.refl _)
   go_wp
   exact zaa (v:=u) ⟨B,m,b1,b2,hU,hu2⟩ (Ext.refl _)
  ·intro x W he f
   have h:x 4 = .pointer (some ⟨w.heap.size+1,0,none⟩):=f.1
   go_wp
   exact zaa rfl (Ext.refl _)
  ·intro x W he f
   have h:x 61 = .pointer (some ⟨w.heap.size+1,0,none⟩):=f.1
   have q0:=(rO4.ext he).cell (j:=0) rfl
   go_wp
   exact zaa rfl (Ext.refl _)
  ·intro x W he f
   obtain⟨B,m,b1,b2,hU,hI⟩:∃ B m,W4.heap.size≤B∧B+6≤W.heap.size∧UpdAt W B V4.heap.size n tx (d1,dn) m∧InnerIs W B (zaj ek) (x 60):=f.1
   have h62:x 62=K8 dO:=f.2.1
   have hl:=hI W (Ext.refl _) dO
   go_wp
   exact zaa ⟨B,m,b1,b2,hU,rfl⟩ (Ext.refl _)
  ·intro x W he f
   obtain⟨B,m,b1,b2,hU,h⟩:∃ B m,W4.heap.size≤B∧B+6≤W.heap.size∧UpdAt W B V4.heap.size n tx (d1,dn) m∧x 63 = .tuple #[(za2 B (zaj ek) dO).getD .nilFunc,.bool (za2 B (zaj ek) dO).isSome]:=f.1
   go_wp
   exact zaa ⟨B,m,b1,b2,hU,rfl⟩ (Ext.refl _)
  ·intro x W he f
   obtain⟨B,m,b1,b2,hU,h⟩:∃ B m,W4.heap.size≤B∧B+6≤W.heap.size∧UpdAt W B V4.heap.size n tx (d1,dn) m∧x 53 = .tuple #[(za2 B (zaj ek) dO).getD .nilFunc,.bool (za2 B (zaj ek) dO).isSome]:=f.1
   go_wp
   exact zaa ⟨B,m,b1,b2,hU,rfl⟩ (Ext.refl _)
  ·intro x W he f
   obtain⟨B,m,b1,b2,hU,h⟩:∃ B m,W4.heap.size≤B∧B+6≤W.heap.size∧UpdAt W B V4.heap.size n tx (d1,dn) m∧x 53 = .tuple #[(za2 B (zaj ek) dO).getD .nilFunc,.bool (za2 B (zaj ek) dO).isSome]:=f.1
   rw [zj8 B (zaj ek) ⟨ek,es,ec,ei,(x1,x2,x3)⟩ (dO,ek,n,tx) (d1,dn)] at h
   go_wp
   exact zaa rfl (Ext.refl _)
  ·intro x W he f
   obtain⟨B,m,b1,b2,hU,h⟩:∃ B m,W4.heap.size≤B∧B+6≤W.heap.size∧UpdAt W B V4.heap.size n tx (d1,dn) m∧x 64=(za2 B (zaj ek) dO).getD .nilFunc:=f.1
   go_wp
   first | exact zaa ⟨B,m,b1,b2,hU,rfl⟩ (Ext.refl _) | exact zaa ⟨B,m,b1,b2,hU,h⟩ (Ext.refl _)
 case hend =>
  intro x W he f
  obtain⟨B,m,hB1,hB2,hU,h9⟩:∃ B m,W4.heap.size≤B∧B+6≤W.heap.size∧UpdAt W B V4.heap.size n tx (d1,dn) m∧x 9=(za2 B (zaj ek) dO).getD .nilFunc:=f.2.2.2.2.2.2.2.2.2.2.2.2.2.1
  have h65:x 65 = .bool (doE (zaj ek) ⟨ek,es,ec,ei,(x1,x2,x3)⟩ (dO,ek,n,tx) (d1,dn)).isSome:=f.2.2.2.2.2.2.2.2.2.2.2.2.1
  clear f
  have hx5:=hx4.trans he
  have rN5:=rN.ext he
  have rD5:=rD4.ext he
  have rR:=rR4.ext he
  have HU5:=Lib.hid (HU4.out.ext he)
  have HRE:=Lib.hid (show zdg ⟨ek,es,ec,ei,(x1,x2,x3)⟩ (dO,ek,n,tx) (d1,dn)=match (doE (zaj ek) ⟨ek,es,ec,ei,(x1,x2,x3)⟩ (dO,ek,n,tx) (d1,dn)) with | none=>(zad,150) | some p=>if p.2=0 then ({ p.1 with seen:=setM p.1.seen d1 dn },0) else (zad,p.2) from rfl)
  have HDO:=zrh (kk:=zaj ek) (o:=(dO,ek,n,tx)) (d:=(d1,dn)) (e:=⟨ek,es,ec,ei,(x1,x2,x3)⟩) hU hn1 hn2 (Nat.lt_of_le_of_lt sm.counts (by decide)) (Nat.lt_of_le_of_lt sm.places (by decide)) rN5 HU5.out (fun b hb=>⟨by omega,by omega⟩) (by omega)
  have hse:=@zmn (zaj ek) ⟨ek,es,ec,ei,(x1,x2,x3)⟩ (dO,ek,n,tx) (d1,dn)
  generalize doE (zaj ek) ⟨ek,es,ec,ei,(x1,x2,x3)⟩ (dO,ek,n,tx) (d1,dn)=Dd at *
  clear hU he rO4 rD4 rR4 HU4 rN hx4
  cases Dd with
  | none =>
   clear HDO h9 hse
   have HRE2:=Lib.hid HRE.out
   have r0:=rR.cell (j:=0) rfl
   have r1:=rR.cell (j:=1) rfl
   have r2:=rR.cell (j:=2) rfl
   have r3:=rR.cell (j:=3) rfl
   have r4:=rR.cell (j:=4) rfl
   have r5:=rR.cell (j:=5) rfl
   have r6:=rR.cell (j:=6) rfl
   have f0:=rR.frozen 0
   have f1:=rR.frozen 1
   have f2:=rR.frozen 2
   have f3:=rR.frozen 3
   have f4:=rR.frozen 4
   have f5:=rR.frozen 5
   have f6:=rR.frozen 6
   have HX:=Lib.hid hx5
   simp only [Option.isSome_none] at h65
   clear rN5 rD5 HU5 HRE
   simp only [List.length_cons,List.length_nil,Nat.reduceAdd,List.take_succ_cons,List.take_zero,List.filterMap_cons,List.filterMap_nil,List.drop_succ_cons,List.drop_zero,zaz,Act.put,List.setIfInBounds_toArray,List.set_cons_succ,List.set_cons_zero,h65]
   go_wp
   go_wp2_with fail
   (try simp only [Exit.inBlock,Exit.then])
   refine bodyPost_ret (v:=.tuple #[entV zad (.slice none 0 0) (.slice none 0 0) (.slice none 0 0),I 150]) (by simp [results,Tryz.f42,go_sem,entV,entC,zad,r0,r1,r2,r3,r4,r5,r6]) rfl ?_
   have hp:=za7 (q:=w.heap.size+1+1+1) HX.out (by omega) zad (.slice none 0 0) (.slice none 0 0) (.slice none 0 0)
   refine ⟨.slice none 0 0,.slice none 0 0,.slice none 0 0,by (rw [HRE2.out];try rfl),?_⟩
   rw [HRE2.out]
   exact⟨EntAt.none _ _ _ _ _,hp⟩
  | some p =>
   obtain⟨e1,err⟩:=p
   have HS1:=Lib.hid (hse rfl)
   simp only [Option.isSome_some] at h65
   cases hc:za2 B (zaj ek) dO with
   | none=>rw [hc] at HDO;exact HDO.elim
   | some c =>
    rw [hc] at HDO h9
    obtain⟨fn,cap,rfl,hen,HCC⟩:=HDO
    simp only [Option.getD_some] at h9
    have HC:=Lib.hid HCC
    clear HCC hc hse
    simp only [List.length_cons,List.length_nil,Nat.reduceAdd,List.take_succ_cons,List.take_zero,List.filterMap_cons,List.filterMap_nil,List.drop_succ_cons,List.drop_zero,zaz,Act.put,List.setIfInBounds_toArray,List.set_cons_succ,List.set_cons_zero,h65,h9]
    go_wp
    go_wp2_with fail
    refine HC.out.mono ?_
    rintro r W6 ⟨rfl,hD⟩
    obtain⟨t2,t3,hE6,hA6,hk6⟩:=hD
    have hx6:=hx5.kept2 hk6 (by omega) (by omega)
    have rR6:=rR.keep (hk6.other _ rR.lt (by omega) (by omega))
    have rD6:=rD5.keep (hk6.other _ rD5.lt (by omega) (by omega))
    have hz6:=hk6.size
    clear HC rR rD5 rN5 HU5 hx5 hk6 hen
    by_cases herr:err=0
    ·subst herr
     have HRE2:=Lib.hid (show zdg ⟨ek,es,ec,ei,(x1,x2,x3)⟩ (dO,ek,n,tx) (d1,dn)=({ e1 with seen:=setM e1.seen d1 dn },0) from HRE.out)
     have HS:=Lib.hid (zg1 d1 dn hA6.seen (by rw [HS1.out.1];exact Nat.le_trans sm.seen (by decide)))
     obtain⟨T2,t2n,rfl,-,-⟩:=hA6.counts.form
     obtain⟨T3,t3n,rfl,-,-⟩:=hA6.items.form
     have k1:=hE6.cell (j:=1) rfl
     have dd0:=rD6.cell (j:=0) rfl
     have dd1:=rD6.cell (j:=1) rfl
     have HA6:=Lib.hid hA6
     clear hA6 HRE
     go_wp2_with fail
     refine HS.out.mono ?_
     rintro r W7 ⟨u,rfl,ho,hx7⟩
     obtain⟨U1,un,rfl,-,-⟩:=ho.form
     have hE7:=hE6.ext hx7
     have rR7:=rR6.ext hx7
     have hf7:=hE7.frozen 1
     have hc7:=hE7.cell (j:=1) rfl
     have hsz7:=hx7.size
     have hE8:=hE7.set (j:=1) (by simp) (.slice U1 (setM e1.seen d1 dn).length un)
     have rR8:=rR7.other (p:=⟨V4.heap.size,1,none⟩) (by simp;omega) (.slice U1 (setM e1.seen d1 dn).length un)
     simp only [List.set_cons_succ,List.set_cons_zero] at hE8
     have y0:=hE7.cell (j:=0) rfl
     have y1:=hE7.cell (j:=1) rfl
     have y2:=hE7.cell (j:=2) rfl
     have y3:=hE7.cell (j:=3) rfl
     have y4:=hE7.cell (j:=4) rfl
     have y5:=hE7.cell (j:=5) rfl
     have y6:=hE7.cell (j:=6) rfl
     have rr0:=rR7.cell (j:=0) rfl
     have rr1:=rR7.cell (j:=1) rfl
     have rr2:=rR7.cell (j:=2) rfl
     have rr3:=rR7.cell (j:=3) rfl
     have rr4:=rR7.cell (j:=4) rfl
     have rr5:=rR7.cell (j:=5) rfl
     have rr6:=rR7.cell (j:=6) rfl
     have ff0:=rR7.frozen 0
     have ff1:=rR7.frozen 1
     have ff2:=rR7.frozen 2
     have ff3:=rR7.frozen 3
     have ff4:=rR7.frozen 4
     have ff5:=rR7.frozen 5
     have ff6:=rR7.frozen 6
     have z0:=hE8.cell (j:=0) rfl
     have z1:=hE8.cell (j:=1) rfl
     have z2:=hE8.cell (j:=2) rfl
     have z3:=hE8.cell (j:=3) rfl
     have z4:=hE8.cell (j:=4) rfl
     have z5:=hE8.cell (j:=5) rfl
     have z6:=hE8.cell (j:=6) rfl
     have r0:=rR8.cell (j:=0) rfl
     have r1:=rR8.cell (j:=1) rfl
     have r2:=rR8.cell (j:=2) rfl
     have r3:=rR8.cell (j:=3) rfl
     have r4:=rR8.cell (j:=4) rfl
     have r5:=rR8.cell (j:=5) rfl
     have r6:=rR8.cell (j:=6) rfl
     have f0:=rR8.frozen 0
     have f1:=rR8.frozen 1
     have f2:=rR8.frozen 2
     have f3:=rR8.frozen 3
     have f4:=rR8.frozen 4
     have f5:=rR8.frozen 5
     have f6:=rR8.frozen 6
     have HX:=Lib.hid (((hx6.trans hx7).set (p:=⟨V4.heap.size,1,none⟩) (by simp;omega) (.slice U1 (setM e1.seen d1 dn).length un)))
     have HO:=Lib.hid ho
     have HX7:=Lib.hid hx7
     clear hE6 hE7 hE8 rR6 rR7 rR8 rD6 ho hx7 hx6 HS k1 dd0 dd1
     go_wp2_with fail
     (try simp only [Exit.inBlock,Exit.then])
     refine bodyPost_ret (v:=.tuple #[entV { e1 with seen:=setM e1.seen d1 dn } (.slice U1 (setM e1.seen d1 dn).length un) (.slice T2 e1.counts.length t2n) (.slice T3 e1.items.length t3n),I 0]) (by simp [results,Tryz.f42,go_sem,entV,entC,r0,r1,r2,r3,r4,r5,r6,rr0,rr1,rr2,rr3,rr4,rr5,rr6]) rfl ?_
     have hp:=za7 (q:=w.heap.size+1+1+1) HX.out (by omega) { e1 with seen:=setM e1.seen d1 dn } (.slice U1 (setM e1.seen d1 dn).length un) (.slice T2 e1.counts.length t2n) (.slice T3 e1.items.length t3n)
     refine ⟨.slice U1 (setM e1.seen d1 dn).length un,.slice T2 e1.counts.length t2n,.slice T3 e1.items.length t3n,by (rw [HRE2.out];try rfl),?_⟩
     rw [HRE2.out]
     refine ⟨?_,hp⟩
     have hkp:∀ b,b ≠ V4.heap.size→b ≠ w.heap.size+1+1+1→(put7 (W7.setCell ⟨V4.heap.size,1,none⟩ (.slice U1 (setM e1.seen d1 dn).length un)) (w.heap.size+1+1+1) { e1 with seen:=setM e1.seen d1 dn } (.slice U1 (setM e1.seen d1 dn).length un) (.slice T2 e1.counts.length t2n) (.slice T3 e1.items.length t3n)).heap[b]? = W7.heap[b]?:=fun b h1 h2 =>
      (zdy _ _ _ _ _ _ b h2).trans (Below.heap_setCell _ _ _ _ h1)
     have hA7:=HA6.out.ext HX7.out
     refine ⟨?_,?_,?_⟩
     ·exact (za5 (HO.out.keep fun b hb _=>hkp b (by have:=(HO.out.base_le hb).1;omega) (by have:=(HO.out.base_le hb).1;omega))).mono (by decide) fun b _ h=>by omega
     ·exact (hA7.counts.keep (by decide) fun b hb _=>hkp b (by rcases hb with hb | hb <;> omega) (by rcases hb with hb | hb <;> omega)).mono (by decide) fun b _ hb=>by rcases hb with hb | hb <;> omega
     ·exact (hA7.items.keep (by decide) fun b hb _=>hkp b (by rcases hb with hb | hb <;> omega) (by rcases hb with hb | hb <;> omega)).mono (by decide) fun b _ hb=>by rcases hb with hb | hb <;> omega
    ·have HRE2:=Lib.hid (show zdg ⟨ek,es,ec,ei,(x1,x2,x3)⟩ (dO,ek,n,tx) (d1,dn)=(zad,err) by rw [HRE.out];exact if_neg herr)
     have hne2:((err:Int) == 0)=false:=neI (by omega)
     have r0:=rR6.cell (j:=0) rfl
     have r1:=rR6.cell (j:=1) rfl
     have r2:=rR6.cell (j:=2) rfl
     have r3:=rR6.cell (j:=3) rfl
     have r4:=rR6.cell (j:=4) rfl
     have r5:=rR6.cell (j:=5) rfl
     have r6:=rR6.cell (j:=6) rfl
     have f0:=rR6.frozen 0
     have f1:=rR6.frozen 1
     have f2:=rR6.frozen 2
     have f3:=rR6.frozen 3
     have f4:=rR6.frozen 4
     have f5:=rR6.frozen 5
     have f6:=rR6.frozen 6
     have HX:=Lib.hid hx6
     clear hE6 hA6 rD6 HRE hx6 rR6
     go_wp2_with fail
     (try simp only [Exit.inBlock,Exit.then])
     refine bodyPost_ret (v:=.tuple #[entV zad (.slice none 0 0) (.slice none 0 0) (.slice none 0 0),I err]) (by simp [results,Tryz.f42,go_sem,entV,entC,zad,r0,r1,r2,r3,r4,r5,r6]) rfl ?_
     have hp:=za7 (q:=w.heap.size+1+1+1) HX.out (by omega) zad (.slice none 0 0) (.slice none 0 0) (.slice none 0 0)
     refine ⟨.slice none 0 0,.slice none 0 0,.slice none 0 0,by (rw [HRE2.out];try rfl),?_⟩
     rw [HRE2.out]
     exact⟨EntAt.none _ _ _ _ _,hp⟩
theorem zpa {S:Nat→Prop} {ek:Str} {es:List Mark} {ec:List zal} {ei:List Item} {x1:Nat} {x2:Str} {x3:Bool} {A1 A2 A3:Option Addr} {n1 n2 n3:Nat} {w:World} (dO:Nat) (k:Str) (n:Int) (tx:Str) (d1:Str) (dn:Nat) (h:EntAt w S ⟨ek,es,ec,ei,(x1,x2,x3)⟩ (.slice A1 es.length n1) (.slice A2 ec.length n2) (.slice A3 ei.length n3)) (hk:keyS k=true) (hne:(ek == k)=false) (hs:zau ⟨ek,es,ec,ei,(x1,x2,x3)⟩ zad=true) (hd:(d1 == [])=false) (h2:1≤(dn:Int)) (h3:(dn:Int)≤281474976710656) (hh:hasM es (d1,dn)=false) (sm:SmallE ⟨ek,es,ec,ei,(x1,x2,x3)⟩) (hn1:-9223372036854775808≤n) (hn2:n≤9223372036854775807) :
  Calls Tryz.prog 42 #[.agg #[St ek,.slice A1 es.length n1,.slice A2 ec.length n2,.slice A3 ei.length n3,U x1,St x2,.bool x3],.agg #[K8 dO,St k,I n,St tx],.agg #[St d1,U dn]] w fun r w'=>∃ u1 u2 u3,r = .returned (.tuple #[entV (zdg ⟨k,es,ec,ei,(x1,x2,x3)⟩ (dO,k,n,tx) (d1,dn)).1 u1 u2 u3,I (zdg ⟨k,es,ec,ei,(x1,x2,x3)⟩ (dO,k,n,tx) (d1,dn)).2])∧EntAt w' (fun b=>w.heap.size≤b) (zdg ⟨k,es,ec,ei,(x1,x2,x3)⟩ (dO,k,n,tx) (d1,dn)).1 u1 u2 u3∧Ext w w':=by
 obtain⟨W0,hW0⟩:∃ W0,W0=(((w.alloc (.cells #[St ek,.slice A1 es.length n1,.slice A2 ec.length n2,.slice A3 ei.length n3,U x1,St x2,.bool x3] 37)).alloc (.cells #[K8 dO,St k,I n,St tx] 42)).alloc (.cells #[St d1,U dn] 97)).alloc (.cells #[St [],.slice none 0 0,.slice none 0 0,.slice none 0 0,.int .u64 0,St [],.bool false] 37):=⟨_,rfl⟩
 have hx0:Ext w W0:=by rw [hW0];exact ((((Ext.refl w).alloc _).alloc _).alloc _).alloc _
 have hz0:W0.heap.size=w.heap.size+1+1+1+1:=by rw [hW0];simp
 have rE0:RowIs W0 w.heap.size 37 [St ek,.slice A1 es.length n1,.slice A2 ec.length n2,.slice A3 ei.length n3,U x1,St x2,.bool x3] []:=by rw [hW0];exact (((zac w _ _).alloc _).alloc _).alloc _
 have rO0:RowIs W0 (w.heap.size+1) 42 [K8 dO,St k,I n,St tx] []:=by rw [hW0];have h:=zac (w.alloc (.cells #[St ek,.slice A1 es.length n1,.slice A2 ec.length n2,.slice A3 ei.length n3,U x1,St x2,.bool x3] 37)) 42 [K8 dO,St k,I n,St tx];simp only [World.size_alloc] at h;exact (h.alloc _).alloc _
 have rD0:RowIs W0 (w.heap.size+1+1) 97 [St d1,U dn] []:=by rw [hW0];have h:=zac ((w.alloc (.cells #[St ek,.slice A1 es.length n1,.slice A2 ec.length n2,.slice A3 ei.length n3,U x1,St x2,.bool x3] 37)).alloc (.cells #[K8 dO,St k,I n,St tx] 42)) 97 [St d1,U dn];simp only [World.size_alloc] at h;exact h.alloc _
 have rR0:RowIs W0 (w.heap.size+1+1+1) 37 [St [],.slice none 0 0,.slice none 0 0,.slice none 0 0,.int .u64 0,St [],.bool false] []:=by rw [hW0];have h:=zac (((w.alloc (.cells #[St ek,.slice A1 es.length n1,.slice A2 ec.length n2,.slice A3 ei.length n3,U x1,St x2,.bool x3] 37)).alloc (.cells #[K8 dO,St k,I n,St tx] 42)).alloc (.cells #[St d1,U dn] 97)) 37 [St [],.slice none 0 0,.slice none 0 0,.slice none 0 0,.int .u64 0,St [],.bool false];simp only [World.size_alloc] at h;exact h
 have H1:=Lib.hid (zcv k W0)
 have HE:=Lib.hid h
 rw [hW0] at H1
 clear h
 go_enter Tryz.func42,Tryz.ntmps42
 go_wp2_with fail
 refine H1.out.mono ?_
 rintro r V ⟨rfl,hx1⟩
 obtain⟨hx1,hzz,rE,rO,rD,rR⟩:Ext w V∧w.heap.size+4≤V.heap.size∧RowIs V w.heap.size 37 [St ek,.slice A1 es.length n1,.slice A2 ec.length n2,.slice A3 ei.length n3,U x1,St x2,.bool x3] []∧RowIs V (w.heap.size+1) 42 [K8 dO,St k,I n,St tx] []∧RowIs V (w.heap.size+1+1) 97 [St d1,U dn] []∧RowIs V (w.heap.size+1+1+1) 37 [St [],.slice none 0 0,.slice none 0 0,.slice none 0 0,.int .u64 0,St [],.bool false] []:=by
  have H0:Ext W0 V:=by rw [hW0];exact hx1
  exact⟨hx0.trans H0,by have:=H0.size;omega,rE0.ext H0,rO0.ext H0,rD0.ext H0,rR0.ext H0⟩
 clear hx0 hz0 rE0 rO0 rD0 rR0 H1 hW0
 rw [hk]
 have HN:=Lib.hid (zdw (HE.out.ext hx1))
 have e0:=rE.cell (j:=0) rfl
 have e1:=rE.cell (j:=1) rfl
 have e2:=rE.cell (j:=2) rfl
 have e3:=rE.cell (j:=3) rfl
 have e4:=rE.cell (j:=4) rfl
 have e5:=rE.cell (j:=5) rfl
 have e6:=rE.cell (j:=6) rfl
 have o0:=rO.cell (j:=0) rfl
 have o1:=rO.cell (j:=1) rfl
 have o2:=rO.cell (j:=2) rfl
 have o3:=rO.cell (j:=3) rfl
 go_wp2_with fail
 refine HN.out.mono ?_
 rintro r V2 ⟨rfl,hx2⟩
 rw [hs]
 obtain⟨hx1,hzz,rE,rO,rD,rR⟩:Ext w V2∧w.heap.size+4≤V2.heap.size∧RowIs V2 w.heap.size 37 [St ek,.slice A1 es.length n1,.slice A2 ec.length n2,.slice A3 ei.length n3,U x1,St x2,.bool x3] []∧RowIs V2 (w.heap.size+1) 42 [K8 dO,St k,I n,St tx] []∧RowIs V2 (w.heap.size+1+1) 97 [St d1,U dn] []∧RowIs V2 (w.heap.size+1+1+1) 37 [St [],.slice none 0 0,.slice none 0 0,.slice none 0 0,.int .u64 0,St [],.bool false] []:=⟨hx1.trans hx2,by have:=hx2.size;omega,rE.ext hx2,rO.ext hx2,rD.ext hx2,rR.ext hx2⟩
 clear hx2 e0 e1 e2 e3 e4 e5 e6 o0 o1 o2 o3 HN
 have HH:=Lib.hid (zfx (d1,dn) (HE.out.seen.ext (by decide) hx1))
 have e0:=rE.cell (j:=0) rfl
 have e1:=rE.cell (j:=1) rfl
 have e2:=rE.cell (j:=2) rfl
 have e3:=rE.cell (j:=3) rfl
 have e4:=rE.cell (j:=4) rfl
 have e5:=rE.cell (j:=5) rfl
 have e6:=rE.cell (j:=6) rfl
 have o0:=rO.cell (j:=0) rfl
 have o1:=rO.cell (j:=1) rfl
 have o2:=rO.cell (j:=2) rfl
 have o3:=rO.cell (j:=3) rfl
 have dc0:=rD.cell (j:=0) rfl
 have dc1:=rD.cell (j:=1) rfl
 go_wp2_with fail
 all_goals (try (exfalso;omega))
 refine HH.out.mono ?_
 rintro r V3 ⟨rfl,hx3⟩
 rw [hh]
 obtain⟨hx1,hzz,rE,rO,rD,rR⟩:Ext w V3∧w.heap.size+4≤V3.heap.size∧RowIs V3 w.heap.size 37 [St ek,.slice A1 es.length n1,.slice A2 ec.length n2,.slice A3 ei.length n3,U x1,St x2,.bool x3] []∧RowIs V3 (w.heap.size+1) 42 [K8 dO,St k,I n,St tx] []∧RowIs V3 (w.heap.size+1+1) 97 [St d1,U dn] []∧RowIs V3 (w.heap.size+1+1+1) 37 [St [],.slice none 0 0,.slice none 0 0,.slice none 0 0,.int .u64 0,St [],.bool false] []:=⟨hx1.trans hx3,by have:=hx3.size;omega,rE.ext hx3,rO.ext hx3,rD.ext hx3,rR.ext hx3⟩
 clear hx3 HH
 have HCP:=Lib.hid (zdx (HE.out.ext hx1) (Nat.le_trans sm.seen (by decide)) (Nat.le_trans sm.counts (by decide)) (Nat.le_trans sm.items (by decide)) (fun it hit=>Nat.le_trans (sm.dots it hit) (by omega)))
 have p0:=rE.cell (j:=0) rfl
 have p1:=rE.cell (j:=1) rfl
 have p2:=rE.cell (j:=2) rfl
 have p3:=rE.cell (j:=3) rfl
 have p4:=rE.cell (j:=4) rfl
 have p5:=rE.cell (j:=5) rfl
 have p6:=rE.cell (j:=6) rfl
 go_wp2_with fail
 refine HCP.out.mono ?_
 rintro r V4 ⟨u1,u2,u3,rfl,hu,hx4⟩
 have hzb:=hx4.size
 obtain⟨hx1,hzz,rE,rO,rD,rR⟩:Ext w V4∧w.heap.size+4≤V4.heap.size∧RowIs V4 w.heap.size 37 [St ek,.slice A1 es.length n1,.slice A2 ec.length n2,.slice A3 ei.length n3,U x1,St x2,.bool x3] []∧RowIs V4 (w.heap.size+1) 42 [K8 dO,St k,I n,St tx] []∧RowIs V4 (w.heap.size+1+1) 97 [St d1,U dn] []∧RowIs V4 (w.heap.size+1+1+1) 37 [St [],.slice none 0 0,.slice none 0 0,.slice none 0 0,.int .u64 0,St [],.bool false] []:=⟨hx1.trans hx4,by have:=hx4.size;omega,rE.ext hx4,rO.ext hx4,rD.ext hx4,rR.ext hx4⟩
 obtain⟨B1,m1,rfl,-,-⟩:=hu.seen.form
 obtain⟨B2,m2,rfl,-,-⟩:=hu.counts.form
 obtain⟨B3,m3,rfl,-,-⟩:=hu.items.form
 have HU:=Lib.hid (show EntAt V4 (fun b=>V3.heap.size≤b∧b < V4.heap.size) ⟨k,es,ec,ei,(x1,x2,x3)⟩ (.slice B1 es.length m1) (.slice B2 ec.length m2) (.slice B3 ei.length m3) from (show EntAt V4 (fun b=>V3.heap.size≤b) ⟨k,es,ec,ei,(x1,x2,x3)⟩ _ _ _ from ⟨hu.at.seen,hu.at.counts,hu.at.items⟩).mono fun b hb h=>⟨h,hb⟩)
 clear hx4 hu HCP
 have hlt1:w.heap.size+1 < V4.heap.size:=by omega
 have q0:=rO.cell (j:=0) rfl
 have q1:=rO.cell (j:=1) rfl
 have q2:=rO.cell (j:=2) rfl
 have q3:=rO.cell (j:=3) rfl
 go_wp2_with fail
 have rN:=zac V4 37 [St k,.slice B1 es.length m1,.slice B2 ec.length m2,.slice B3 ei.length m3,U x1,St x2,.bool x3]
 have hxa:=(Ext.refl V4).alloc (.cells #[St k,.slice B1 es.length m1,.slice B2 ec.length m2,.slice B3 ei.length m3,U x1,St x2,.bool x3] 37)
 have rO4:=rO.ext hxa
 have rD4:=rD.ext hxa
 have rR4:=rR.ext hxa
 have HU4:=Lib.hid (HU.out.ext hxa)
 have hx4:=hx1.trans hxa
 have hzn:=rN.lt
 generalize hW4:V4.alloc (.cells #[St k,.slice B1 es.length m1,.slice B2 ec.length m2,.slice B3 ei.length m3,U x1,St x2,.bool x3] 37)=W4 at *
 have hv4:=hxa.size
 clear hW4 rO rD rR rE hx1 hxa HU q0 q1 q2 q3
 refine za9 [fun v _=>v=opV (dO,k,n,tx),
  fun v _=>v=dotV (d1,dn),
  fun v W2=>∃ B m,W4.heap.size≤B∧B+6≤W2.heap.size∧UpdAt W2 B V4.heap.size n tx (d1,dn) m∧v = .map (some m),
  fun v _=>v = .pointer (some ⟨w.heap.size+1,1,none⟩),
  fun v _=>v=St k,
  fun v _=>v=K8 (zaj k),
  fun v W2=>∃ B m,W4.heap.size≤B∧B+6≤W2.heap.size∧UpdAt W2 B V4.heap.size n tx (d1,dn) m∧InnerIs W2 B (zaj k) v,
  fun v _=>v = .pointer (some ⟨w.heap.size+1,0,none⟩),
  fun v _=>v=K8 dO,
  fun v W2=>∃ B m,W4.heap.size≤B∧B+6≤W2.heap.size∧UpdAt W2 B V4.heap.size n tx (d1,dn) m∧v = .tuple #[(za2 B (zaj k) dO).getD .nilFunc,.bool (za2 B (zaj k) dO).isSome],
  fun v W2=>∃ B m,W4.heap.size≤B∧B+6≤W2.heap.size∧UpdAt W2 B V4.heap.size n tx (d1,dn) m∧v = .tuple #[(za2 B (zaj k) dO).getD .nilFunc,.bool (za2 B (zaj k) dO).isSome],
  fun v W2=>∃ B m,W4.heap.size≤B∧B+6≤W2.heap.size∧UpdAt W2 B V4.heap.size n tx (d1,dn) m∧v=(za2 B (zaj k) dO).getD .nilFunc,
  fun v _=>v = .bool (doE (zaj k) ⟨k,es,ec,ei,(x1,x2,x3)⟩ (dO,k,n,tx) (d1,dn)).isSome,
  fun v W2=>∃ B m,W4.heap.size≤B∧B+6≤W2.heap.size∧UpdAt W2 B V4.heap.size n tx (d1,dn) m∧v=(za2 B (zaj k) dO).getD .nilFunc] rfl (by kernel_rfl) ?hR ?hstep ?hend
 case hR =>
  simp only [List.mem_cons,List.not_mem_nil,or_false,forall_eq_or_imp,forall_eq]
  exact⟨fun v _ _ h _=>h,fun v _ _ h _=>h,fun v _ _ h he=>by obtain⟨B,m,h1,h2,h3,h4⟩:=h;exact⟨B,m,h1,Nat.le_trans h2 he.size,h3.ext he,h4⟩,fun v _ _ h _=>h,fun v _ _ h _=>h,fun v _ _ h _=>h,fun v _ _ h he=>by obtain⟨B,m,h1,h2,h3,h4⟩:=h;exact⟨B,m,h1,Nat.le_trans h2 he.size,h3.ext he,h4.ext he⟩,fun v _ _ h _=>h,fun v _ _ h _=>h,fun v _ _ h he=>by obtain⟨B,m,h1,h2,h3,h4⟩:=h;exact⟨B,m,h1,Nat.le_trans h2 he.size,h3.ext he,h4⟩,fun v _ _ h he=>by obtain⟨B,m,h1,h2,h3,h4⟩:=h;exact⟨B,m,h1,Nat.le_trans h2 he.size,h3.ext he,h4⟩,fun v _ _ h he=>by obtain⟨B,m,h1,h2,h3,h4⟩:=h;exact⟨B,m,h1,Nat.le_trans h2 he.size,h3.ext he,h4⟩,fun v _ _ h _=>h,fun v _ _ h he=>by obtain⟨B,m,h1,h2,h3,h4⟩:=h;exact⟨B,m,h1,Nat.le_trans h2 he.size,h3.ext he,h4⟩⟩
 case hstep =>
  simp only [List.length_cons,List.length_nil,Nat.reduceAdd,List.take_succ_cons,List.take_zero,zb1,and_true]
  refine ⟨?_,?_,?_,?_,?_,?_,?_,?_,?_,?_,?_,?_,?_,?_⟩
  ·intro x W he f
   have h:x 4 = .pointer (some ⟨w.heap.size+1,0,none⟩):=f.1
   have q0:=(rO4.ext he).cell (j:=0) rfl
   have q1:=(rO4.ext he).cell (j:=1) rfl
   have q2:=(rO4.ext he).cell (j:=2) rfl
   have q3:=(rO4.ext he).cell (j:=3) rfl
   go_wp
   exact zaa rfl (Ext.refl _)
  ·intro x W he f
   have h:x 5 = .pointer (some ⟨w.heap.size+1+1,0,none⟩):=f.1
   have q0:=(rD4.ext he).cell (j:=0) rfl
   have q1:=(rD4.ext he).cell (j:=1) rfl
   go_wp
   exact zaa rfl (Ext.refl _)
  ·intro x W he f
   have h8:x 8 = .pointer (some ⟨V4.heap.size,0,none⟩):=f.1
   have h54:x 54=opV (dO,k,n,tx):=f.2.1
   have h55:x 55=dotV (d1,dn):=f.2.2.1
   have hs:=he.size
   have HC:=Lib.hid (zi8 (W:=W) (E:=V4.heap.size) k dO n tx (d1,dn))
   go_wp
   refine HC.out.mono ?_
   rintro r W2 ⟨m,rfl,hU,hz,hx2⟩
   dsimp only
   go_wp
   exact zaa (v:=.map (some m)) ⟨W.heap.size,m,hs,hz,hU,rfl⟩ hx2
  ·intro x W he f
   have h:x 4 = .pointer (some ⟨w.heap.size+1,0,none⟩):=f.1
   go_wp
   exact zaa rfl (Ext.refl _)
  ·intro x W he f
   have h:x 57 = .pointer (some ⟨w.heap.size+1,1,none⟩):=f.1
   have q1:=(rO4.ext he).cell (j:=1) rfl
   go_wp
   exact zaa rfl (Ext.refl _)
  ·intro x W he f
   have h:x 58=St k:=f.1
   have HC:=Lib.hid (zgi k W)
   go_wp
   refine HC.out.mono ?_
   rintro r W2 ⟨rfl,hx2⟩
   dsimp only
   go_wp
   exact zaa rfl hx2
  ·intro x W he f
   obtain⟨B,m,b1,b2,hU,h⟩:∃ B m,W4.heap.size≤B∧B+6≤W.heap.size∧UpdAt W B V4.heap.size n tx (d1,dn) m∧x 56 = .map (some m):=f.1
   have h59:x 59=K8 (zaj k):=f.2.1
   obtain⟨u,hu1,hu2⟩:=zmm hU (zaj k)
   have hl:=hu1 W (Ext.refl _)
   go_wp
   exact zaa (v:=u) ⟨B,m,b1,b2,hU,hu2⟩ (Ext.refl _)
  ·intro x W he f
   have h:x 4 = .pointer (some ⟨w.heap.size+1,0,none⟩):=f.1
   go_wp
   exact zaa rfl (Ext.refl _)
  ·intro x W he f
   have h:x 61 = .pointer (some ⟨w.heap.size+1,0,none⟩):=f.1
   have q0:=(rO4.ext he).cell (j:=0) rfl
   go_wp
   exact zaa rfl (Ext.refl _)
  ·intro x W he f
   obtain⟨B,m,b1,b2,hU,hI⟩:∃ B m,W4.heap.size≤B∧B+6≤W.heap.size∧UpdAt W B V4.heap.size n tx (d1,dn) m∧InnerIs W B (zaj k) (x 60):=f.1
   have h62:x 62=K8 dO:=f.2.1
   have hl:=hI W (Ext.refl _) dO
   go_wp
   exact zaa ⟨B,m,b1,b2,hU,rfl⟩ (Ext.refl _)
  ·intro x W he f
   obtain⟨B,m,b1,b2,hU,h⟩:∃ B m,W4.heap.size≤B∧B+6≤W.heap.size∧UpdAt W B V4.heap.size n tx (d1,dn) m∧x 63 = .tuple #[(za2 B (zaj k) dO).getD .nilFunc,.bool (za2 B (zaj k) dO).isSome]:=f.1
   go_wp
   exact zaa ⟨B,m,b1,b2,hU,rfl⟩ (Ext.refl _)
  ·intro x W he f
   obtain⟨B,m,b1,b2,hU,h⟩:∃ B m,W4.heap.size≤B∧B+6≤W.heap.size∧UpdAt W B V4.heap.size n tx (d1,dn) m∧x 53 = .tuple #[(za2 B (zaj k) dO).getD .nilFunc,.bool (za2 B (zaj k) dO).isSome]:=f.1
   go_wp
   exact zaa ⟨B,m,b1,b2,hU,rfl⟩ (Ext.refl _)
  ·intro x W he f
   obtain⟨B,m,b1,b2,hU,h⟩:∃ B m,W4.heap.size≤B∧B+6≤W.heap.size∧UpdAt W B V4.heap.size n tx (d1,dn) m∧x 53 = .tuple #[(za2 B (zaj k) dO).getD .nilFunc,.bool (za2 B (zaj k) dO).isSome]:=f.1
   rw [zj8 B (zaj k) ⟨k,es,ec,ei,(x1,x2,x3)⟩ (dO,k,n,tx) (d1,dn)] at h
   go_wp
   exact zaa rfl (Ext.refl _)
  ·intro x W he f
   obtain⟨B,m,b1,b2,hU,h⟩:∃ B m,W4.heap.size≤B∧B+6≤W.heap.size∧UpdAt W B V4.heap.size n tx (d1,dn) m∧x 64=(za2 B (zaj k) dO).getD .nilFunc:=f.1
   go_wp
   first | exact zaa ⟨B,m,b1,b2,hU,rfl⟩ (Ext.refl _) | exact zaa ⟨B,m,b1,b2,hU,h⟩ (Ext.refl _)
 case hend =>
  intro x W he f
  obtain⟨B,m,hB1,hB2,hU,h9⟩:∃ B m,W4.heap.size≤B∧B+6≤W.heap.size∧UpdAt W B V4.heap.size n tx (d1,dn) m∧x 9=(za2 B (zaj k) dO).getD .nilFunc:=f.2.2.2.2.2.2.2.2.2.2.2.2.2.1
  have h65:x 65 = .bool (doE (zaj k) ⟨k,es,ec,ei,(x1,x2,x3)⟩ (dO,k,n,tx) (d1,dn)).isSome:=f.2.2.2.2.2.2.2.2.2.2.2.2.1
  clear f
  have hx5:=hx4.trans he
  have rN5:=rN.ext he
  have rD5:=rD4.ext he
  have rR:=rR4.ext he
  have HU5:=Lib.hid (HU4.out.ext he)
  have HRE:=Lib.hid (show zdg ⟨k,es,ec,ei,(x1,x2,x3)⟩ (dO,k,n,tx) (d1,dn)=match (doE (zaj k) ⟨k,es,ec,ei,(x1,x2,x3)⟩ (dO,k,n,tx) (d1,dn)) with | none=>(zad,150) | some p=>if p.2=0 then ({ p.1 with seen:=setM p.1.seen d1 dn },0) else (zad,p.2) from rfl)
  have HDO:=zrh (kk:=zaj k) (o:=(dO,k,n,tx)) (d:=(d1,dn)) (e:=⟨k,es,ec,ei,(x1,x2,x3)⟩) hU hn1 hn2 (Nat.lt_of_le_of_lt sm.counts (by decide)) (Nat.lt_of_le_of_lt sm.places (by decide)) rN5 HU5.out (fun b hb=>⟨by omega,by omega⟩) (by omega)
  have hse:=@zmn (zaj k) ⟨k,es,ec,ei,(x1,x2,x3)⟩ (dO,k,n,tx) (d1,dn)
  generalize doE (zaj k) ⟨k,es,ec,ei,(x1,x2,x3)⟩ (dO,k,n,tx) (d1,dn)=Dd at *
  clear hU he rO4 rD4 rR4 HU4 rN hx4
  cases Dd with
  | none =>
   clear HDO h9 hse
   have HRE2:=Lib.hid HRE.out
   have r0:=rR.cell (j:=0) rfl
   have r1:=rR.cell (j:=1) rfl
   have r2:=rR.cell (j:=2) rfl
   have r3:=rR.cell (j:=3) rfl
   have r4:=rR.cell (j:=4) rfl
   have r5:=rR.cell (j:=5) rfl
   have r6:=rR.cell (j:=6) rfl
   have f0:=rR.frozen 0
   have f1:=rR.frozen 1
   have f2:=rR.frozen 2
   have f3:=rR.frozen 3
   have f4:=rR.frozen 4
   have f5:=rR.frozen 5
   have f6:=rR.frozen 6
   have HX:=Lib.hid hx5
   simp only [Option.isSome_none] at h65
   clear rN5 rD5 HU5 HRE
   simp only [List.length_cons,List.length_nil,Nat.reduceAdd,List.take_succ_cons,List.take_zero,List.filterMap_cons,List.filterMap_nil,List.drop_succ_cons,List.drop_zero,zaz,Act.put,List.setIfInBounds_toArray,List.set_cons_succ,List.set_cons_zero,h65]
   go_wp
   go_wp2_with fail
   (try simp only [Exit.inBlock,Exit.then])
   refine bodyPost_ret (v:=.tuple #[entV zad (.slice none 0 0) (.slice none 0 0) (.slice none 0 0),I 150]) (by simp [results,Tryz.f42,go_sem,entV,entC,zad,r0,r1,r2,r3,r4,r5,r6]) rfl ?_
   have hp:=za7 (q:=w.heap.size+1+1+1) HX.out (by omega) zad (.slice none 0 0) (.slice none 0 0) (.slice none 0 0)
   refine ⟨.slice none 0 0,.slice none 0 0,.slice none 0 0,by (rw [HRE2.out];try rfl),?_⟩
   rw [HRE2.out]
   exact⟨EntAt.none _ _ _ _ _,hp⟩
  | some p =>
   obtain⟨e1,err⟩:=p
   have HS1:=Lib.hid (hse rfl)
   simp only [Option.isSome_some] at h65
   cases hc:za2 B (zaj k) dO with
   | none=>rw [hc] at HDO;exact HDO.elim
   | some c =>
    rw [hc] at HDO h9
    obtain⟨fn,cap,rfl,hen,HCC⟩:=HDO
    simp only [Option.getD_some] at h9
    have HC:=Lib.hid HCC
    clear HCC hc hse
    simp only [List.length_cons,List.length_nil,Nat.reduceAdd,List.take_succ_cons,List.take_zero,List.filterMap_cons,List.filterMap_nil,List.drop_succ_cons,List.drop_zero,zaz,Act.put,List.setIfInBounds_toArray,List.set_cons_succ,List.set_cons_zero,h65,h9]
    go_wp
    go_wp2_with fail
    refine HC.out.mono ?_
    rintro r W6 ⟨rfl,hD⟩
    obtain⟨t2,t3,hE6,hA6,hk6⟩:=hD
    have hx6:=hx5.kept2 hk6 (by omega) (by omega)
    have rR6:=rR.keep (hk6.other _ rR.lt (by omega) (by omega))
    have rD6:=rD5.keep (hk6.other _ rD5.lt (by omega) (by omega))
    have hz6:=hk6.size
    clear HC rR rD5 rN5 HU5 hx5 hk6 hen
    by_cases herr:err=0
    ·subst herr
     have HRE2:=Lib.hid (show zdg ⟨k,es,ec,ei,(x1,x2,x3)⟩ (dO,k,n,tx) (d1,dn)=({ e1 with seen:=setM e1.seen d1 dn },0) from HRE.out)
     have HS:=Lib.hid (zg1 d1 dn hA6.seen (by rw [HS1.out.1];exact Nat.le_trans sm.seen (by decide)))
     obtain⟨T2,t2n,rfl,-,-⟩:=hA6.counts.form
     obtain⟨T3,t3n,rfl,-,-⟩:=hA6.items.form
     have k1:=hE6.cell (j:=1) rfl
     have dd0:=rD6.cell (j:=0) rfl
     have dd1:=rD6.cell (j:=1) rfl
     have HA6:=Lib.hid hA6
     clear hA6 HRE
     go_wp2_with fail
     refine HS.out.mono ?_
     rintro r W7 ⟨u,rfl,ho,hx7⟩
     obtain⟨U1,un,rfl,-,-⟩:=ho.form
     have hE7:=hE6.ext hx7
     have rR7:=rR6.ext hx7
     have hf7:=hE7.frozen 1
     have hc7:=hE7.cell (j:=1) rfl
     have hsz7:=hx7.size
     have hE8:=hE7.set (j:=1) (by simp) (.slice U1 (setM e1.seen d1 dn).length un)
     have rR8:=rR7.other (p:=⟨V4.heap.size,1,none⟩) (by simp;omega) (.slice U1 (setM e1.seen d1 dn).length un)
     simp only [List.set_cons_succ,List.set_cons_zero] at hE8
     have y0:=hE7.cell (j:=0) rfl
     have y1:=hE7.cell (j:=1) rfl
     have y2:=hE7.cell (j:=2) rfl
     have y3:=hE7.cell (j:=3) rfl
     have y4:=hE7.cell (j:=4) rfl
     have y5:=hE7.cell (j:=5) rfl
     have y6:=hE7.cell (j:=6) rfl
     have rr0:=rR7.cell (j:=0) rfl
     have rr1:=rR7.cell (j:=1) rfl
     have rr2:=rR7.cell (j:=2) rfl
     have rr3:=rR7.cell (j:=3) rfl
     have rr4:=rR7.cell (j:=4) rfl
     have rr5:=rR7.cell (j:=5) rfl
     have rr6:=rR7.cell (j:=6) rfl
     have ff0:=rR7.frozen 0
     have ff1:=rR7.frozen 1
     have ff2:=rR7.frozen 2
     have ff3:=rR7.frozen 3
     have ff4:=rR7.frozen 4
     have ff5:=rR7.frozen 5
     have ff6:=rR7.frozen 6
     have z0:=hE8.cell (j:=0) rfl
     have z1:=hE8.cell (j:=1) rfl
     have z2:=hE8.cell (j:=2) rfl
     have z3:=hE8.cell (j:=3) rfl
     have z4:=hE8.cell (j:=4) rfl
     have z5:=hE8.cell (j:=5) rfl
     have z6:=hE8.cell (j:=6) rfl
     have r0:=rR8.cell (j:=0) rfl
     have r1:=rR8.cell (j:=1) rfl
     have r2:=rR8.cell (j:=2) rfl
     have r3:=rR8.cell (j:=3) rfl
     have r4:=rR8.cell (j:=4) rfl
     have r5:=rR8.cell (j:=5) rfl
     have r6:=rR8.cell (j:=6) rfl
     have f0:=rR8.frozen 0
     have f1:=rR8.frozen 1
     have f2:=rR8.frozen 2
     have f3:=rR8.frozen 3
     have f4:=rR8.frozen 4
     have f5:=rR8.frozen 5
     have f6:=rR8.frozen 6
     have HX:=Lib.hid (((hx6.trans hx7).set (p:=⟨V4.heap.size,1,none⟩) (by simp;omega) (.slice U1 (setM e1.seen d1 dn).length un)))
     have HO:=Lib.hid ho
     have HX7:=Lib.hid hx7
     clear hE6 hE7 hE8 rR6 rR7 rR8 rD6 ho hx7 hx6 HS k1 dd0 dd1
     go_wp2_with fail
     (try simp only [Exit.inBlock,Exit.then])
     refine bodyPost_ret (v:=.tuple #[entV { e1 with seen:=setM e1.seen d1 dn } (.slice U1 (setM e1.seen d1 dn).length un) (.slice T2 e1.counts.length t2n) (.slice T3 e1.items.length t3n),I 0]) (by simp [results,Tryz.f42,go_sem,entV,entC,r0,r1,r2,r3,r4,r5,r6,rr0,rr1,rr2,rr3,rr4,rr5,rr6]) rfl ?_
     have hp:=za7 (q:=w.heap.size+1+1+1) HX.out (by omega) { e1 with seen:=setM e1.seen d1 dn } (.slice U1 (setM e1.seen d1 dn).length un) (.slice T2 e1.counts.length t2n) (.slice T3 e1.items.length t3n)
     refine ⟨.slice U1 (setM e1.seen d1 dn).length un,.slice T2 e1.counts.length t2n,.slice T3 e1.items.length t3n,by (rw [HRE2.out];try rfl),?_⟩
     rw [HRE2.out]
     refine ⟨?_,hp⟩
     have hkp:∀ b,b ≠ V4.heap.size→b ≠ w.heap.size+1+1+1→(put7 (W7.setCell ⟨V4.heap.size,1,none⟩ (.slice U1 (setM e1.seen d1 dn).length un)) (w.heap.size+1+1+1) { e1 with seen:=setM e1.seen d1 dn } (.slice U1 (setM e1.seen d1 dn).length un) (.slice T2 e1.counts.length t2n) (.slice T3 e1.items.length t3n)).heap[b]? = W7.heap[b]?:=fun b h1 h2 =>
      (zdy _ _ _ _ _ _ b h2).trans (Below.heap_setCell _ _ _ _ h1)
     have hA7:=HA6.out.ext HX7.out
     refine ⟨?_,?_,?_⟩
     ·exact (za5 (HO.out.keep fun b hb _=>hkp b (by have:=(HO.out.base_le hb).1;omega) (by have:=(HO.out.base_le hb).1;omega))).mono (by decide) fun b _ h=>by omega
     ·exact (hA7.counts.keep (by decide) fun b hb _=>hkp b (by rcases hb with hb | hb <;> omega) (by rcases hb with hb | hb <;> omega)).mono (by decide) fun b _ hb=>by rcases hb with hb | hb <;> omega
     ·exact (hA7.items.keep (by decide) fun b hb _=>hkp b (by rcases hb with hb | hb <;> omega) (by rcases hb with hb | hb <;> omega)).mono (by decide) fun b _ hb=>by rcases hb with hb | hb <;> omega
    ·have HRE2:=Lib.hid (show zdg ⟨k,es,ec,ei,(x1,x2,x3)⟩ (dO,k,n,tx) (d1,dn)=(zad,err) by rw [HRE.out];exact if_neg herr)
     have hne2:((err:Int) == 0)=false:=neI (by omega)
     have r0:=rR6.cell (j:=0) rfl
     have r1:=rR6.cell (j:=1) rfl
     have r2:=rR6.cell (j:=2) rfl
     have r3:=rR6.cell (j:=3) rfl
     have r4:=rR6.cell (j:=4) rfl
     have r5:=rR6.cell (j:=5) rfl
     have r6:=rR6.cell (j:=6) rfl
     have f0:=rR6.frozen 0
     have f1:=rR6.frozen 1
     have f2:=rR6.frozen 2
     have f3:=rR6.frozen 3
     have f4:=rR6.frozen 4
     have f5:=rR6.frozen 5
     have f6:=rR6.frozen 6
     have HX:=Lib.hid hx6
     clear hE6 hA6 rD6 HRE hx6 rR6
     go_wp2_with fail
     (try simp only [Exit.inBlock,Exit.then])
     refine bodyPost_ret (v:=.tuple #[entV zad (.slice none 0 0) (.slice none 0 0) (.slice none 0 0),I err]) (by simp [results,Tryz.f42,go_sem,entV,entC,zad,r0,r1,r2,r3,r4,r5,r6]) rfl ?_
     have hp:=za7 (q:=w.heap.size+1+1+1) HX.out (by omega) zad (.slice none 0 0) (.slice none 0 0) (.slice none 0 0)
     refine ⟨.slice none 0 0,.slice none 0 0,.slice none 0 0,by (rw [HRE2.out];try rfl),?_⟩
     rw [HRE2.out]
     exact⟨EntAt.none _ _ _ _ _,hp⟩
theorem SmallE.key {e:Entry} (h:SmallE e) (k:Str):SmallE { e with key:=k }:=⟨h.seen,h.counts,h.items,h.dots,h.places⟩
theorem zs5 {S:Nat→Prop} {e:Entry} {v1 v2 v3:Value} {w:World} (o:OpD) (d:Dot) (h:EntAt w S e v1 v2 v3) (sm:SmallE e) (hn1:-9223372036854775808≤o.2.2.1) (hn2:o.2.2.1≤9223372036854775807) :
  Calls Tryz.prog 42 #[entV e v1 v2 v3,opV o,dotV d] w fun r w'=>∃ u1 u2 u3,r = .returned (.tuple #[entV (updE e o d).1 u1 u2 u3,I (updE e o d).2])∧EntAt w' (fun b=>w.heap.size≤b) (updE e o d).1 u1 u2 u3∧Ext w w':=by
 obtain⟨ek,es,ec,ei,x1,x2,x3⟩:=e
 obtain⟨dO,k,n,tx⟩:=o
 obtain⟨d1,dn⟩:=d
 obtain⟨A1,n1,rfl,-,-⟩:=h.seen.form
 obtain⟨A2,n2,rfl,-,-⟩:=h.counts.form
 obtain⟨A3,n3,rfl,-,-⟩:=h.items.form
 have bad:∀ c:Nat,updE ⟨ek,es,ec,ei,x1,x2,x3⟩ (dO,k,n,tx) (d1,dn)=(zad,c)→Calls Tryz.prog 42 #[.agg #[St ek,.slice A1 es.length n1,.slice A2 ec.length n2,.slice A3 ei.length n3,U x1,St x2,.bool x3],.agg #[K8 dO,St k,I n,St tx],.agg #[St d1,U dn]] w (fun r w'=>r = .returned (.tuple #[entV zad (.slice none 0 0) (.slice none 0 0) (.slice none 0 0),I c])∧Ext w w') →
   Calls Tryz.prog 42 #[.agg #[St ek,.slice A1 es.length n1,.slice A2 ec.length n2,.slice A3 ei.length n3,U x1,St x2,.bool x3],.agg #[K8 dO,St k,I n,St tx],.agg #[St d1,U dn]] w fun r w'=>∃ u1 u2 u3,r = .returned (.tuple #[entV (updE ⟨ek,es,ec,ei,x1,x2,x3⟩ (dO,k,n,tx) (d1,dn)).1 u1 u2 u3,I (updE ⟨ek,es,ec,ei,x1,x2,x3⟩ (dO,k,n,tx) (d1,dn)).2])∧EntAt w' (fun b=>w.heap.size≤b) (updE ⟨ek,es,ec,ei,x1,x2,x3⟩ (dO,k,n,tx) (d1,dn)).1 u1 u2 u3∧Ext w w':=fun c hc H=>by
  rw [hc]
  refine H.mono ?_
  rintro r w' ⟨rfl,hx⟩
  exact⟨_,_,_,rfl,EntAt.none _ _ _ _ _,hx⟩
 cases hk:keyS k with
 | false=>exact bad 10 (by simp [updE,hk]) (zo9 dO k n tx d1 dn h hk)
 | true =>
  have ways:ek=k ∨ ((ek == k)=false∧zau ⟨ek,es,ec,ei,x1,x2,x3⟩ zad=true) ∨ ((ek == k)=false∧zau ⟨ek,es,ec,ei,x1,x2,x3⟩ zad=false):=by
   by_cases he:ek=k
   ·exact .inl he
   ·cases hs:zau ⟨ek,es,ec,ei,x1,x2,x3⟩ zad
    ·exact .inr (.inr ⟨by simpa using he,rfl⟩)
    ·exact .inr (.inl ⟨by simpa using he,rfl⟩)
  have hok:ek=k ∨ ((ek == k)=false∧zau ⟨ek,es,ec,ei,x1,x2,x3⟩ zad=true)→¬ (ek ≠ k∧zau ⟨ek,es,ec,ei,x1,x2,x3⟩ zad=false):=by
   rintro (h | ⟨-,h⟩) ⟨h1,h2⟩
   ·exact h1 h
   ·rw [h] at h2;cases h2
  rcases ways with he | ⟨hne,hs⟩ | ⟨hne,hs⟩
  ·have hno:=hok (.inl he)
   by_cases hd:d1 = []
   ·exact bad 2 (by simp only [updE,hk,if_neg hno,hd];simp) (znk dO k n tx d1 dn h hk he hd)
   ·have hdb:(d1 == [])=false:=by simpa using hd
    by_cases h2:dn < 1
    ·exact bad 2 (by simp only [updE,hk,if_neg hno,h2];simp) (znl dO k n tx d1 dn h hk he hdb (by omega))
    ·by_cases h3:281474976710656 < dn
     ·exact bad 2 (by simp only [updE,hk,if_neg hno,h3];simp) (znm dO k n tx d1 dn h hk he hdb (by omega) (by omega))
     ·cases hh:hasM es (d1,dn)
      ·have hu:updE ⟨ek,es,ec,ei,x1,x2,x3⟩ (dO,k,n,tx) (d1,dn)=zdg ⟨k,es,ec,ei,x1,x2,x3⟩ (dO,k,n,tx) (d1,dn):=by
        unfold updE
        rw [if_neg (by simp [hk]),if_neg hno,if_neg (by simp [hd,h2,h3,hh])]
       rw [hu]
       exact zs4 dO k n tx d1 dn h hk he hdb (by omega) (by omega) hh sm hn1 hn2
      ·exact bad 2 (by simp only [updE,hk,if_neg hno,hh];simp) (zrk dO k n tx d1 dn h hk he hdb (by omega) (by omega) hh)
  ·have hno:=hok (.inr ⟨hne,hs⟩)
   by_cases hd:d1 = []
   ·exact bad 2 (by simp only [updE,hk,if_neg hno,hd];simp) (zlq dO k n tx d1 dn h hk hne hs hd)
   ·have hdb:(d1 == [])=false:=by simpa using hd
    by_cases h2:dn < 1
    ·exact bad 2 (by simp only [updE,hk,if_neg hno,h2];simp) (zlr dO k n tx d1 dn h hk hne hs hdb (by omega))
    ·by_cases h3:281474976710656 < dn
     ·exact bad 2 (by simp only [updE,hk,if_neg hno,h3];simp) (zls dO k n tx d1 dn h hk hne hs hdb (by omega) (by omega))
     ·cases hh:hasM es (d1,dn)
      ·have hu:updE ⟨ek,es,ec,ei,x1,x2,x3⟩ (dO,k,n,tx) (d1,dn)=zdg ⟨k,es,ec,ei,x1,x2,x3⟩ (dO,k,n,tx) (d1,dn):=by
        unfold updE
        rw [if_neg (by simp [hk]),if_neg hno,if_neg (by simp [hd,h2,h3,hh])]
       rw [hu]
       exact zpa dO k n tx d1 dn h hk hne hs hdb (by omega) (by omega) hh sm hn1 hn2
      ·exact bad 2 (by simp only [updE,hk,if_neg hno,hh];simp) (znn dO k n tx d1 dn h hk hne hs hdb (by omega) (by omega) hh)
  ·exact bad 2 (by simp only [updE,hk];rw [if_neg (by simp),if_pos ⟨by simpa using hne,hs⟩]) (zrj dO k n tx d1 dn h hk hne hs)
end
section
open Go.RowKit Go.Shelf
abbrev valC (k:Nat) (n:Int) (l:Value) (t:Str) (is:Bool):Value:=.agg #[K8 k,I n,l,St t,.bool is]
theorem zuj (n N:Int) (A:Option Addr) (a c:Nat) (t:Str) (z:Bool) (w:World) :
  Calls Tryz.prog 38 #[.iface 2 (I n),valC 1 N (.slice A a c) t z] w fun r w'=>r = .returned (.bool (decide (n=N)))∧Ext w w':=by
 have hta:=fun W=>zke (P:=Tryz.prog) (x:=20) (v:=I n) W Tryz.underlying2 (by simp)
 by_cases h:n=N
 ·subst h
  go_enter Tryz.func38,Tryz.ntmps38
  go_wp2
  go_ret
  exact⟨by simp,(Ext.refl _).alloc _⟩
 ·have h':(n == N)=false:=by simpa using h
  go_enter Tryz.func38,Tryz.ntmps38
  go_wp2
  go_ret
  exact⟨by simp [h],(Ext.refl _).alloc _⟩
end
section
def zua (l:List zal):Prop:=l.Pairwise fun a b=>ltS a.1 b.1=true
def zuy (l:List zal):Prop:=zua l∧∀ c ∈ l,¬ (c.2.1=0∧c.2.2=0)
end
section
structure PreE (e:Entry):Prop where
 good:GoodM e.seen
 most:∀ m ∈ e.seen,m.2≤281474976710656
 one:zaj e.key=1→e.items = []∧e.cell=zir∧∀ c ∈ e.counts,c.1 = [] ∨ ofM e.seen c.1 ≠ 0
 two:zaj e.key=2→zur e.items∧(∀ d ∈ zpm e.items,hasM e.seen d=true)∧e.counts = []∧e.cell=zir
 three:zaj e.key=3→e.counts = []∧e.items = []
end
end Go.Proofs.YtdikcgmdmcfpfaaGreat
