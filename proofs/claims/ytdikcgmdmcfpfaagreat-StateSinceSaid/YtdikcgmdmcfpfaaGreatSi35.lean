/- Contracts of the functions that the statement goes through, and plain laws of them. -/
import Derived.Test.YtdikcgmdmcfpfaaGreatSi28
import Derived.Test.YtdikcgmdmcfpfaaGreatSi31
import Derived.Test.YtdikcgmdmcfpfaaGreatSi29
import Derived.Test.YtdikcgmdmcfpfaaGreatSi08
import Derived.Test.YtdikcgmdmcfpfaaGreatSi26
import Derived.Test.YtdikcgmdmcfpfaaGreatSi32
import Derived.Test.YtdikcgmdmcfpfaaGreatSi24
import Derived.Test.YtdikcgmdmcfpfaaGreatSi33
import Derived.Test.YtdikcgmdmcfpfaaGreatSi34
import Derived.Test.YtdikcgmdmcfpfaaGreatSi18
import Derived.Test.YtdikcgmdmcfpfaaGreatSi30
set_option linter.unusedVariables false
set_option linter.unusedSimpArgs false
set_option linter.unusedSectionVars false
set_option maxRecDepth 100000
set_option maxHeartbeats 4000000
namespace Go.Proofs.YtdikcgmdmcfpfaaGreat
section
open Go.RowKit Go.Shelf
def za4:State:=⟨[],[],[]⟩
abbrev put3 (w:World) (q:Nat) (v1 v2 v3:Value):World:=((w.setCell ⟨q,0,none⟩ v1).setCell ⟨q,1,none⟩ v2).setCell ⟨q,2,none⟩ v3
theorem zb7 {w wr:World} {q:Nat} (hx:Ext w wr) (hq:w.heap.size≤q) (v1 v2 v3:Value):Ext w (put3 wr q v1 v2 v3) :=
 ((hx.set (p:=⟨q,0,none⟩) hq _).set (p:=⟨q,1,none⟩) hq _).set (p:=⟨q,2,none⟩) hq _
theorem zdz (w:World) (q:Nat) (v1 v2 v3:Value) (b:Nat) (hb:b ≠ q):(put3 w q v1 v2 v3).heap[b]? = w.heap[b]? :=
 ((Below.heap_setCell _ _ _ b hb).trans (Below.heap_setCell _ _ _ b hb)).trans (Below.heap_setCell _ _ _ b hb)
theorem StAt.none (w:World) (S:Nat→Prop) (A B C:Option Addr):StAt w S za4 (.slice A 0 0) (.slice B 0 0) (.slice C 0 0):=⟨Sl.nil _ _ (by decide),Sl.nil _ _ (by decide),Sl.nil _ _ (by decide)⟩
theorem StAt.keep {W w:World} {S:Nat→Prop} {s:State} {v1 v2 v3:Value} (h:StAt W S s v1 v2 v3) (hs:∀ b,S b→b < W.heap.size→w.heap[b]? = W.heap[b]?):StAt w S s v1 v2 v3 :=
 ⟨h.all.keep (by decide) hs,h.entries.keep (by decide) hs,h.pruned.keep (by decide) hs⟩
def zdh (s:State) (p:Str) (n:Nat):State × Nat :=
 if p = [] ∨ mayS s=false then (za4,2) else if 281474976710656 - ofM s.all p < n then (za4,9) else ({ s with all:=setM s.all p (ofM s.all p+n) },0)
theorem zs6 {s:State} (h:mayS s=true):mayM s.all=true:=by
 unfold mayS at h
 simp only [Bool.and_eq_true] at h
 exact h.1
theorem zts {l:List Mark} (h:mayM l=true) (p:Str):ofM l p≤281474976710656:=ofM_le.2 fun m hm _ _=>(mayM_iff.1 h).2.2 m hm
theorem zmo {S:Nat→Prop} {s:State} {v1 v2 v3:Value} {w:World} (p:Str) (n:Nat) (hn:n < 18446744073709551616) (h:StAt w S s v1 v2 v3) (sm:SmallS s) :
  Calls Tryz.prog 26 #[stV v1 v2 v3,St p,U n] w fun r w'=>∃ u1 u2 u3,r = .returned (.tuple #[stV u1 u2 u3,I (zdh s p n).2])∧StAt w' (fun b=>w.heap.size≤b) (zdh s p n).1 u1 u2 u3∧Ext w w':=by
 have HRS:=Lib.hid (show zdh s p n=if p = [] ∨ mayS s=false then (za4,2) else if 281474976710656 - ofM s.all p < n then (za4,9) else ({ s with all:=setM s.all p (ofM s.all p+n) },0) from rfl)
 have HMX:=Lib.hid (fun (hm:mayS s=true)=>zts (zs6 hm) p)
 have SM:=Lib.hid sm
 obtain⟨sa,se,sp⟩:=s
 obtain⟨A1,n1,rfl,-,-⟩:=h.all.form
 obtain⟨A2,n2,rfl,-,-⟩:=h.entries.form
 obtain⟨A3,n3,rfl,-,-⟩:=h.pruned.form
 have hx0:=((Ext.refl w).alloc (.cells #[.slice A1 sa.length n1,.slice A2 se.length n2,.slice A3 sp.length n3] 30)).alloc (.cells #[.slice none 0 0,.slice none 0 0,.slice none 0 0] 30)
 have rB0:=(zac w 30 [.slice A1 sa.length n1,.slice A2 se.length n2,.slice A3 sp.length n3]).alloc (.cells #[.slice none 0 0,.slice none 0 0,.slice none 0 0] 30)
 have rR0:=zac (w.alloc (.cells #[.slice A1 sa.length n1,.slice A2 se.length n2,.slice A3 sp.length n3] 30)) 30 [.slice none 0 0,.slice none 0 0,.slice none 0 0]
 rw [World.size_alloc] at rR0
 have hz0:w.heap.size+2≤((w.alloc (.cells #[.slice A1 sa.length n1,.slice A2 se.length n2,.slice A3 sp.length n3] 30)).alloc (.cells #[.slice none 0 0,.slice none 0 0,.slice none 0 0] 30)).heap.size:=by simp
 have H0:=Lib.hid (h.ext hx0)
 have H1:=Lib.hid (zgj (h.ext hx0) sm)
 clear h sm
 by_cases hp:p = []
 ·subst hp
  have HR:=Lib.hid (show zdh ⟨sa,se,sp⟩ [] n=(za4,2) by rw [HRS.out,if_pos (.inl rfl)])
  have HX:=Lib.hid hx0
  clear hx0 rB0 rR0 H0 H1 HRS HMX
  go_enter Tryz.func26,Tryz.ntmps26
  go_wp2_with fail
  (try simp only [Exit.inBlock,Exit.then])
  refine bodyPost_ret (v:=.tuple #[stV (.slice none 0 0) (.slice none 0 0) (.slice none 0 0),I 2]) (by simp [results,Tryz.f26,go_sem]) rfl ?_
  refine ⟨.slice none 0 0,.slice none 0 0,.slice none 0 0,by (rw [HR.out];try rfl),?_⟩
  rw [HR.out]
  exact⟨StAt.none _ _ _ _ _,HX.out⟩
 ·have hpb:(p == [])=false:=by simpa using hp
  go_enter Tryz.func26,Tryz.ntmps26
  go_wp2_with fail
  generalize (w.alloc (.cells #[.slice A1 sa.length n1,.slice A2 se.length n2,.slice A3 sp.length n3] 30)).alloc (.cells #[.slice none 0 0,.slice none 0 0,.slice none 0 0] 30)=W0 at *
  refine H1.out.mono ?_
  rintro r W1 ⟨rfl,hx1⟩
  have hx01:=hx0.trans hx1
  have rB1:=rB0.ext hx1
  have rR1:=rR0.ext hx1
  have hz1:=Nat.le_trans hz0 hx1.size
  clear hx0 rB0 rR0 hz0 H1
  cases hm:mayS ⟨sa,se,sp⟩ with
  | false =>
   have HR:=Lib.hid (show zdh ⟨sa,se,sp⟩ p n=(za4,2) by rw [HRS.out,if_pos (.inr hm)])
   have r0:=rR1.cell (j:=0) rfl
   have r1:=rR1.cell (j:=1) rfl
   have r2:=rR1.cell (j:=2) rfl
   have f0:=rR1.frozen 0
   have f1:=rR1.frozen 1
   have f2:=rR1.frozen 2
   have HX:=Lib.hid hx01
   clear hx01 hx1 rB1 rR1 H0 HRS HMX hm hp
   go_wp2_with fail
   (try simp only [Exit.inBlock,Exit.then])
   refine bodyPost_ret (v:=.tuple #[stV (.slice none 0 0) (.slice none 0 0) (.slice none 0 0),I 2]) (by simp [results,Tryz.f26,go_sem,r0,r1,r2]) rfl ?_
   have hq:=zb7 (q:=w.heap.size+1) HX.out (by omega) (.slice none 0 0) (.slice none 0 0) (.slice none 0 0)
   refine ⟨.slice none 0 0,.slice none 0 0,.slice none 0 0,by (rw [HR.out];try rfl),?_⟩
   rw [HR.out]
   exact⟨StAt.none _ _ _ _ _,hq⟩
  | true =>
   have hmax:ofM sa p≤281474976710656:=HMX.out hm
   have HRS2:=Lib.hid (show zdh ⟨sa,se,sp⟩ p n=if 281474976710656 - ofM sa p < n then (za4,9) else (⟨setM sa p (ofM sa p+n),se,sp⟩,0) by rw [HRS.out,if_neg (by simp [hp,hm])])
   have HO:=Lib.hid (zhy p (H0.out.all.ext (by decide) hx1))
   have b0:=rB1.cell (j:=0) rfl
   have HX1:=Lib.hid hx1
   clear hm hp HRS HMX hx1
   go_wp2_with fail
   refine HO.out.mono ?_
   rintro r W2 ⟨rfl,hx2⟩
   have hx02:=hx01.trans hx2
   have rB2:=rB1.ext hx2
   have rR2:=rR1.ext hx2
   have hz2:=Nat.le_trans hz1 hx2.size
   have H2:=Lib.hid ((H0.out.ext HX1.out).ext hx2)
   clear hx01 rB1 rR1 HO hx2 hz1 b0 HX1 H0
   obtain⟨z,hz⟩:∃ z,ofM sa p=z:=⟨_,rfl⟩
   rw [hz] at hmax HRS2
   rw [hz]
   clear hz
   have hwr:IntKind.u64.wrap (281474976710656 - (z:Int))=281474976710656 - (z:Int):=by rw [zbu];omega
   by_cases hlt:281474976710656 - z < n
   ·have HR:=Lib.hid (show zdh ⟨sa,se,sp⟩ p n=(za4,9) by rw [HRS2.out,if_pos hlt])
    have hgt:(n:Int) > 281474976710656 - (z:Int):=by omega
    have r0:=rR2.cell (j:=0) rfl
    have r1:=rR2.cell (j:=1) rfl
    have r2:=rR2.cell (j:=2) rfl
    have f0:=rR2.frozen 0
    have f1:=rR2.frozen 1
    have f2:=rR2.frozen 2
    have HX:=Lib.hid hx02
    clear hx02 rB2 rR2 H2 HRS2 hlt
    go_wp2_with fail
    (try simp only [Exit.inBlock,Exit.then])
    refine bodyPost_ret (v:=.tuple #[stV (.slice none 0 0) (.slice none 0 0) (.slice none 0 0),I 9]) (by simp [results,Tryz.f26,go_sem,r0,r1,r2]) rfl ?_
    have hq:=zb7 (q:=w.heap.size+1) HX.out (by omega) (.slice none 0 0) (.slice none 0 0) (.slice none 0 0)
    refine ⟨.slice none 0 0,.slice none 0 0,.slice none 0 0,by (rw [HR.out];try rfl),?_⟩
    rw [HR.out]
    exact⟨StAt.none _ _ _ _ _,hq⟩
   ·have HR:=Lib.hid (show zdh ⟨sa,se,sp⟩ p n=(⟨setM sa p (z+n),se,sp⟩,0) by rw [HRS2.out,if_neg hlt])
    have hgt:¬ (n:Int) > 281474976710656 - (z:Int):=by omega
    have hwa:IntKind.u64.wrap ((z:Int)+(n:Int))=((z+n:Nat):Int):=by rw [zbu];omega
    have b0:=rB2.cell (j:=0) rfl
    have b1:=rB2.cell (j:=1) rfl
    have b2:=rB2.cell (j:=2) rfl
    have HC:=Lib.hid (zgt H2.out SM.out)
    clear HRS2 hlt rB2
    go_wp2_with fail
    refine HC.out.mono ?_
    rintro r W3 ⟨u1,u2,u3,rfl,hn3,hx3⟩
    obtain⟨B1,m1,rfl,-,-⟩:=hn3.all.form
    obtain⟨B2,m2,rfl,-,-⟩:=hn3.entries.form
    obtain⟨B3,m3,rfl,-,-⟩:=hn3.pruned.form
    have hz3:=hx3.size
    have hxa:=(Ext.refl W3).alloc (.cells #[.slice B1 sa.length m1,.slice B2 se.length m2,.slice B3 sp.length m3] 30)
    have rN:=zac W3 30 [.slice B1 sa.length m1,.slice B2 se.length m2,.slice B3 sp.length m3]
    have HS3:=Lib.hid ((hn3.at.mono (S':=fun b=>W2.heap.size≤b∧b < W3.heap.size) (fun b hb h=>⟨h,hb⟩)).ext hxa)
    have rR3:=(rR2.ext hx3).ext hxa
    have hx03:=(hx02.trans hx3).trans hxa
    have HS:=Lib.hid (zg1 p (z+n) (HS3.out.all) (Nat.le_trans SM.out.all (by decide)))
    have hzN:=rN.lt
    clear hn3 hx3 hxa rR2 hx02 HC b0 b1 b2
    go_wp2_with fail
    generalize W3.alloc (.cells #[.slice B1 sa.length m1,.slice B2 se.length m2,.slice B3 sp.length m3] 30)=W4 at *
    refine HS.out.mono ?_
    rintro r W5 ⟨u,rfl,ho,hx5⟩
    obtain⟨U1,un,rfl,-,-⟩:=ho.form
    have rN5:=rN.ext hx5
    have rR5:=rR3.ext hx5
    have hz5:=hx5.size
    have y0:=rN5.cell (j:=0) rfl
    have y1:=rN5.cell (j:=1) rfl
    have y2:=rN5.cell (j:=2) rfl
    have yf:=rN5.frozen 0
    have hN6:=rN5.set (j:=0) (by simp) (.slice U1 (setM sa p (z+n)).length un)
    simp only [List.set_cons_zero] at hN6
    have z0:=hN6.cell (j:=0) rfl
    have z1:=hN6.cell (j:=1) rfl
    have z2:=hN6.cell (j:=2) rfl
    have rr0:=rR5.cell (j:=0) rfl
    have rr1:=rR5.cell (j:=1) rfl
    have rr2:=rR5.cell (j:=2) rfl
    have ff0:=rR5.frozen 0
    have ff1:=rR5.frozen 1
    have ff2:=rR5.frozen 2
    have rR6:=rR5.other (p:=⟨W3.heap.size,0,none⟩) (by simp;omega) (.slice U1 (setM sa p (z+n)).length un)
    have r0:=rR6.cell (j:=0) rfl
    have r1:=rR6.cell (j:=1) rfl
    have r2:=rR6.cell (j:=2) rfl
    have f0:=rR6.frozen 0
    have f1:=rR6.frozen 1
    have f2:=rR6.frozen 2
    have HX:=Lib.hid ((hx03.trans hx5).set (p:=⟨W3.heap.size,0,none⟩) (by simp;omega) (.slice U1 (setM sa p (z+n)).length un))
    have HO:=Lib.hid ho
    have HA:=Lib.hid (HS3.out.ext hx5)
    clear ho rN rN5 rR3 rR5 hN6 rR6 hx03 hx5 HS HS3 H2
    go_wp2_with fail
    (try simp only [Exit.inBlock,Exit.then])
    refine bodyPost_ret (v:=.tuple #[stV (.slice U1 (setM sa p (z+n)).length un) (.slice B2 se.length m2) (.slice B3 sp.length m3),I 0]) (by simp [results,Tryz.f26,go_sem,r0,r1,r2,rr0,rr1,rr2]) rfl ?_
    have hq:=zb7 (q:=w.heap.size+1) HX.out (by omega) (.slice U1 (setM sa p (z+n)).length un) (.slice B2 se.length m2) (.slice B3 sp.length m3)
    refine ⟨.slice U1 (setM sa p (z+n)).length un,.slice B2 se.length m2,.slice B3 sp.length m3,by (rw [HR.out];try rfl),?_⟩
    rw [HR.out]
    refine ⟨?_,hq⟩
    have hkp:∀ b,b ≠ W3.heap.size→b ≠ w.heap.size+1→(put3 (W5.setCell ⟨W3.heap.size,0,none⟩ (.slice U1 (setM sa p (z+n)).length un)) (w.heap.size+1) (.slice U1 (setM sa p (z+n)).length un) (.slice B2 se.length m2) (.slice B3 sp.length m3)).heap[b]? = W5.heap[b]?:=fun b h1 h2 =>
     (zdz _ _ _ _ _ b h2).trans (Below.heap_setCell _ _ _ _ h1)
    refine ⟨?_,?_,?_⟩
    ·exact (za5 (HO.out.keep fun b hb _=>hkp b (by have:=(HO.out.base_le hb).1;omega) (by have:=(HO.out.base_le hb).1;omega))).mono (by decide) fun b _ h=>by omega
    ·exact (HA.out.entries.keep (by decide) fun b hb _=>hkp b (by omega) (by omega)).mono (by decide) fun b _ hb=>by omega
    ·exact (HA.out.pruned.keep (by decide) fun b hb _=>hkp b (by omega) (by omega)).mono (by decide) fun b _ hb=>by omega
end
section
open Go.RowKit Go.Shelf
theorem ztu {α:Type} {T:Shape α} {hk:0 < T.k} {w:World} {S:Nat→Prop} {g:Nat} {v1 v2:Value} {l1 l2:List α} (h1:Sl T w S v1 l1) (h2:Sl T w S v2 l2) (hg:S g)
  (c0:w.cell? ⟨g,0,none⟩=some v1) (c1:w.cell? ⟨g,1,none⟩=some v2):Sl (slT T hk) w S (.slice (some ⟨g,0,none⟩) 2 2) [l1,l2]:=by
 refine ⟨some ⟨g,0,none⟩,2,rfl,by simp,by omega,fun pre x post hl=>?_⟩
 match pre,hl with
 | [],hl =>
  simp only [List.nil_append,List.cons.injEq] at hl
  obtain⟨rfl,-⟩:=hl
  exact⟨g,0,[v1],rfl,hg,⟨v1,rfl,h1⟩,fun j u hj=>by
   match j,hj with
   | 0,hj=>simp at hj;subst hj;simpa using c0
   | j+1,hj=>simp at hj⟩
 | [p],hl =>
  simp only [List.cons_append,List.nil_append,List.cons.injEq] at hl
  obtain⟨-,rfl,-⟩:=hl
  exact⟨g,0,[v2],rfl,hg,⟨v2,rfl,h2⟩,fun j u hj=>by
   match j,hj with
   | 0,hj=>simp at hj;subst hj;simpa [slT] using c1
   | j+1,hj=>simp at hj⟩
 | p :: q :: r,hl=>simp at hl
def CS (w:World) (S:Nat→Prop) (b:Nat):Prop:=S b∧∃ o:Obj,w.heap[b]? = some o∧o.isCells=true
theorem znq {w:World} {p:Addr} {v:Value} (h:w.cell? p=some v):∃ o:Obj,w.heap[p.block]? = some o∧o.isCells=true:=by
 unfold World.cell? at h
 cases ho:w.heap[p.block]? with
 | none=>rw [ho] at h;cases h
 | some o=>rw [ho] at h;cases o <;> first | exact⟨_,rfl,rfl⟩ | cases h
theorem Sl.isC {α:Type} {T:Shape α} {w:World} {S:Nat→Prop} {v:Value} {l:List α} (hk:0 < T.k) (hrd:∀ x vs,T.rd w S x vs→T.rd w (CS w S) x vs) (h:Sl T w S v l):Sl T w (CS w S) v l:=by
 obtain⟨A,c,hv,h1,h2,h3⟩:=h
 refine ⟨A,c,hv,h1,h2,fun pre x post hl=>?_⟩
 obtain⟨b,o,vs,e,hS,hr,hc⟩:=h3 pre x post hl
 refine ⟨b,o,vs,e,⟨hS,?_⟩,hrd x vs hr,hc⟩
 have hlen:=T.len hr
 have h0:vs[0]? = some vs[0]:=by simp
 exact znq (hc 0 _ h0)
theorem zrp {w:World} {S:Nat→Prop} {x:Item} {vs:List Value} (h:itemT.rd w S x vs):itemT.rd w (CS w S) x vs:=by
 obtain⟨v,e,h⟩:=h
 exact⟨v,e,h.isC (by decide) fun _ _ h=>h⟩
theorem zpd {w:World} {S:Nat→Prop} {x:Entry} {vs:List Value} (h:entryT.rd w S x vs):entryT.rd w (CS w S) x vs:=by
 obtain⟨v1,v2,v3,e,h1,h2,h3⟩:=h
 exact⟨v1,v2,v3,e,h1.isC (by decide) fun _ _ h=>h,h2.isC (by decide) fun _ _ h=>h,h3.isC (by decide) fun _ _ h=>zrp h⟩
theorem RowE.kept {w w':World} {base g:Nat} {v:Value} {l:List Entry} {row:Option Nat} (h:RowE w base g v l) (hg:w.grownBy w' row) (hr:∀ r,row=some r→∃ o:Obj,w.heap[r]? = some o∧o.isCells=false):RowE w' base g v l:=by
 obtain⟨vss,h1,h2,h3⟩:=h
 refine ⟨vss,h1,fun i x vs hi hv=>?_,h3.kept hg hr⟩
 have a:=zpd (h2 i x vs hi hv)
 refine entryT.mono (entryT.keep a fun b hb hlt=>hg.block b hlt fun e=>?_) fun b _ h=>h.1
 obtain⟨o,ho,hc⟩:=hr b e.symm
 obtain⟨-,o',ho',hc'⟩:=hb
 rw [ho] at ho'
 cases ho'
 rw [hc] at hc'
 cases hc'
theorem RowIs.kept {w w':World} {g T:Nat} {xs tl:List Value} {row:Option Nat} (h:RowIs w g T xs tl) (hg:w.grownBy w' row) (hr:∀ r,row=some r→∃ o:Obj,w.heap[r]? = some o∧o.isCells=false):RowIs w' g T xs tl :=
 h.keep (hg.block g h.lt fun e=>by
  obtain⟨o,ho,hc⟩:=hr g e.symm
  unfold RowIs at h
  rw [h] at ho
  cases ho
  cases hc)
theorem Ext.keepsO {W W':World} (h:Ext W W'):KeepsOthers W W':=⟨h.size,fun b o hb _=>(h.block b (Array.getElem?_eq_some_iff.1 hb).1).trans hb⟩
structure OldK (n g:Nat) (W W':World):Prop where
 os:W'.os=W.os
 tape:W'.tape=W.tape
 output:W'.output=W.output
 size:n≤W'.heap.size
 same:∀ b,b < n→b ≠ g→W'.heap[b]? = W.heap[b]?
theorem OldK.refl {n g:Nat} {W:World} (h:n≤W.heap.size):OldK n g W W:=⟨rfl,rfl,rfl,h,fun _ _ _=>rfl⟩
theorem OldK.ext {n g:Nat} {W W' W'':World} (h:OldK n g W W') (he:Ext W' W''):OldK n g W W'' :=
 ⟨he.os.trans h.os,he.tape.trans h.tape,he.output.trans h.output,Nat.le_trans h.size he.size,fun b hb hg=>(he.block b (by have:=h.size;omega)).trans (h.same b hb hg)⟩
theorem OldK.set {n g j:Nat} {W W':World} (h:OldK n g W W') (v:Value):OldK n g W (W'.setCell ⟨g,j,none⟩ v) :=
 ⟨h.os,h.tape,h.output,by simpa using h.size,fun b hb hg=>(Below.heap_setCell _ _ _ _ hg).trans (h.same b hb hg)⟩
theorem OldK.new {n g p j:Nat} {W W':World} (h:OldK n g W W') (hp:n≤p) (v:Value):OldK n g W (W'.setCell ⟨p,j,none⟩ v) :=
 ⟨h.os,h.tape,h.output,by simpa using h.size,fun b hb hg=>(Below.heap_setCell W' ⟨p,j,none⟩ v b (show b ≠ p by omega)).trans (h.same b hb hg)⟩
theorem OldK.grew {n g:Nat} {W W' W'':World} {v v':Value} (h:OldK n g W W') (k:Grew W' W'' v v') (hv:∀ b,zae v b→n≤b):OldK n g W W'' :=
 ⟨k.os.trans h.os,k.tape.trans h.tape,k.output.trans h.output,Nat.le_trans h.size k.size,fun b hb hg=>(k.same b (by have:=h.size;omega) (fun ho=>by have:=hv b ho;omega)).trans (h.same b hb hg)⟩
theorem OldK.low {n g:Nat} {W W' W'':World} (h:OldK n g W W') (k:Below n W' W''):OldK n g W W'' :=
 ⟨k.os.trans h.os,k.tape.trans h.tape,k.output.trans h.output,Nat.le_trans h.size k.size,fun b hb hg=>(k.block b hb).trans (h.same b hb hg)⟩
theorem OldK.below {n g:Nat} {w W W':World} (h:OldK n g W W') (he:Ext w W) (hn:w.heap.size≤n) (hg:w.heap.size≤g):Ext w W' :=
 ⟨h.os.trans he.os,h.tape.trans he.tape,h.output.trans he.output,Nat.le_trans hn h.size,fun b hb=>(h.same b (by omega) (by omega)).trans (he.block b hb)⟩
theorem OldK.kps {n g:Nat} {W0 W W':World} (h:OldK n g W0 W) (h':OldK n g W0 W') (hz:W.heap.size≤W'.heap.size):KpS (fun b=>b < n∧b ≠ g) n W W' :=
 ⟨hz,fun b hb hn=>(h'.same b hn hb.2).trans (h.same b hn hb.2).symm⟩
theorem OldK.from (n g:Nat) (W0:World) {β:Type} (B:Nat) (hB:n≤B):OwnFrom B (fun (_:β) W=>OldK n g W0 W):=fun s W W' row h hg hr =>
 ⟨hg.os.trans h.os,hg.tape.trans h.tape,hg.output.trans h.output,Nat.le_trans h.size hg.size,fun b hb hne=>(hg.block b (by have:=h.size;omega) (fun e=>by have:=(hr b e.symm).1;omega)).trans (h.same b hb hne)⟩
theorem MapIs.not_row {κ ν:Type} [DecidableEq κ] {K:κ→Value} {V:ν→Value} {w:World} {b T:Nat} {L:List (κ × ν)} {xs tl:List Value} (h:MapIs K V w b L) (hr:RowIs w b T xs tl):False:=by
 obtain⟨_,_,h,_⟩:=h
 unfold RowIs at hr
 rw [hr] at h
 cases h
theorem zih {w:World} {q T:Nat} {e0 e:Entry} {a1 a2 a3 v1 v2 v3:Value} (h:RowIs w q T (entL e0 a1 a2 a3) []):RowIs (put7 w q e v1 v2 v3) q T (entL e v1 v2 v3) []:=by
 have:=RowIs.set7 (X1:=[]) (X2:=[]) (o:=0) (by simpa using h) rfl (St e.key) v1 v2 v3 (U e.cell.1) (St e.cell.2.1) (.bool e.cell.2.2)
 simpa using this
def getE (l:List Entry) (k:Str):Entry:=(zax l k).getD zad
def zii (a b:List Entry):List Entry:=(zbi a b).map fun k=>zba (getE a k) (getE b k)
def ze4 (a b:State):State:=⟨zaq a.all b.all,zii a.entries b.entries,Lib.compact (zbd (a.pruned++b.pruned))⟩
theorem zrq (a b:List Str):(zbr a b).length≤a.length+b.length:=by
 fun_induction zbr a b <;> simp_all <;> omega
theorem ztb (va vb:Value) (w:World) (ha:va.oneCell'=true) (hb:vb.oneCell'=true) :
  Calls Tryz.prog 53 #[va,vb] w fun e w'=>e = .returned (.func (.func 105) #[] #[.pointer (some ⟨w.heap.size,0,none⟩),.pointer (some ⟨w.heap.size+1,0,none⟩)])∧w'=(w.alloc (.cells #[va] 27)).alloc (.cells #[vb] 27):=by
 go_enter Tryz.func53,Tryz.ntmps53
 go_wp2
 go_ret
 exact⟨rfl,rfl⟩
theorem zpe (n:Nat) (hn:1≤n) {S:Nat→Prop} {n₀ B1 B2:Nat} {va vb:Value} {A B:List Entry} {w:World} (hn₀:n₀≤w.heap.size) (h1:w.cell? ⟨B1,0,none⟩=some va) (h2:w.cell? ⟨B2,0,none⟩=some vb)
  (hS1:S B1) (hS2:S B2) (hSn:∀ b,S b→b < n₀) (ha:Sl entryT w S va A) (hb:Sl entryT w S vb B) :
  SeqStopsK Fence.wide n Tryz.prog 105 #[.pointer (some ⟨B1,0,none⟩),.pointer (some ⟨B2,0,none⟩)] (fun x=>#[St x]) (KpS S n₀) (fun ys=>ys=zbi A B) (fun pre=>pre <+: zbi A B) (zbi A B).length w :=
 fun l J Jx W hW hJ _ hY h0 =>
  zta n l B1 B2 n₀ J Jx hn W hJ (Nat.le_trans hn₀ hW.size) hY (hW.cell (p:=⟨B1,0,none⟩) (zab h1) |>.trans h1) (hW.cell (p:=⟨B2,0,none⟩) (zab h2) |>.trans h2)
   ⟨hS1,hSn _ hS1⟩ ⟨hS2,hSn _ hS2⟩ (ha.ext (by decide) hW) (hb.ext (by decide) hW) (fun b h _=>hSn b h) h0
end
section
open Go.RowKit Go.Shelf
abbrev dltV (v0 v1 v2 v3:Value):Value:=.agg #[v0,v1,v2,v3]
def zb9 (base:List Mark) (e:Entry):Bool:=!zar base e.seen
def zij (s:State) (base:List Mark):State:=⟨s.all,s.entries.filter (zb9 base),s.pruned⟩
abbrev put4 (w:World) (q:Nat) (v0 v1 v2 v3:Value):World:=(((w.setCell ⟨q,0,none⟩ v0).setCell ⟨q,1,none⟩ v1).setCell ⟨q,2,none⟩ v2).setCell ⟨q,3,none⟩ v3
theorem ztc {w wr:World} {q:Nat} (hx:Ext w wr) (hq:w.heap.size≤q) (v0 v1 v2 v3:Value):Ext w (put4 wr q v0 v1 v2 v3) :=
 (((hx.set (p:=⟨q,0,none⟩) hq _).set (p:=⟨q,1,none⟩) hq _).set (p:=⟨q,2,none⟩) hq _).set (p:=⟨q,3,none⟩) hq _
theorem zrr (w:World) (q:Nat) (v0 v1 v2 v3:Value) (b:Nat) (hb:b ≠ q):(put4 w q v0 v1 v2 v3).heap[b]? = w.heap[b]? :=
 (((Below.heap_setCell _ _ _ b hb).trans (Below.heap_setCell _ _ _ b hb)).trans (Below.heap_setCell _ _ _ b hb)).trans (Below.heap_setCell _ _ _ b hb)
theorem zhq {S S0:Nat→Prop} {s:State} {v1 v2 v3 vb:Value} {base:List Mark} {w:World} (h:StAt w S s v1 v2 v3) (hb:Sl markT w S0 vb base) (sm:SmallS s) (hbl:base.length≤549755813888) :
  Calls Tryz.prog 18 #[stV v1 v2 v3,vb] w fun r w'=>∃ u0 u1 u2 u3,r = .returned (dltV u0 u1 u2 u3)∧Own w' w.heap.size 25 2 u0 (zaq base []).length ((zaq base []).flatMap zag)∧StNew w' w.heap.size (zij s base) u1 u2 u3∧Ext w w':=by
 obtain⟨sa,se,sp⟩:=s
 obtain⟨A1,n1,rfl,-,-⟩:=h.all.form
 obtain⟨A2,n2,rfl,-,-⟩:=h.entries.form
 obtain⟨A3,n3,rfl,-,-⟩:=h.pruned.form
 obtain⟨A0,n0,rfl,-,-⟩:=hb.form
 have h':=h.entries
 have HAT:=Lib.hid (fun (pre post:List Entry) (m:Entry) (wr:World) (hx:Ext w wr) (hl:se=pre++m :: post)=>zb0 h' hx hl)
 have H:=Lib.hid h
 have HB0:=Lib.hid hb
 have SM:=Lib.hid sm
 have HSI:=Lib.hid (show zij ⟨sa,se,sp⟩ base=⟨sa,se.filter (zb9 base),sp⟩ from rfl)
 have hx0:Ext w ((w.alloc (.cells #[.slice A1 sa.length n1,.slice A2 se.length n2,.slice A3 sp.length n3] 30)).alloc (.cells #[.slice none 0 0,.slice none 0 0,.slice none 0 0,.slice none 0 0] 64)):=((Ext.refl w).alloc _).alloc _
 have rB0:RowIs ((w.alloc (.cells #[.slice A1 sa.length n1,.slice A2 se.length n2,.slice A3 sp.length n3] 30)).alloc (.cells #[.slice none 0 0,.slice none 0 0,.slice none 0 0,.slice none 0 0] 64)) w.heap.size 30 [.slice A1 sa.length n1,.slice A2 se.length n2,.slice A3 sp.length n3] []:=(zac w 30 [.slice A1 sa.length n1,.slice A2 se.length n2,.slice A3 sp.length n3]).alloc _
 have rR0:RowIs ((w.alloc (.cells #[.slice A1 sa.length n1,.slice A2 se.length n2,.slice A3 sp.length n3] 30)).alloc (.cells #[.slice none 0 0,.slice none 0 0,.slice none 0 0,.slice none 0 0] 64)) (w.heap.size+1) 64 [.slice none 0 0,.slice none 0 0,.slice none 0 0,.slice none 0 0] []:=by have h:=zac (w.alloc (.cells #[.slice A1 sa.length n1,.slice A2 se.length n2,.slice A3 sp.length n3] 30)) 64 [.slice none 0 0,.slice none 0 0,.slice none 0 0,.slice none 0 0];simp only [World.size_alloc] at h;exact h
 have hz0:w.heap.size+2≤((w.alloc (.cells #[.slice A1 sa.length n1,.slice A2 se.length n2,.slice A3 sp.length n3] 30)).alloc (.cells #[.slice none 0 0,.slice none 0 0,.slice none 0 0,.slice none 0 0] 64)).heap.size:=by simp
 have HJ:=Lib.hid (zf7 (hb.ext (by decide) hx0) (Sl.nil (S:=fun _=>True) (T:=markT) none 0 (by decide)) (Nat.le_trans hbl (by decide)) (by decide))
 clear h h' sm hb
 go_enter Tryz.func18,Tryz.ntmps18
 go_wp2_with fail
 generalize ((w.alloc (.cells #[.slice A1 sa.length n1,.slice A2 se.length n2,.slice A3 sp.length n3] 30)).alloc (.cells #[.slice none 0 0,.slice none 0 0,.slice none 0 0,.slice none 0 0] 64))=W0 at *
 refine HJ.out.mono ?_
 rintro r W1 ⟨v0,rfl,ho0,hx1⟩
 generalize hJB:zaq base []=JB at *
 have HJB:=Lib.hid hJB
 clear hJB HJ
 obtain⟨B0,m0,rfl,-,-⟩:=ho0.form
 have hz1:=Nat.le_trans hz0 hx1.size
 have hx2:=(Ext.refl W1).alloc (.cells #[.slice B0 JB.length m0,.slice none 0 0,.slice none 0 0,.slice none 0 0] 64)
 have rG0:=zac W1 64 [.slice B0 JB.length m0,.slice none 0 0,.slice none 0 0,.slice none 0 0]
 have rB1:=(rB0.ext hx1).ext hx2
 have rR1:=(rR0.ext hx1).ext hx2
 have ho01:=(ho0.ext hx2).lower hz0
 have hxw1:=(hx0.trans hx1).trans hx2
 have b0:=rB1.cell (j:=0) rfl
 have HC:=Lib.hid (zfn ((H.out.all.ext (by decide) hxw1)) (Nat.le_trans SM.out.all (by decide)))
 have hzz:(W1.alloc (.cells #[.slice B0 JB.length m0,.slice none 0 0,.slice none 0 0,.slice none 0 0] 64)).heap.size=W1.heap.size+1:=by simp
 clear ho0 hx0 hx1 hx2 rB0 rR0 hz0
 go_wp2_with fail
 generalize W1.alloc (.cells #[.slice B0 JB.length m0,.slice none 0 0,.slice none 0 0,.slice none 0 0] 64)=W2 at *
 refine HC.out.mono ?_
 rintro r W3 ⟨vc1,rfl,hc1,hx3⟩
 have ho1:=(own_markT.1 hc1).lower (base':=w.heap.size+2) (by omega)
 obtain⟨B1,m1,rfl,-,-⟩:=ho1.form
 have hg:W1.heap.size < W3.heap.size:=by have:=hx3.size;omega
 have rG3:=rG0.ext hx3
 have g1f:=rG3.frozen 1
 have g1c:=rG3.cell (j:=1) rfl
 have rG4:=rG3.set (j:=1) (by simp) (.slice B1 sa.length m1)
 simp only [List.set_cons_succ,List.set_cons_zero] at rG4
 have hk4:∀ b,b ≠ W1.heap.size→(W3.setCell ⟨W1.heap.size,1,none⟩ (.slice B1 sa.length m1)).heap[b]? = W3.heap[b]?:=fun b hb=>Below.heap_setCell _ _ _ _ hb
 have rB4:=(rB1.ext hx3).keep (hk4 _ (by omega))
 have rR4:=(rR1.ext hx3).keep (hk4 _ (by omega))
 have ho04:=(ho01.ext hx3).keep (w':=W3.setCell ⟨W1.heap.size,1,none⟩ (.slice B1 sa.length m1)) fun b hb _=>hk4 b (fun e=>by subst e;exact (ho01.ext hx3).apart rG3 (by decide) hb)
 have ho14:=ho1.keep (w':=W3.setCell ⟨W1.heap.size,1,none⟩ (.slice B1 sa.length m1)) fun b hb _=>hk4 b (fun e=>by subst e;exact ho1.apart rG3 (by decide) hb)
 have hxw4:=(hxw1.trans hx3).set (p:=⟨W1.heap.size,1,none⟩) (by simp;omega) (.slice B1 sa.length m1)
 have hz4:W1.heap.size < (W3.setCell ⟨W1.heap.size,1,none⟩ (.slice B1 sa.length m1)).heap.size:=by rw [World.size_setCell];exact hg
 have b2:=rB4.cell (j:=2) rfl
 have HC2:=Lib.hid (zku ((H.out.pruned.ext (by decide) hxw4)) (Nat.le_trans SM.out.pruned (by decide)))
 clear hc1 ho1 rG3 rB1 rR1 rG0 ho01 hxw1 hx3 hk4 b0 HC hzz
 go_wp2_with fail
 generalize W3.setCell ⟨W1.heap.size,1,none⟩ (.slice B1 sa.length m1)=W4 at *
 refine HC2.out.mono ?_
 rintro r W5 ⟨vc3,rfl,hc3,hx5⟩
 have ho3:=(OwnL.flat_iff.1 hc3).lower (base':=w.heap.size+2) (by omega)
 obtain⟨B3,m3,rfl,-,-⟩:=ho3.form
 have rG5:=rG4.ext hx5
 have g3f:=rG5.frozen 3
 have g3c:=rG5.cell (j:=3) rfl
 have rG6:=rG5.set (j:=3) (by simp) (.slice B3 sp.length m3)
 simp only [List.set_cons_succ,List.set_cons_zero] at rG6
 have hk6:∀ b,b ≠ W1.heap.size→(W5.setCell ⟨W1.heap.size,3,none⟩ (.slice B3 sp.length m3)).heap[b]? = W5.heap[b]?:=fun b hb=>Below.heap_setCell _ _ _ _ hb
 have rB6:=(rB4.ext hx5).keep (hk6 _ (by omega))
 have rR6:=(rR4.ext hx5).keep (hk6 _ (by omega))
 have ho06:=(ho04.ext hx5).keep (w':=W5.setCell ⟨W1.heap.size,3,none⟩ (.slice B3 sp.length m3)) fun b hb _=>hk6 b (fun e=>by subst e;exact (ho04.ext hx5).apart rG5 (by decide) hb)
 have ho16:=(ho14.ext hx5).keep (w':=W5.setCell ⟨W1.heap.size,3,none⟩ (.slice B3 sp.length m3)) fun b hb _=>hk6 b (fun e=>by subst e;exact (ho14.ext hx5).apart rG5 (by decide) hb)
 have ho36:=ho3.keep (w':=W5.setCell ⟨W1.heap.size,3,none⟩ (.slice B3 sp.length m3)) fun b hb _=>hk6 b (fun e=>by subst e;exact ho3.apart rG5 (by decide) hb)
 have hxw6:=(hxw4.trans hx5).set (p:=⟨W1.heap.size,3,none⟩) (by simp;omega) (.slice B3 sp.length m3)
 have b1:=rB6.cell (j:=1) rfl
 have HX6:=Lib.hid hxw6
 have HI6:=Lib.hid (show RowIs (W5.setCell ⟨W1.heap.size,3,none⟩ (.slice B3 sp.length m3)) W1.heap.size 64 [.slice B0 JB.length m0,.slice B1 sa.length m1,(.slice none 0 0),.slice B3 sp.length m3] []∧Own (W5.setCell ⟨W1.heap.size,3,none⟩ (.slice B3 sp.length m3)) (w.heap.size+2) 25 2 (.slice B0 JB.length m0) JB.length (JB.flatMap zag)∧Own (W5.setCell ⟨W1.heap.size,3,none⟩ (.slice B3 sp.length m3)) (w.heap.size+2) 25 2 (.slice B1 sa.length m1) sa.length (sa.flatMap zag)∧Own (W5.setCell ⟨W1.heap.size,3,none⟩ (.slice B3 sp.length m3)) (w.heap.size+2) 9 1 (.slice B3 sp.length m3) sp.length (sp.flatMap strC)∧RowE (W5.setCell ⟨W1.heap.size,3,none⟩ (.slice B3 sp.length m3)) (w.heap.size+2) W1.heap.size (.slice none 0 0) []∧RowIs (W5.setCell ⟨W1.heap.size,3,none⟩ (.slice B3 sp.length m3)) (w.heap.size+1) 64 [.slice none 0 0,.slice none 0 0,.slice none 0 0,.slice none 0 0] [] from ⟨rG6,ho06,ho16,ho36,RowE.nil _ _ _ _,rR6⟩)
 generalize hgE:W1.heap.size=g at *
 clear hc3 ho3 rG4 rG5 rG6 rB4 rB6 rR4 rR6 ho04 ho06 ho14 ho16 ho36 hxw4 hxw6 hx5 hk6 b2 HC2 hgE
 go_wp2_with fail
 generalize W5.setCell ⟨g,3,none⟩ (.slice B3 sp.length m3)=W6 at *
 go_loopw [24] (fun i wr=>∃ pre post vE,se=pre++post∧i=I pre.length∧Hid (RowIs wr g 64 [.slice B0 JB.length m0,.slice B1 sa.length m1,vE,.slice B3 sp.length m3] []∧Own wr (w.heap.size+2) 25 2 (.slice B0 JB.length m0) JB.length (JB.flatMap zag)∧Own wr (w.heap.size+2) 25 2 (.slice B1 sa.length m1) sa.length (sa.flatMap zag)∧Own wr (w.heap.size+2) 9 1 (.slice B3 sp.length m3) sp.length (sp.flatMap strC)∧RowE wr (w.heap.size+2) g vE (pre.filter (zb9 base))∧RowIs wr (w.heap.size+1) 64 [.slice none 0 0,.slice none 0 0,.slice none 0 0,.slice none 0 0] [])∧Ext w wr) (fun i _=>se.length - (intOf i).toNat)
 case atStart=>exact⟨[],se,.slice none 0 0,rfl,rfl,HI6,HX6.out⟩
 case round =>
  obtain⟨pre,post,vE,hl,rfl,hI,hx⟩:=hrel
  cases post with
  | cons m post =>
   obtain⟨b,o,a1,a2,a3,rfl,e0,e1,e2,e3,e4,e5,e6,hEA⟩:=HAT.out pre post m wr hx hl
   obtain⟨C1,c1,rfl,-,-⟩:=hEA.seen.form
   obtain⟨C2,c2,rfl,-,-⟩:=hEA.counts.form
   obtain⟨C3,c3,rfl,-,-⟩:=hEA.items.form
   have hlt:pre.length < se.length:=by rw [hl];simp
   have HL:=Lib.hid hl
   have hsm:=SM.out.each m (by show m ∈ se;rw [hl];simp)
   have hse:se.length≤549755813888:=SM.out.entries
   have hpf:=List.length_filter_le (zb9 base) pre
   generalize hpl:pre.filter (zb9 base)=pl at *
   have HPL:=Lib.hid hpl
   have hxb:=(Ext.refl wr).alloc (.cells #[St m.key,.slice C1 m.seen.length c1,.slice C2 m.counts.length c2,.slice C3 m.items.length c3,U m.cell.1,St m.cell.2.1,.bool m.cell.2.2] 37)
   have rb:=zac wr 37 [St m.key,.slice C1 m.seen.length c1,.slice C2 m.counts.length c2,.slice C3 m.items.length c3,U m.cell.1,St m.cell.2.1,.bool m.cell.2.2]
   have hEAb:=(hEA.ext hx).ext hxb
   have hxwb:=hx.trans hxb
   have HB:=Lib.hid (show RowIs (wr.alloc (.cells #[St m.key,.slice C1 m.seen.length c1,.slice C2 m.counts.length c2,.slice C3 m.items.length c3,U m.cell.1,St m.cell.2.1,.bool m.cell.2.2] 37)) g 64 [.slice B0 JB.length m0,.slice B1 sa.length m1,vE,.slice B3 sp.length m3] []∧Own (wr.alloc (.cells #[St m.key,.slice C1 m.seen.length c1,.slice C2 m.counts.length c2,.slice C3 m.items.length c3,U m.cell.1,St m.cell.2.1,.bool m.cell.2.2] 37)) (w.heap.size+2) 25 2 (.slice B0 JB.length m0) JB.length (JB.flatMap zag)∧Own (wr.alloc (.cells #[St m.key,.slice C1 m.seen.length c1,.slice C2 m.counts.length c2,.slice C3 m.items.length c3,U m.cell.1,St m.cell.2.1,.bool m.cell.2.2] 37)) (w.heap.size+2) 25 2 (.slice B1 sa.length m1) sa.length (sa.flatMap zag)∧Own (wr.alloc (.cells #[St m.key,.slice C1 m.seen.length c1,.slice C2 m.counts.length c2,.slice C3 m.items.length c3,U m.cell.1,St m.cell.2.1,.bool m.cell.2.2] 37)) (w.heap.size+2) 9 1 (.slice B3 sp.length m3) sp.length (sp.flatMap strC)∧RowE (wr.alloc (.cells #[St m.key,.slice C1 m.seen.length c1,.slice C2 m.counts.length c2,.slice C3 m.items.length c3,U m.cell.1,St m.cell.2.1,.bool m.cell.2.2] 37)) (w.heap.size+2) g vE pl∧RowIs (wr.alloc (.cells #[St m.key,.slice C1 m.seen.length c1,.slice C2 m.counts.length c2,.slice C3 m.items.length c3,U m.cell.1,St m.cell.2.1,.bool m.cell.2.2] 37)) (w.heap.size+1) 64 [.slice none 0 0,.slice none 0 0,.slice none 0 0,.slice none 0 0] [] from by obtain⟨i1,i2,i3,i4,i5,i6⟩:=hI.out;exact⟨i1.ext hxb,i2.ext hxb,i3.ext hxb,i4.ext hxb,i5.ext hxb,i6.ext hxb⟩)
   have q1:=rb.cell (j:=1) rfl
   have HCV:=Lib.hid (zfo ((HB0.out.ext (by decide) hx).ext (by decide) hxb) hEAb.seen (Nat.le_trans hbl (by decide)) (Nat.le_trans hsm.seen (by decide)))
   have HEAb:=Lib.hid hEAb
   clear hl hpl hEA hEAb hI hx hxb
   go_wp2_with fail
   generalize wr.alloc (.cells #[St m.key,.slice C1 m.seen.length c1,.slice C2 m.counts.length c2,.slice C3 m.items.length c3,U m.cell.1,St m.cell.2.1,.bool m.cell.2.2] 37)=Wb at *
   refine HCV.out.mono ?_
   rintro r Wc ⟨rfl,hxc⟩
   have HC:=Lib.hid (show RowIs Wc g 64 [.slice B0 JB.length m0,.slice B1 sa.length m1,vE,.slice B3 sp.length m3] []∧Own Wc (w.heap.size+2) 25 2 (.slice B0 JB.length m0) JB.length (JB.flatMap zag)∧Own Wc (w.heap.size+2) 25 2 (.slice B1 sa.length m1) sa.length (sa.flatMap zag)∧Own Wc (w.heap.size+2) 9 1 (.slice B3 sp.length m3) sp.length (sp.flatMap strC)∧RowE Wc (w.heap.size+2) g vE pl∧RowIs Wc (w.heap.size+1) 64 [.slice none 0 0,.slice none 0 0,.slice none 0 0,.slice none 0 0] [] from by obtain⟨i1,i2,i3,i4,i5,i6⟩:=HB.out;exact⟨i1.ext hxc,i2.ext hxc,i3.ext hxc,i4.ext hxc,i5.ext hxc,i6.ext hxc⟩)
   have hxwc:=hxwb.trans hxc
   have rc:=rb.ext hxc
   have HEAc:=Lib.hid (HEAb.out.ext hxc)
   clear HB HCV HEAb hxwb rb hxc q1 e0 e1 e2 e3 e4 e5 e6
   cases hcv:zar base m.seen with
   | true =>
    have HFL:=Lib.hid (show (pre++[m]).filter (zb9 base)=pl by rw [List.filter_append,HPL.out];simp [zb9,hcv])
    have HX:=Lib.hid hxwc
    clear hcv rc hxwc
    go_wp2_with fail
    go_roundw
    case rel=>exact⟨pre++[m],post,vE,by rw [HL.out];simp,by simp,by rw [HFL.out];exact HC,HX.out⟩
    case measure=>simp [intOf];omega
   | false =>
    have HFL:=Lib.hid (show (pre++[m]).filter (zb9 base)=pl++[m] by rw [List.filter_append,HPL.out];simp [zb9,hcv])
    clear hcv
    obtain⟨hgb,ho0b,ho1b,ho3b,hEb,hRb⟩:=HC.out
    obtain⟨AE,cE,rfl,-,-⟩:=hEb.form
    go_wp2_with fail
    clear HC
    have hgl:=hgb.lt
    have hEl:∀ b,zae (.slice AE pl.length cE) b→b < Wc.heap.size:=fun b hb=>(hEb.base_le hb).2
    obtain⟨xE,hoE⟩:=hEb.own
    have hEg:¬ zae (.slice AE pl.length cE) g:=hoE.apart hgb (by decide)
    have hEAb:=HEAc.out
    refine zgh [.early (fun v _=>v = .pointer (some ⟨g,1,none⟩)),.early (fun v _=>v = .pointer (some ⟨g,2,none⟩)),.early (fun v _=>v = .slice AE pl.length cE),.early (fun v _=>v=entV m (.slice C1 m.seen.length c1) (.slice C2 m.counts.length c2) (.slice C3 m.items.length c3)),
     .early (fun v W=>∃ u1 u2 u3,v=entV m u1 u2 u3∧EntNew W Wc.heap.size m u1 u2 u3),
     .early (fun v W=>∃ h u1 u2 u3,v = .slice (some ⟨h,0,none⟩) 1 1∧Wc.heap.size≤h∧RowIs W h 37 (entL m u1 u2 u3) []∧EntNew W Wc.heap.size m u1 u2 u3),
     .move (fun v W=>RowE W (w.heap.size+2) g v (pl++[m])),.late (fun v _=>v = .pointer (some ⟨g,1,none⟩)),.late (fun v _=>v = .pointer (some ⟨g,2,none⟩))] 6 (fun W=>Ext Wc W) (fun W=>Moved (.slice AE pl.length cE) Wc W) Ext (MvR (.slice AE pl.length cE)) rfl (by kernel_rfl) (by kernel_rfl) ?hR ?hRq ?hJ ?hstep ?hend
    case hR =>
     simp only [List.mem_cons,List.not_mem_nil,or_false,forall_eq_or_imp,forall_eq,HF.fact]
     exact⟨fun v _ _ h _=>h,fun v _ _ h _=>h,fun v _ _ h _=>h,fun v _ _ h _=>h,fun v _ _ h he=>by obtain⟨u1,u2,u3,e,a⟩:=h;exact⟨u1,u2,u3,e,a.ext he⟩,fun v _ _ h he=>by obtain⟨k,u1,u2,u3,e,a,b,c⟩:=h;exact⟨k,u1,u2,u3,e,a,b.ext he,c.ext he⟩,fun v _ _ h he=>h.ext he,fun v _ _ h _=>h,fun v _ _ h _=>h⟩
    case hRq =>
     simp only [List.mem_cons,List.not_mem_nil,or_false,forall_eq_or_imp,forall_eq,HF.fact,HF.isStore]
     exact⟨fun _ v _ _ h _=>h,fun _ v _ _ h _=>h,fun _ v _ _ h _=>h,fun _ v _ _ h _=>h,fun _ v _ _ h he=>by obtain⟨u1,u2,u3,e,a⟩:=h;exact⟨u1,u2,u3,e,a.mvR he hEl⟩,
      fun _ v _ _ h he=>by obtain⟨k,u1,u2,u3,e,a,b,c⟩:=h;exact⟨k,u1,u2,u3,e,a,b.mvR he (fun ho=>by have:=hEl k ho;omega),c.mvR he hEl⟩,fun h=>(by cases h),fun _ v _ _ h _=>h,fun _ v _ _ h _=>h⟩
    case hJ=>exact (Ext.refl Wc).drew
    case hstep =>
     simp only [List.length_cons,List.length_nil,Nat.reduceAdd,List.take_succ_cons,List.take_zero,zcz,and_true]
     refine ⟨?_,?_,?_,?_,?_,?_,?_,?_,?_⟩
     ·intro x W hj f
      have h:x 5 = .pointer (some ⟨g,0,none⟩):=f.1
      go_wp
      exact zaf rfl ⟨hj,Ext.refl _⟩
     ·intro x W hj f
      have h:x 33 = .pointer (some ⟨g,1,none⟩):=f.1
      go_wp
      exact zaf rfl ⟨hj,Ext.refl _⟩
     ·intro x W hj f
      have h:x 34 = .pointer (some ⟨g,2,none⟩):=f.1
      have hc:=(hgb.ext hj).cell (j:=2) rfl
      go_wp
      exact zaf rfl ⟨hj,Ext.refl _⟩
     ·intro x W hj f
      have h:x 7 = .pointer (some ⟨wr.heap.size,0,none⟩):=f.1
      have q0:=(rc.ext hj).cell (j:=0) rfl
      have q1:=(rc.ext hj).cell (j:=1) rfl
      have q2:=(rc.ext hj).cell (j:=2) rfl
      have q3:=(rc.ext hj).cell (j:=3) rfl
      have q4:=(rc.ext hj).cell (j:=4) rfl
      have q5:=(rc.ext hj).cell (j:=5) rfl
      have q6:=(rc.ext hj).cell (j:=6) rfl
      go_wp
      exact zaf rfl ⟨hj,Ext.refl _⟩
     ·intro x W hj f
      have h:x 36=entV m (.slice C1 m.seen.length c1) (.slice C2 m.counts.length c2) (.slice C3 m.items.length c3):=f.1
      have hs:=hj.size
      have HC:=Lib.hid (zdx (hEAb.ext hj) (Nat.le_trans hsm.seen (by decide)) (Nat.le_trans hsm.counts (by decide)) (Nat.le_trans hsm.items (by decide)) (fun it hit=>Nat.le_trans (hsm.dots it hit) (by decide)))
      go_wp
      refine HC.out.mono ?_
      rintro r W2 ⟨u1,u2,u3,rfl,hn,hx2⟩
      dsimp only
      go_wp
      exact zaf (v:=entV m u1 u2 u3) ⟨u1,u2,u3,rfl,hn.lower hs⟩ ⟨hj.trans hx2,hx2⟩
     ·intro x W hj f
      obtain⟨u1,u2,u3,h,hn⟩:∃ u1 u2 u3,x 37=entV m u1 u2 u3∧EntNew W Wc.heap.size m u1 u2 u3:=f.1
      have hs:=hj.size
      obtain⟨D1,d1,rfl,-,-⟩:=hn.seen.form
      obtain⟨D2,d2,rfl,-,-⟩:=hn.counts.form
      obtain⟨D3,d3,rfl,-,-⟩:=hn.items.form
      have hrow:=zac W 37 (entL m (.slice D1 m.seen.length d1) (.slice D2 m.counts.length d2) (.slice D3 m.items.length d3))
      have hxa:=(Ext.refl W).alloc (.cells (entL m (.slice D1 m.seen.length d1) (.slice D2 m.counts.length d2) (.slice D3 m.items.length d3)).toArray 37)
      go_wp
      exact zaf (v:=.slice (some ⟨W.heap.size,0,none⟩) 1 1) ⟨W.heap.size,_,_,_,rfl,hs,hrow,hn.ext hxa⟩ ⟨hj.trans hxa,hxa⟩
     ·intro x W hj f
      have h21:x 35 = .slice AE pl.length cE:=f.1
      obtain⟨k,u1,u2,u3,h24,hk,hrow,hn⟩:∃ h u1 u2 u3,x 38 = .slice (some ⟨h,0,none⟩) 1 1∧Wc.heap.size≤h∧RowIs W h 37 (entL m u1 u2 u3) []∧EntNew W Wc.heap.size m u1 u2 u3:=f.2.1
      have hs:=hj.size
      have hone:=zeh (hn.rd (S:=fun _=>True) (fun _ _ _=>trivial))
      obtain⟨vss,g1,g2,g3⟩:=hEb.ext hj
      refine zah rfl (.tmp 35) (.tmp 38) 27 rfl (w.heap.size+2) 37 7 120 zeroEnt Tryz.underlying27 zby rfl (by omega) (.slice AE pl.length cE) pl.length vss.flatten (by simp [go_sem,h21]) g3 (some ⟨k,0,none⟩) 1 1 (entL m u1 u2 u3) (by simp [go_sem,h24])
       ⟨by simp,hone,fun _=>⟨k,0,rfl,fun j u hj=>by rw [Nat.zero_add];exact hrow.cell hj⟩⟩ (by omega) (by omega) (by omega) ?_
      intro v' w' hown hgr
      exact zaf (RowE.snoc g1 g2 hn hEl hgl (by omega) hown hgr) ⟨Grew.moved hj hgr,hgr.size,hgr.same⟩
     ·intro x W b hj f
      have h:x 5 = .pointer (some ⟨g,0,none⟩):=f.1
      go_wp
      exact zaf rfl ⟨hj,Ext.refl _⟩
     ·intro x W b hj f
      have h:x 40 = .pointer (some ⟨g,1,none⟩):=f.1
      go_wp
      exact zaf rfl ⟨hj,Ext.refl _⟩
    case hend =>
     intro x W hj f
     have h25:RowE W (w.heap.size+2) g (x 39) (pl++[m]):=f.2.2.2.2.2.2.1
     have h26:x 41 = .pointer (some ⟨g,2,none⟩):=f.2.2.2.2.2.2.2.2.1
     clear f
     obtain⟨AF,cF,hF,-,-⟩:=h25.form
     rw [show (pl++[m]).length=pl.length+1 by simp] at hF
     simp only [List.length_cons,List.length_nil,Nat.reduceAdd,List.take_succ_cons,List.take_zero,List.filterMap_cons,List.filterMap_nil,List.drop_succ_cons,List.drop_zero,zaz,Act.put,List.setIfInBounds_toArray,List.set_cons_succ,List.set_cons_zero,h26,hF]
     rw [hF] at h25
     have hgW:=hgb.mvR hj.mv hEg
     have hRW:=hRb.mvR hj.mv (hoE.apart hRb (by decide))
     have ho0W:=ho0b.mvR hj.mv (ho0b.apart2 hoE (by decide))
     have ho1W:=ho1b.mvR hj.mv (ho1b.apart2 hoE (by decide))
     have ho3W:=ho3b.mvR hj.mv (ho3b.apart2 hoE (by decide))
     have hxW:=hxwc.moved hj (fun b hb=>by have:=(hEb.base_le hb).1;omega)
     have hf:=hgW.frozen 2
     have hc:=hgW.cell (j:=2) rfl
     have hgS:=hgW.set (j:=2) (by simp) (.slice AF (pl.length+1) cF)
     simp only [List.set_cons_succ,List.set_cons_zero] at hgS
     have hkk:∀ b,b ≠ g→(W.setCell ⟨g,2,none⟩ (.slice AF (pl.length+1) cF)).heap[b]? = W.heap[b]?:=fun b hb=>Below.heap_setCell _ _ _ _ hb
     have HI:=Lib.hid (show RowIs (W.setCell ⟨g,2,none⟩ (.slice AF (pl.length+1) cF)) g 64 [.slice B0 JB.length m0,.slice B1 sa.length m1,(.slice AF (pl.length+1) cF),.slice B3 sp.length m3] []∧Own (W.setCell ⟨g,2,none⟩ (.slice AF (pl.length+1) cF)) (w.heap.size+2) 25 2 (.slice B0 JB.length m0) JB.length (JB.flatMap zag)∧Own (W.setCell ⟨g,2,none⟩ (.slice AF (pl.length+1) cF)) (w.heap.size+2) 25 2 (.slice B1 sa.length m1) sa.length (sa.flatMap zag)∧Own (W.setCell ⟨g,2,none⟩ (.slice AF (pl.length+1) cF)) (w.heap.size+2) 9 1 (.slice B3 sp.length m3) sp.length (sp.flatMap strC)∧RowE (W.setCell ⟨g,2,none⟩ (.slice AF (pl.length+1) cF)) (w.heap.size+2) g (.slice AF (pl.length+1) cF) (pl++[m])∧RowIs (W.setCell ⟨g,2,none⟩ (.slice AF (pl.length+1) cF)) (w.heap.size+1) 64 [.slice none 0 0,.slice none 0 0,.slice none 0 0,.slice none 0 0] [] from
      ⟨hgS,ho0W.keep fun b hb _=>hkk b (fun e=>by subst e;exact ho0W.apart hgW (by decide) hb),ho1W.keep fun b hb _=>hkk b (fun e=>by subst e;exact ho1W.apart hgW (by decide) hb),ho3W.keep fun b hb _=>hkk b (fun e=>by subst e;exact ho3W.apart hgW (by decide) hb),
       h25.set hgW (by decide),hRW.other (by simp;omega) _⟩)
     have HXW:=Lib.hid (hxW.set (p:=⟨g,2,none⟩) (by simp;omega) (.slice AF (pl.length+1) cF))
     clear h25 hgS hgW hRW ho0W ho1W ho3W hxW hgb hRb ho0b ho1b ho3b hEb hoE hEAb rc
     go_wp
     exact⟨⟨pre++[m],post,_,by rw [HL.out];simp,by simp,by rw [HFL.out];exact HI,HXW.out⟩,by simp [intOf];omega⟩
  | nil =>
   rw [List.append_nil] at hl
   subst hl
   generalize hpl:se.filter (zb9 base)=pl at *
   have HPL:=Lib.hid hpl
   clear hpl
   obtain⟨hg,ho0,ho1,ho3,hE,hR⟩:=hI.out
   obtain⟨AE,cE,rfl,-,-⟩:=hE.form
   have k0:=hg.cell (j:=0) rfl
   have k1:=hg.cell (j:=1) rfl
   have k2:=hg.cell (j:=2) rfl
   have k3:=hg.cell (j:=3) rfl
   have r0:=hR.cell (j:=0) rfl
   have r1:=hR.cell (j:=1) rfl
   have r2:=hR.cell (j:=2) rfl
   have r3:=hR.cell (j:=3) rfl
   have f0:=hR.frozen 0
   have f1:=hR.frozen 1
   have f2:=hR.frozen 2
   have f3:=hR.frozen 3
   have HI:=hI
   have HX:=Lib.hid hx
   clear hI hg ho0 ho1 ho3 hE hR hx
   go_wp2_with fail
   (try simp only [Exit.inBlock,Exit.then])
   refine bodyPost_ret (v:=dltV (.slice B0 JB.length m0) (.slice B1 sa.length m1) (.slice AE pl.length cE) (.slice B3 sp.length m3)) (by simp [results,Tryz.f18,go_sem,r0,r1,r2,r3]) rfl ?_
   obtain⟨hg,ho0,ho1,ho3,hE,hR⟩:=HI.out
   have hk:=zrr wr (w.heap.size+1) (.slice B0 JB.length m0) (.slice B1 sa.length m1) (.slice AE pl.length cE) (.slice B3 sp.length m3)
   refine ⟨.slice B0 JB.length m0,.slice B1 sa.length m1,.slice AE pl.length cE,.slice B3 sp.length m3,rfl,?_,?_,?_⟩
   ·rw [HJB.out]
    exact (ho0.keep fun b hb _=>hk b (by have:=(ho0.base_le hb).1;omega)).lower (by omega)
   ·rw [HSI.out]
    refine ⟨?_,?_,?_⟩
    ·exact (ho1.keep fun b hb _=>hk b (by have:=(ho1.base_le hb).1;omega)).lower (by omega)
    ·exact (OwnL.lower (OwnL.mono (OwnL.keep (w':=put4 wr (w.heap.size+1) (.slice B0 JB.length m0) (.slice B1 sa.length m1) (.slice AE pl.length cE) (.slice B3 sp.length m3)) hE (fun b hb _=>hk b (by have:=hb.1;omega)) (fun b hb _=>hk b (by have:=(hE.base_le hb).1;omega))) (S':=fun b=>w.heap.size≤b∧¬ zae (.slice AE pl.length cE) b) fun b _ hb=>⟨by have:=hb.1;omega,hb.2.2⟩) (by omega))
    ·exact (ho3.keep fun b hb _=>hk b (by have:=(ho3.base_le hb).1;omega)).lower (by omega)
   ·exact ztc HX.out (by omega) _ _ _ _
end
section
open Go.RowKit Go.Shelf
attribute [local go_sem] Oper.semAt_some
theorem zle {S1 S2:Nat→Prop} {s1 s2:State} {a1 a2 a3 b1 b2 b3:Value} {w:World} (h1:StAt w S1 s1 a1 a2 a3) (h2:StAt w S2 s2 b1 b2 b3) (sm1:SmallS s1) (sm2:SmallS s2) :
  Calls Tryz.prog 15 #[stV a1 a2 a3,stV b1 b2 b3] w fun r w'=>∃ u1 u2 u3,r = .returned (stV u1 u2 u3)∧StNew w' w.heap.size (ze4 s1 s2) u1 u2 u3∧Ext w w':=by
 obtain⟨sa,se,sp⟩:=s1
 obtain⟨ta,te,tp⟩:=s2
 obtain⟨A1,n1,rfl,-,-⟩:=h1.all.form
 obtain⟨A2,n2,rfl,-,-⟩:=h1.entries.form
 obtain⟨A3,n3,rfl,-,-⟩:=h1.pruned.form
 obtain⟨B1,m1,rfl,-,-⟩:=h2.all.form
 obtain⟨B2,m2,rfl,-,-⟩:=h2.entries.form
 obtain⟨B3,m3,rfl,-,-⟩:=h2.pruned.form
 have hx0:Ext w (((w.alloc (.cells #[.slice A1 sa.length n1,.slice A2 se.length n2,.slice A3 sp.length n3] 30)).alloc (.cells #[.slice B1 ta.length m1,.slice B2 te.length m2,.slice B3 tp.length m3] 30)).alloc (.cells #[.slice none 0 0,.slice none 0 0,.slice none 0 0] 30)):=(((Ext.refl w).alloc _).alloc _).alloc _
 have rA0:RowIs (((w.alloc (.cells #[.slice A1 sa.length n1,.slice A2 se.length n2,.slice A3 sp.length n3] 30)).alloc (.cells #[.slice B1 ta.length m1,.slice B2 te.length m2,.slice B3 tp.length m3] 30)).alloc (.cells #[.slice none 0 0,.slice none 0 0,.slice none 0 0] 30)) w.heap.size 30 [.slice A1 sa.length n1,.slice A2 se.length n2,.slice A3 sp.length n3] []:=((zac w _ _).alloc _).alloc _
 have rB0:RowIs (((w.alloc (.cells #[.slice A1 sa.length n1,.slice A2 se.length n2,.slice A3 sp.length n3] 30)).alloc (.cells #[.slice B1 ta.length m1,.slice B2 te.length m2,.slice B3 tp.length m3] 30)).alloc (.cells #[.slice none 0 0,.slice none 0 0,.slice none 0 0] 30)) (w.heap.size+1) 30 [.slice B1 ta.length m1,.slice B2 te.length m2,.slice B3 tp.length m3] []:=by have h:=zac (w.alloc (.cells #[.slice A1 sa.length n1,.slice A2 se.length n2,.slice A3 sp.length n3] 30)) 30 [.slice B1 ta.length m1,.slice B2 te.length m2,.slice B3 tp.length m3];simp only [World.size_alloc] at h;exact h.alloc _
 have rR0:RowIs (((w.alloc (.cells #[.slice A1 sa.length n1,.slice A2 se.length n2,.slice A3 sp.length n3] 30)).alloc (.cells #[.slice B1 ta.length m1,.slice B2 te.length m2,.slice B3 tp.length m3] 30)).alloc (.cells #[.slice none 0 0,.slice none 0 0,.slice none 0 0] 30)) (w.heap.size+1+1) 30 [.slice none 0 0,.slice none 0 0,.slice none 0 0] []:=by have h:=zac ((w.alloc (.cells #[.slice A1 sa.length n1,.slice A2 se.length n2,.slice A3 sp.length n3] 30)).alloc (.cells #[.slice B1 ta.length m1,.slice B2 te.length m2,.slice B3 tp.length m3] 30)) 30 [.slice none 0 0,.slice none 0 0,.slice none 0 0];simp only [World.size_alloc] at h;exact h
 have hz0:w.heap.size+3≤(((w.alloc (.cells #[.slice A1 sa.length n1,.slice A2 se.length n2,.slice A3 sp.length n3] 30)).alloc (.cells #[.slice B1 ta.length m1,.slice B2 te.length m2,.slice B3 tp.length m3] 30)).alloc (.cells #[.slice none 0 0,.slice none 0 0,.slice none 0 0] 30)).heap.size:=by simp
 have h1':=h1.mono (S':=fun b=>b < w.heap.size) (fun b hb _=>hb)
 have h2':=h2.mono (S':=fun b=>b < w.heap.size) (fun b hb _=>hb)
 have H1:=Lib.hid (h1'.ext hx0)
 have H2:=Lib.hid (h2'.ext hx0)
 have SM1:=Lib.hid sm1
 have SM2:=Lib.hid sm2
 have HJ:=Lib.hid (zf7 H1.out.all H2.out.all (Nat.le_trans SM1.out.all (by decide)) (Nat.le_trans SM2.out.all (by decide)))
 clear h1 h2 h1' h2' sm1 sm2
 refine (callsIn_wide (n:=9)).1 ?_
 refine callsIn_of_wp_marks Tryz.func15 rfl trivial ?_ rfl
 simp only [Tryz.ntmps15,List.size_toArray,List.length_cons,List.length_nil,Nat.reduceAdd,Nat.reduceSub,Array.replicate_succ,Array.replicate_zero,List.push_toArray,List.append_toArray,List.nil_append,List.cons_append]
 refine wpIn_wide.2 ?_
 go_wp2_with fail
 generalize (((w.alloc (.cells #[.slice A1 sa.length n1,.slice A2 se.length n2,.slice A3 sp.length n3] 30)).alloc (.cells #[.slice B1 ta.length m1,.slice B2 te.length m2,.slice B3 tp.length m3] 30)).alloc (.cells #[.slice none 0 0,.slice none 0 0,.slice none 0 0] 30))=W0 at *
 have a00:=rA0.cell (j:=0) rfl
 have b00:=rB0.cell (j:=0) rfl
 refine HJ.out.mono ?_
 rintro r W1 ⟨v1,rfl,hv1,hx1⟩
 obtain⟨J1,j1,rfl,-,-⟩:=hv1.form
 have hx01:=hx0.trans hx1
 have hxg:=(Ext.refl W1).alloc (.cells #[(.slice J1 (zaq sa ta).length j1),(.slice none 0 0),(.slice none 0 0)] 30)
 have rG2:RowIs (W1.alloc (.cells #[(.slice J1 (zaq sa ta).length j1),(.slice none 0 0),(.slice none 0 0)] 30)) W1.heap.size 30 [(.slice J1 (zaq sa ta).length j1),(.slice none 0 0),(.slice none 0 0)] []:=zac W1 30 [(.slice J1 (zaq sa ta).length j1),(.slice none 0 0),(.slice none 0 0)]
 have rA2:RowIs (W1.alloc (.cells #[(.slice J1 (zaq sa ta).length j1),(.slice none 0 0),(.slice none 0 0)] 30)) _ _ _ _:=rA0.ext (hx1.trans hxg)
 have rB2:RowIs (W1.alloc (.cells #[(.slice J1 (zaq sa ta).length j1),(.slice none 0 0),(.slice none 0 0)] 30)) _ _ _ _:=rB0.ext (hx1.trans hxg)
 have rR2:RowIs (W1.alloc (.cells #[(.slice J1 (zaq sa ta).length j1),(.slice none 0 0),(.slice none 0 0)] 30)) _ _ _ _:=rR0.ext (hx1.trans hxg)
 have hz1:=Nat.le_trans hz0 hx1.size
 have HX2:=Lib.hid (show Ext w (W1.alloc (.cells #[(.slice J1 (zaq sa ta).length j1),(.slice none 0 0),(.slice none 0 0)] 30)) from (hx0.trans hx1).trans hxg)
 have HA2:=Lib.hid (H1.out.ext (hx1.trans hxg))
 have HB2:=Lib.hid (H2.out.ext (hx1.trans hxg))
 have hz2:W1.heap.size+1≤(W1.alloc (.cells #[(.slice J1 (zaq sa ta).length j1),(.slice none 0 0),(.slice none 0 0)] 30)).heap.size:=by simp
 have HV2:=Lib.hid ((hv1.ext hxg).lower (base':=w.heap.size+3) hz0)
 have HG2:=Lib.hid rG2
 clear hx0 rA0 rB0 rR0 hz0 HJ hv1 hx01 hx1 H1 H2 hxg rG2
 go_wp2_with fail
 clear a00 b00
 generalize (W1.alloc (.cells #[(.slice J1 (zaq sa ta).length j1),(.slice none 0 0),(.slice none 0 0)] 30))=W2 at *
 have hW2:=hz2
 have hAe:∀ W,Ext W2 W→Sl entryT W (fun b=>b < w.heap.size) (.slice A2 se.length n2) se:=fun W he=>(HA2.out.entries.ext (by decide) he)
 have hBe:∀ W,Ext W2 W→Sl entryT W (fun b=>b < w.heap.size) (.slice B2 te.length m2) te:=fun W he=>(HB2.out.entries.ext (by decide) he)
 have HAE:=Lib.hid hAe
 have HBE:=Lib.hid hBe
 clear hAe hBe
 refine zjn [fun v _=>v = .pointer (some ⟨w.heap.size,1,none⟩),fun v _=>v = .slice A2 se.length n2,fun v W=>∃ m,v = .map (some m)∧W2.heap.size≤m∧MapIs St I W m (plF 0 [] se),
  fun v _=>v = .pointer (some ⟨w.heap.size+1,1,none⟩),fun v _=>v = .slice B2 te.length m2,fun v W=>∃ m,v = .map (some m)∧W2.heap.size≤m∧MapIs St I W m (plF 0 [] te),
  fun v W=>∃ g,v = .pointer (some ⟨g,0,none⟩)∧W2.heap.size≤g∧RowIs W g 112 [.map none] [],fun v W=>∃ g,v = .pointer (some ⟨g,0,none⟩)∧W2.heap.size≤g∧RowIs W g 112 [.map none] []] [6,7] rfl (by kernel_rfl) (by kernel_rfl) ?hR ?hstep ?hend
 case hR =>
  simp only [List.mem_cons,List.not_mem_nil,or_false,forall_eq_or_imp,forall_eq]
  exact⟨fun v _ _ h _=>h,fun v _ _ h _=>h,fun v _ _ h he=>by obtain⟨m,e,z,h⟩:=h;exact⟨m,e,z,h.ext he⟩,fun v _ _ h _=>h,fun v _ _ h _=>h,fun v _ _ h he=>by obtain⟨m,e,z,h⟩:=h;exact⟨m,e,z,h.ext he⟩,
   fun v _ _ h he=>by obtain⟨g,e,z,h⟩:=h;exact⟨g,e,z,h.ext he⟩,fun v _ _ h he=>by obtain⟨g,e,z,h⟩:=h;exact⟨g,e,z,h.ext he⟩⟩
 case hstep =>
  simp only [List.length_cons,List.length_nil,Nat.reduceAdd,List.take_succ_cons,List.take_zero,zcm,and_true]
  refine ⟨?_,?_,?_,?_,?_,?_,?_,?_⟩
  ·intro x W he f
   have h:x 2 = .pointer (some ⟨w.heap.size,0,none⟩):=f.1
   go_wp
   exact zaa (r:=za1 _ _ _ _) ⟨rfl,fun h=>by simp at h⟩ (Ext.refl _)
  ·intro x W he f
   have h:x 21 = .pointer (some ⟨w.heap.size,1,none⟩):=f.1
   have hc:=(rA2.ext he).cell (j:=1) rfl
   go_wp
   exact zaa (r:=za1 _ _ _ _) ⟨rfl,fun h=>by simp at h⟩ (Ext.refl _)
  ·intro x W he f
   have h:x 22 = .slice A2 se.length n2:=f.1
   have hs:=he.size
   have HC:=Lib.hid (zhn (HAE.out W he))
   go_wp
   refine HC.out.mono ?_
   rintro r W3 ⟨m,rfl,hm,hM,hx2⟩
   dsimp only
   go_wp
   exact zaa (v:=.map (some m)) (r:=za1 _ _ _ _) ⟨⟨m,rfl,by omega,hM⟩,fun h=>by simp at h⟩ hx2
  ·intro x W he f
   have h:x 3 = .pointer (some ⟨w.heap.size+1,0,none⟩):=f.1
   go_wp
   exact zaa (r:=za1 _ _ _ _) ⟨rfl,fun h=>by simp at h⟩ (Ext.refl _)
  ·intro x W he f
   have h:x 24 = .pointer (some ⟨w.heap.size+1,1,none⟩):=f.1
   have hc:=(rB2.ext he).cell (j:=1) rfl
   go_wp
   exact zaa (r:=za1 _ _ _ _) ⟨rfl,fun h=>by simp at h⟩ (Ext.refl _)
  ·intro x W he f
   have h:x 25 = .slice B2 te.length m2:=f.1
   have hs:=he.size
   have HC:=Lib.hid (zhn (HBE.out W he))
   go_wp
   refine HC.out.mono ?_
   rintro r W3 ⟨m,rfl,hm,hM,hx2⟩
   dsimp only
   go_wp
   exact zaa (v:=.map (some m)) (r:=za1 _ _ _ _) ⟨⟨m,rfl,by omega,hM⟩,fun h=>by simp at h⟩ hx2
  ·intro x W he f
   have hs:=he.size
   have hrow:=zac W 112 [.map none]
   go_wp
   exact zaa (r:=za1 _ _ _ _) ⟨⟨W.heap.size,rfl,hs,hrow⟩,fun _=>⟨W.heap.size,rfl,Nat.le_refl _,by simp⟩⟩ ((Ext.refl W).alloc _)
  ·intro x W he f
   have hs:=he.size
   have hrow:=zac W 112 [.map none]
   go_wp
   exact zaa (r:=za1 _ _ _ _) ⟨⟨W.heap.size,rfl,hs,hrow⟩,fun _=>⟨W.heap.size,rfl,Nat.le_refl _,by simp⟩⟩ ((Ext.refl W).alloc _)
 case hend =>
  intro x W he hap f
  obtain⟨p1,h23,hp1,hM1⟩:∃ m,x 23 = .map (some m)∧W2.heap.size≤m∧MapIs St I W m (plF 0 [] se):=f.2.2.1
  obtain⟨p2,h26,hp2,hM2⟩:∃ m,x 26 = .map (some m)∧W2.heap.size≤m∧MapIs St I W m (plF 0 [] te):=f.2.2.2.2.2.1
  obtain⟨g6,h6,hg6,r6⟩:∃ g,x 6 = .pointer (some ⟨g,0,none⟩)∧W2.heap.size≤g∧RowIs W g 112 [.map none] []:=f.2.2.2.2.2.2.1
  obtain⟨g7,h7,hg7,r7⟩:∃ g,x 7 = .pointer (some ⟨g,0,none⟩)∧W2.heap.size≤g∧RowIs W g 112 [.map none] []:=f.2.2.2.2.2.2.2.1
  have hne:g6 ≠ g7:=fun e=>hap.1 7 (by simp) (by rw [h6,h7,e])
  clear f hap
  simp only [List.length_cons,List.length_nil,Nat.reduceAdd,List.take_succ_cons,List.take_zero,List.filterMap_cons,List.filterMap_nil,List.drop_succ_cons,List.drop_zero,zaz,Act.put,List.setIfInBounds_toArray,List.set_cons_succ,List.set_cons_zero,h23,h26,h6,h7]
  have q6:=r6.cell (j:=0) rfl
  have q7:=r7.cell (j:=0) rfl
  have qf6:=r6.frozen 0
  have qf7:=r7.frozen 0
  have hn1:p1 ≠ g6∧p1 ≠ g7:=⟨fun e=>by subst e;exact hM1.not_row r6,fun e=>by subst e;exact hM1.not_row r7⟩
  have hn2:p2 ≠ g6∧p2 ≠ g7:=⟨fun e=>by subst e;exact hM2.not_row r6,fun e=>by subst e;exact hM2.not_row r7⟩
  have hk:∀ b,b ≠ g6→b ≠ g7→((W.setCell ⟨g6,0,none⟩ (.map (some p1))).setCell ⟨g7,0,none⟩ (.map (some p2))).heap[b]? = W.heap[b]?:=fun b h1 h2=>(Below.heap_setCell _ _ _ _ h2).trans (Below.heap_setCell _ _ _ _ h1)
  have r63:RowIs ((W.setCell ⟨g6,0,none⟩ (.map (some p1))).setCell ⟨g7,0,none⟩ (.map (some p2))) g6 112 [.map (some p1)] []:=by have h:=(r6.set (j:=0) (by simp) (.map (some p1))).other (p:=⟨g7,0,none⟩) (by simpa using hne.symm) (.map (some p2));simpa using h
  have r73:RowIs ((W.setCell ⟨g6,0,none⟩ (.map (some p1))).setCell ⟨g7,0,none⟩ (.map (some p2))) g7 112 [.map (some p2)] []:=by have h:=(r7.other (p:=⟨g6,0,none⟩) (by simpa using hne) (.map (some p1))).set (j:=0) (by simp) (.map (some p2));simpa using h
  have hx3:Ext W2 ((W.setCell ⟨g6,0,none⟩ (.map (some p1))).setCell ⟨g7,0,none⟩ (.map (some p2))):=(he.set (p:=⟨g6,0,none⟩) hg6 _).set (p:=⟨g7,0,none⟩) hg7 _
  have HM1:=Lib.hid (hM1.keep (w':=((W.setCell ⟨g6,0,none⟩ (.map (some p1))).setCell ⟨g7,0,none⟩ (.map (some p2)))) (hk _ hn1.1 hn1.2))
  have HM2:=Lib.hid (hM2.keep (w':=((W.setCell ⟨g6,0,none⟩ (.map (some p1))).setCell ⟨g7,0,none⟩ (.map (some p2)))) (hk _ hn2.1 hn2.2))
  have hz3:((W.setCell ⟨g6,0,none⟩ (.map (some p1))).setCell ⟨g7,0,none⟩ (.map (some p2))).heap.size≤W.heap.size∧W.heap.size≤((W.setCell ⟨g6,0,none⟩ (.map (some p1))).setCell ⟨g7,0,none⟩ (.map (some p2))).heap.size:=by simp
  have hgl6:=r6.lt
  have hgl7:=r7.lt
  have hpl1:=hM1.lt
  have hpl2:=hM2.lt
  have hez:=he.size
  clear hM1 hM2 hk r6 r7 he hn1 hn2
  have rA3:=rA2.ext hx3
  have rB3:=rB2.ext hx3
  have rR3:=rR2.ext hx3
  have HG3:=Lib.hid (HG2.out.ext hx3)
  have HV3:=Lib.hid (HV2.out.ext hx3)
  have HX3:=Lib.hid (HX2.out.trans hx3)
  have HA3:=Lib.hid (HA2.out.ext hx3)
  have HB3:=Lib.hid (HB2.out.ext hx3)
  clear rA2 rB2 rR2 hx3 HG2 HV2 HX2 HA2 HB2 HAE HBE
  have b1:=rB3.cell (j:=1) rfl
  have a1:=rA3.cell (j:=1) rfl
  go_wp
  clear q6 q7 qf6 qf7
  go_wp2_with fail
  generalize ((W.setCell ⟨g6,0,none⟩ (.map (some p1))).setCell ⟨g7,0,none⟩ (.map (some p2)))=W3 at *
  have HK:=Lib.hid (ztb (.slice A2 se.length n2) (.slice B2 te.length m2) W3 rfl rfl)
  refine HK.out.mono ?_
  rintro r w4 ⟨rfl,rfl⟩
  have hx4:Ext W3 ((W3.alloc (.cells #[.slice A2 se.length n2] 27)).alloc (.cells #[.slice B2 te.length m2] 27)):=((Ext.refl W3).alloc _).alloc _
  have k1:((W3.alloc (.cells #[.slice A2 se.length n2] 27)).alloc (.cells #[.slice B2 te.length m2] 27)).cell? ⟨W3.heap.size,0,none⟩=some (.slice A2 se.length n2):=by simp [go_sem]
  have k2:((W3.alloc (.cells #[.slice A2 se.length n2] 27)).alloc (.cells #[.slice B2 te.length m2] 27)).cell? ⟨W3.heap.size+1,0,none⟩=some (.slice B2 te.length m2):=by simp [go_sem]
  have hz4:((W3.alloc (.cells #[.slice A2 se.length n2] 27)).alloc (.cells #[.slice B2 te.length m2] 27)).heap.size≤W3.heap.size+2∧W3.heap.size+2≤((W3.alloc (.cells #[.slice A2 se.length n2] 27)).alloc (.cells #[.slice B2 te.length m2] 27)).heap.size:=by simp
  clear a1 b1
  go_wp2_with fail
  generalize (W3.alloc (.cells #[.slice A2 se.length n2] 27)).alloc (.cells #[.slice B2 te.length m2] 27)=W4 at *
  skip
  have rA4:=rA3.ext hx4
  have rB4:=rB3.ext hx4
  have rR4:=rR3.ext hx4
  have HG4:=Lib.hid (HG3.out.ext hx4)
  have HV4:=Lib.hid (HV3.out.ext hx4)
  have HX4:=Lib.hid (HX3.out.trans hx4)
  have HA4:=Lib.hid (HA3.out.ext hx4)
  have HB4:=Lib.hid (HB3.out.ext hx4)
  have HM14:=Lib.hid (HM1.out.ext hx4)
  have HM24:=Lib.hid (HM2.out.ext hx4)
  have r64:=r63.ext hx4
  have r74:=r73.ext hx4
  have rG4:=HG4.out
  clear rA3 rB3 rR3 hx4 HG3 HV3 HX3 HA3 HB3 HM1 HM2 r63 r73
  have hkl:=zrq (se.map (·.key)) (te.map (·.key))
  rw [List.length_map,List.length_map] at hkl
  have hse:se.length≤549755813888:=SM1.out.entries
  have hte:te.length≤549755813888:=SM2.out.entries
  refine (wpIn_wide (n:=9)).1 ?_
  refine wpIn_rangeFunc_ownG rfl (by omega) (gf:=105) (lb:=#[.pointer (some ⟨W3.heap.size,0,none⟩),.pointer (some ⟨W3.heap.size+1,0,none⟩)]) rfl trivial (enters_of Tryz.func105 (by kernel_rfl) rfl)
   (zpe 8 (by omega) (w:=W4) (n₀:=W4.heap.size) (S:=fun b=>b < W4.heap.size∧b ≠ W1.heap.size) (Nat.le_refl _) k1 k2 ⟨by omega,by omega⟩ ⟨by omega,by omega⟩ (fun b h=>h.1)
    (HA4.out.entries.mono (by decide) fun b hb h=>⟨hb,by omega⟩) (HB4.out.entries.mono (by decide) fun b hb h=>⟨hb,by omega⟩))
   (fun h k=>h.trans k) (KpS.put (Nat.le_refl _)) (Below.refl _ _) (fun _=>rfl)
   (fun pre W=>∃ vE,RowIs W W1.heap.size 30 [(.slice J1 (zaq sa ta).length j1),vE,(.slice none 0 0)] []∧RowE W W4.heap.size W1.heap.size vE (pre.map fun k=>zba (getE se k) (getE te k))∧OldK W4.heap.size W1.heap.size W4 W)
   (fun _ _ _=>False)
   (fun s W W' row ⟨vE,h1,h2,h3⟩ hg hr=>⟨vE,h1.kept hg (fun r e=>(hr r e).2),h2.kept hg (fun r e=>(hr r e).2),OldK.from _ _ _ _ (Nat.le_refl _) () W W' row h3 hg hr⟩)
   (fun _ _ _ _ _ hs _ _=>hs)
   ⟨_,HG4.out,RowE.nil _ _ _ _,OldK.refl (Nat.le_refl _)⟩
   ?a1 ?assign ?body ?done ?stop
  case stop =>
   rintro D c pre W _ _ h _
   exact h.elim
  case assign =>
   intro l x W K hK
   gi_wp2
   exact hK
  case body =>
   rintro l pre x W ⟨vE,hS,hE,hO⟩ hlt
   have hOs:=hO.size
   have hgl1:W1.heap.size < W4.heap.size:=by omega
   have rA:=rA4.keep (hO.same w.heap.size (by omega) (by omega))
   have rB:=rB4.keep (hO.same (w.heap.size+1) (by omega) (by omega))
   have r6:=r64.keep (hO.same g6 (by omega) (by omega))
   have r7:=r74.keep (hO.same g7 (by omega) (by omega))
   have M1:=HM14.out.keep (hO.same p1 (by omega) (by omega))
   have M2:=HM24.out.keep (hO.same p2 (by omega) (by omega))
   have EA:=HA4.out.entries.keep (by decide) (w':=W) (fun b hb h2=>hO.same b (by omega) (by omega))
   have EB:=HB4.out.entries.keep (by decide) (w':=W) (fun b hb h2=>hO.same b (by omega) (by omega))
   have hEf:=hE.form
   rw [List.length_map] at hEf
   obtain⟨AE,cE,rfl,-,-⟩:=hEf
   have hlt2:pre.length≤1099511627776:=Nat.le_trans (Nat.le_of_lt hlt) (Nat.le_trans hkl (by omega))
   have hxb:Ext W ((W.alloc (.cells #[St [],.slice none 0 0,.slice none 0 0,.slice none 0 0,.int .u64 0,St [],.bool false] 37)).alloc (.cells #[St [],.slice none 0 0,.slice none 0 0,.slice none 0 0,.int .u64 0,St [],.bool false] 37)):=((Ext.refl W).alloc _).alloc _
   have r9:RowIs ((W.alloc (.cells #[St [],.slice none 0 0,.slice none 0 0,.slice none 0 0,.int .u64 0,St [],.bool false] 37)).alloc (.cells #[St [],.slice none 0 0,.slice none 0 0,.slice none 0 0,.int .u64 0,St [],.bool false] 37)) W.heap.size 37 [St [],.slice none 0 0,.slice none 0 0,.slice none 0 0,.int .u64 0,St [],.bool false] []:=(zac W 37 [St [],.slice none 0 0,.slice none 0 0,.slice none 0 0,.int .u64 0,St [],.bool false]).alloc _
   have r10:RowIs ((W.alloc (.cells #[St [],.slice none 0 0,.slice none 0 0,.slice none 0 0,.int .u64 0,St [],.bool false] 37)).alloc (.cells #[St [],.slice none 0 0,.slice none 0 0,.slice none 0 0,.int .u64 0,St [],.bool false] 37)) (W.heap.size+1) 37 [St [],.slice none 0 0,.slice none 0 0,.slice none 0 0,.int .u64 0,St [],.bool false] []:=by have h:=zac (W.alloc (.cells #[St [],.slice none 0 0,.slice none 0 0,.slice none 0 0,.int .u64 0,St [],.bool false] 37)) 37 [St [],.slice none 0 0,.slice none 0 0,.slice none 0 0,.int .u64 0,St [],.bool false];rw [World.size_alloc] at h;exact h
   have hzb:((W.alloc (.cells #[St [],.slice none 0 0,.slice none 0 0,.slice none 0 0,.int .u64 0,St [],.bool false] 37)).alloc (.cells #[St [],.slice none 0 0,.slice none 0 0,.slice none 0 0,.int .u64 0,St [],.bool false] 37)).heap.size≤W.heap.size+2∧W.heap.size+2≤((W.alloc (.cells #[St [],.slice none 0 0,.slice none 0 0,.slice none 0 0,.int .u64 0,St [],.bool false] 37)).alloc (.cells #[St [],.slice none 0 0,.slice none 0 0,.slice none 0 0,.int .u64 0,St [],.bool false] 37)).heap.size:=by simp
   skip
   have hspa:=zfc se x
   have hspb:=zfc te x
   have HSx:=Lib.hid hS
   have HEx:=Lib.hid hE
   have HOx:=Lib.hid hO
   have HR:=Lib.hid (show _∧_∧_∧_∧_∧_ from ⟨r6,r7,rA,rB,M1,M2⟩)
   clear hS hE hO r6 r7 rA rB M1 M2
   refine wpIn_block (wpIn_seq_k ?_)
   intro K5 hK5
   have HK5:=Lib.hid hK5
   clear hK5
   gi_wp2_with fail
   refine HK5.out _ _ ?_
   clear HK5 K5
   generalize ((W.alloc (.cells #[St [],.slice none 0 0,.slice none 0 0,.slice none 0 0,.int .u64 0,St [],.bool false] 37)).alloc (.cells #[St [],.slice none 0 0,.slice none 0 0,.slice none 0 0,.int .u64 0,St [],.bool false] 37))=Wb at *
   have q6:=(HR.out.1.ext hxb).cell (j:=0) rfl
   have qa:=(HR.out.2.2.1.ext hxb).cell (j:=1) rfl
   have hlk1:=(za3 (P:=Tryz.prog) (z:=0) Tryz.underlying112 zc4 zin (HR.out.2.2.2.2.1.ext hxb) x).2
   rw [zem,show ∀ L:List (Str × Int),getL 0 L x=(zb5 L x).getD 0 from fun _=>rfl,ze1 se 0 [] x] at hlk1
   simp only [show zb5 ([]:List (Str × Int)) x=none from rfl,Nat.zero_add] at hlk1
   have HEA:=Lib.hid (fun (pre post:List Entry) (m:Entry) (hl:se=pre++m :: post)=>zb0 EA hxb hl)
   clear EA
   refine wpIn_seq_k ?_
   intro K6 hK6
   have HK6:=Lib.hid hK6
   clear hK6
   cases hfa0:se.findIdx? (fun e=>decide (e.key=x)) with
   | none =>
    rw [hfa0] at hlk1 hspa
    simp only at hspa
    simp only [Option.map_none,Option.getD_none,Option.isSome_none] at hlk1
    have HEd1:=Lib.hid (show getE se x=zad from by unfold getE;rw [hspa];rfl)
    clear hspa hfa0
    gi_wp2_with fail
    refine HK6.out _ _ ?_
    clear HK6 K6 q6 qa hlk1 HEA
    have hsm1:=zfw
    have HAc:=Lib.hid (EntAt.none W (fun b=>b < w.heap.size) none none none)
    have r10c:=r10
    have r9c:=r9
    have hxc:=hxb
    clear r9 r10 hxb
    obtain⟨Wc,rfl⟩:∃ Wc,Wc=Wb:=⟨_,rfl⟩
    refine wpIn_seq_k ?_
    intro K9 hK9
    have HK9:=Lib.hid hK9
    clear hK9
    have q7:=(HR.out.2.1.ext hxc).cell (j:=0) rfl
    have qb:=(HR.out.2.2.2.1.ext hxc).cell (j:=1) rfl
    have hlk2:=(za3 (P:=Tryz.prog) (z:=0) Tryz.underlying112 zc4 zin (HR.out.2.2.2.2.2.ext hxc) x).2
    rw [zem,show ∀ L:List (Str × Int),getL 0 L x=(zb5 L x).getD 0 from fun _=>rfl,ze1 te 0 [] x] at hlk2
    simp only [show zb5 ([]:List (Str × Int)) x=none from rfl,Nat.zero_add] at hlk2
    have HEB:=Lib.hid (fun (pre post:List Entry) (m:Entry) (hl:te=pre++m :: post)=>zb0 EB hxc hl)
    clear EB
    cases hfb0:te.findIdx? (fun e=>decide (e.key=x)) with
    | none =>
     rw [hfb0] at hlk2 hspb
     simp only at hspb
     simp only [Option.map_none,Option.getD_none,Option.isSome_none] at hlk2
     have HEd2:=Lib.hid (show getE te x=zad from by unfold getE;rw [hspb];rfl)
     clear hspb hfb0
     gi_wp2_with fail
     refine HK9.out _ _ ?_
     clear HK9 K9 q7 qb hlk2 HEB
     have HBd:=EntAt.none W (fun b=>b < w.heap.size) none none none
     have hsm2:=zfw
     have r10d:=r10c
     have r9d:=r9c
     have hxd:=hxc
     clear r9c r10c hxc
     obtain⟨Wd,rfl⟩:∃ Wd,Wd=Wc:=⟨_,rfl⟩
     have rS:=HSx.out.ext hxd
     have hEd:=HEx.out.ext hxd
     have HAd:=Lib.hid (HAc.out.ext hxd)
     have HBd2:=Lib.hid (HBd.ext hxd)
     have hgl:=rS.lt
     have hxz:=hxd.size
     obtain⟨J,hJ⟩:∃ J,J=zba zad zad:=⟨_,rfl⟩
     have HJe:=Lib.hid hJ
     refine zc0 [fun v _=>v = .pointer (some ⟨W1.heap.size,1,none⟩),fun v _=>v = .slice AE pre.length cE,fun v _=>v=entV zad (.slice none 0 0) (.slice none 0 0) (.slice none 0 0),fun v _=>v=entV zad (.slice none 0 0) (.slice none 0 0) (.slice none 0 0),
      fun v W'=>∃ u1 u2 u3,v=entV J u1 u2 u3∧EntNew W' Wd.heap.size J u1 u2 u3,fun v W'=>∃ h u1 u2 u3,v = .slice (some ⟨h,0,none⟩) 1 1∧Wd.heap.size≤h∧RowIs W' h 37 (entL J u1 u2 u3) []∧EntNew W' Wd.heap.size J u1 u2 u3] []
      rfl (by rintro⟨a,w,h⟩;exact h) (by intro o ho c;simp only [List.mem_cons,List.not_mem_nil,or_false] at ho;rcases ho with rfl | rfl | rfl | rfl | rfl | rfl | rfl | rfl | rfl <;> (intro h;cases h)) (by kernel_rfl) (by kernel_rfl) ?hR ?hstep ?hend
     case hR =>
      simp only [List.mem_cons,List.not_mem_nil,or_false,forall_eq_or_imp,forall_eq]
      exact⟨fun v _ _ h _=>h,fun v _ _ h _=>h,fun v _ _ h _=>h,fun v _ _ h _=>h,fun v _ _ h he=>by obtain⟨u1,u2,u3,e,z⟩:=h;exact⟨u1,u2,u3,e,z.ext he⟩,fun v _ _ h he=>by obtain⟨k,u1,u2,u3,e,z,b,c⟩:=h;exact⟨k,u1,u2,u3,e,z,b.ext he,c.ext he⟩⟩
     case hstep =>
      simp only [List.length_cons,List.length_nil,Nat.reduceAdd,List.take_succ_cons,List.take_zero,zcm,and_true]
      refine ⟨?_,?_,?_,?_,?_,?_⟩
      ·intro x' W' he f
       have h:x' 5 = .pointer (some ⟨W1.heap.size,0,none⟩):=f.1
       go_wp
       exact zaa (r:=za1 _ _ _ _) ⟨rfl,fun h=>by simp at h⟩ (Ext.refl _)
      ·intro x' W' he f
       have h:x' 57 = .pointer (some ⟨W1.heap.size,1,none⟩):=f.1
       have hc:=(rS.ext he).cell (j:=1) rfl
       go_wp
       exact zaa (r:=za1 _ _ _ _) ⟨rfl,fun h=>by simp at h⟩ (Ext.refl _)
      ·intro x' W' he f
       have h:x' 9 = .pointer (some ⟨W.heap.size,0,none⟩):=f.1
       have c0:=(r9d.ext he).cell (j:=0) rfl
       have c1:=(r9d.ext he).cell (j:=1) rfl
       have c2:=(r9d.ext he).cell (j:=2) rfl
       have c3:=(r9d.ext he).cell (j:=3) rfl
       have c4:=(r9d.ext he).cell (j:=4) rfl
       have c5:=(r9d.ext he).cell (j:=5) rfl
       have c6:=(r9d.ext he).cell (j:=6) rfl
       go_wp
       exact zaa (r:=za1 _ _ _ _) ⟨rfl,fun h=>by simp at h⟩ (Ext.refl _)
      ·intro x' W' he f
       have h:x' 10 = .pointer (some ⟨W.heap.size+1,0,none⟩):=f.1
       have c0:=(r10d.ext he).cell (j:=0) rfl
       have c1:=(r10d.ext he).cell (j:=1) rfl
       have c2:=(r10d.ext he).cell (j:=2) rfl
       have c3:=(r10d.ext he).cell (j:=3) rfl
       have c4:=(r10d.ext he).cell (j:=4) rfl
       have c5:=(r10d.ext he).cell (j:=5) rfl
       have c6:=(r10d.ext he).cell (j:=6) rfl
       go_wp
       exact zaa (r:=za1 _ _ _ _) ⟨rfl,fun h=>by simp at h⟩ (Ext.refl _)
      ·intro x' W' he f
       have h59:x' 59=entV zad (.slice none 0 0) (.slice none 0 0) (.slice none 0 0):=f.1
       have h60:x' 60=entV zad (.slice none 0 0) (.slice none 0 0) (.slice none 0 0):=f.2.1
       have hs:=he.size
       have HC:=Lib.hid (zgs (HAd.out.ext he) (HBd2.out.ext he) hsm1 hsm2)
       rw [← hJ] at HC
       clear hJ
       go_wp
       refine HC.out.mono ?_
       rintro r W6 ⟨u1,u2,u3,rfl,hn,hx2⟩
       dsimp only
       go_wp
       exact zaa (v:=entV J u1 u2 u3) (r:=za1 _ _ _ _) ⟨⟨u1,u2,u3,rfl,hn.lower hs⟩,fun h=>by simp at h⟩ hx2
      ·intro x' W' he f
       obtain⟨u1,u2,u3,h,hn⟩:∃ u1 u2 u3,x' 61=entV J u1 u2 u3∧EntNew W' Wd.heap.size J u1 u2 u3:=f.1
       have hs:=he.size
       obtain⟨D1,d1,rfl,-,-⟩:=hn.seen.form
       obtain⟨D2,d2,rfl,-,-⟩:=hn.counts.form
       obtain⟨D3,d3,rfl,-,-⟩:=hn.items.form
       have hrow:=zac W' 37 (entL J (.slice D1 J.seen.length d1) (.slice D2 J.counts.length d2) (.slice D3 J.items.length d3))
       have hxa:=(Ext.refl W').alloc (.cells (entL J (.slice D1 J.seen.length d1) (.slice D2 J.counts.length d2) (.slice D3 J.items.length d3)).toArray 37)
       clear hJ
       go_wp
       exact zaa (v:=.slice (some ⟨W'.heap.size,0,none⟩) 1 1) (r:=za1 _ _ _ _) ⟨⟨W'.heap.size,_,_,_,rfl,hs,hrow,hn.ext hxa⟩,fun h=>by simp at h⟩ hxa
     case hend =>
      intro x' W' he hap f
      have h58:x' 58 = .slice AE pre.length cE:=f.2.1
      obtain⟨k,u1,u2,u3,h62,hk,hrow,hn⟩:∃ h u1 u2 u3,x' 62 = .slice (some ⟨h,0,none⟩) 1 1∧Wd.heap.size≤h∧RowIs W' h 37 (entL J u1 u2 u3) []∧EntNew W' Wd.heap.size J u1 u2 u3:=f.2.2.2.2.2.1
      clear f hap hJ
      have hs:=he.size
      simp only [List.length_cons,List.length_nil,Nat.reduceAdd,List.take_succ_cons,List.take_zero,List.filterMap_cons,List.filterMap_nil,List.drop_succ_cons,List.drop_zero,zaz,Act.put,List.setIfInBounds_toArray,List.set_cons_succ,List.set_cons_zero,h58,h62]
      have hone:=zeh (hn.rd (S:=fun _=>True) (fun _ _ _=>trivial))
      have hEl:∀ b,zae (.slice AE pre.length cE) b→b < Wd.heap.size:=fun b hb=>(hEd.base_le hb).2
      have hEb:∀ b,zae (.slice AE pre.length cE) b→W4.heap.size≤b:=fun b hb=>(hEd.base_le hb).1
      obtain⟨L0,hL0⟩:∃ L0,L0=pre.map (fun k=>zba (getE se k) (getE te k)):=⟨_,rfl⟩
      have hlen:L0.length=pre.length:=by rw [hL0,List.length_map]
      have hEd2:=hEd.ext he
      rw [← hL0] at hEd2
      obtain⟨vss,y1,y2,y3⟩:=hEd2
      rw [hlen] at y3
      have rSe:=rS.ext he
      have hnS:¬ zae (.slice AE pre.length cE) W1.heap.size:=fun hb=>by have:=hEb _ hb;omega
      have HL:=Lib.hid (show (pre++[x]).map (fun k=>zba (getE se k) (getE te k))=L0++[J] from by rw [List.map_append,← hL0];simp only [List.map_cons,List.map_nil,HEd1.out,HEd2.out,HJe.out])
      have HS2:=Lib.hid (show _∧_ from ⟨y1,y2⟩)
      have HNN:=Lib.hid hn
      clear y1 y2 hL0 HEd1 HEd2
      refine zah rfl (.tmp 58) (.tmp 62) 27 rfl W4.heap.size 37 7 120 zeroEnt Tryz.underlying27 zby rfl (by omega) (.slice AE pre.length cE) pre.length vss.flatten (by simp [go_sem]) y3 (some ⟨k,0,none⟩) 1 1 (entL J u1 u2 u3) (by simp [go_sem])
       ⟨by simp,hone,fun _=>⟨k,0,rfl,fun j u hj=>by rw [Nat.zero_add];exact hrow.cell hj⟩⟩ (by omega) (by omega) (by omega) ?_
      intro v' w' hown hgr
      have hE2:RowE w' W4.heap.size W1.heap.size v' (L0++[J]):=RowE.snoc HS2.out.1 HS2.out.2 HNN.out hEl hgl (by omega) (by rw [hlen];exact hown) hgr
      have hF:=hE2.form
      rw [show (L0++[J]).length=pre.length+1 by rw [List.length_append,hlen];rfl] at hF
      obtain⟨AF,cF,rfl,-,-⟩:=hF
      have rSw:=rSe.keep (hgr.same _ rSe.lt hnS)
      have hc:=rSw.cell (j:=1) rfl
      have hf:=rSw.frozen 1
      have rS2:=rSw.set (j:=1) (by simp) (.slice AF (pre.length+1) cF)
      simp only [List.set_cons_succ,List.set_cons_zero] at rS2
      have hO2:=((HOx.out.ext (hxd.trans he)).grew hgr hEb).set (j:=1) (.slice AF (pre.length+1) cF)
      have hko:=((hxd.trans he).keepsO.trans (hgr.keeps y3)).trans (KeepsOthers.setCell w' ⟨W1.heap.size,1,none⟩ (.slice AF (pre.length+1) cF))
      have hE3:=hE2.set (j:=1) (u:=.slice AF (pre.length+1) cF) rSw (by decide)
      have HF:=Lib.hid (show _∧_∧_∧_ from ⟨rS2,hO2,hko,hE3⟩)
      clear rS2 hO2 hko hE3 hE2 hgr hown HS2 HNN hn hrow y3 rSe rSw hEd rS hone r9d r10d HAd HBd2 HBd
      go_wp
      obtain⟨rS2,hO2,hko,hE3⟩:=HF.out
      exact⟨hko.from _,HOx.out.kps hO2 hko.size,_,rS2,by rw [HL.out];exact hE3,hO2⟩
    | some jb =>
     rw [hfb0] at hlk2 hspb
     obtain⟨preb,mb,postb,hlb,hjb,hkb,hfb⟩:=hspb
     simp only [Option.map_some,Option.getD_some,Option.isSome_some] at hlk2
     obtain⟨bb,ob,wb1,wb2,wb3,e,eb0,eb1,eb2,eb3,eb4,eb5,eb6,hEBb⟩:=HEB.out preb postb mb hlb
     subst e
     obtain⟨Cb1,cb1,rfl,-,-⟩:=hEBb.seen.form
     obtain⟨Cb2,cb2,rfl,-,-⟩:=hEBb.counts.form
     obtain⟨Cb3,cb3,rfl,-,-⟩:=hEBb.items.form
     have hltb:preb.length < te.length:=by rw [hlb];simp
     have hmb:mb ∈ te:=by rw [hlb];simp
     subst hjb
     have HEd2:=Lib.hid (show getE te x=mb from by unfold getE;rw [hfb];rfl)
     have hsm2:=SM2.out.each mb hmb
     have sb0:=r10c.cell (j:=0) rfl
     have sb1:=r10c.cell (j:=1) rfl
     have sb2:=r10c.cell (j:=2) rfl
     have sb3:=r10c.cell (j:=3) rfl
     have sb4:=r10c.cell (j:=4) rfl
     have sb5:=r10c.cell (j:=5) rfl
     have sb6:=r10c.cell (j:=6) rfl
     have fb0:=r10c.frozen 0
     have fb1:=r10c.frozen 1
     have fb2:=r10c.frozen 2
     have fb3:=r10c.frozen 3
     have fb4:=r10c.frozen 4
     have fb5:=r10c.frozen 5
     have fb6:=r10c.frozen 6
     have r10d:RowIs ((((((((Wc).setCell ⟨W.heap.size+1,0,none⟩ (St mb.key)).setCell ⟨W.heap.size+1,1,none⟩ (.slice Cb1 mb.seen.length cb1)).setCell ⟨W.heap.size+1,2,none⟩ (.slice Cb2 mb.counts.length cb2)).setCell ⟨W.heap.size+1,3,none⟩ (.slice Cb3 mb.items.length cb3)).setCell ⟨W.heap.size+1,4,none⟩ (U mb.cell.1)).setCell ⟨W.heap.size+1,5,none⟩ (St mb.cell.2.1)).setCell ⟨W.heap.size+1,6,none⟩ (.bool mb.cell.2.2)) _ _ _ _:=zih (e0:=zad) (a1:=.slice none 0 0) (a2:=.slice none 0 0) (a3:=.slice none 0 0) (e:=mb) (v1:=(.slice Cb1 mb.seen.length cb1)) (v2:=(.slice Cb2 mb.counts.length cb2)) (v3:=(.slice Cb3 mb.items.length cb3)) r10c
     have r9d:RowIs ((((((((Wc).setCell ⟨W.heap.size+1,0,none⟩ (St mb.key)).setCell ⟨W.heap.size+1,1,none⟩ (.slice Cb1 mb.seen.length cb1)).setCell ⟨W.heap.size+1,2,none⟩ (.slice Cb2 mb.counts.length cb2)).setCell ⟨W.heap.size+1,3,none⟩ (.slice Cb3 mb.items.length cb3)).setCell ⟨W.heap.size+1,4,none⟩ (U mb.cell.1)).setCell ⟨W.heap.size+1,5,none⟩ (St mb.cell.2.1)).setCell ⟨W.heap.size+1,6,none⟩ (.bool mb.cell.2.2)) _ _ _ _:=r9c.keep (zdy _ _ mb (.slice Cb1 mb.seen.length cb1) (.slice Cb2 mb.counts.length cb2) (.slice Cb3 mb.items.length cb3) _ (by omega))
     have hxd:Ext W ((((((((Wc).setCell ⟨W.heap.size+1,0,none⟩ (St mb.key)).setCell ⟨W.heap.size+1,1,none⟩ (.slice Cb1 mb.seen.length cb1)).setCell ⟨W.heap.size+1,2,none⟩ (.slice Cb2 mb.counts.length cb2)).setCell ⟨W.heap.size+1,3,none⟩ (.slice Cb3 mb.items.length cb3)).setCell ⟨W.heap.size+1,4,none⟩ (U mb.cell.1)).setCell ⟨W.heap.size+1,5,none⟩ (St mb.cell.2.1)).setCell ⟨W.heap.size+1,6,none⟩ (.bool mb.cell.2.2)):=za7 hxc (by omega) mb _ _ _
     have HBd:=hEBb
     skip
     have HR9:=Lib.hid (show _∧_∧_∧_ from ⟨r9d,r10d,hxd,HBd⟩)
     clear hlb hkb hfb0 hfb hEBb r9c r10c hxc r9d r10d hxd HBd HEB
     gi_wp2_with fail
     refine HK9.out _ _ ?_
     clear HK9 K9 q7 qb hlk2 eb0 eb1 eb2 eb3 eb4 eb5 eb6 sb0 sb1 sb2 sb3 sb4 sb5 sb6 fb0 fb1 fb2 fb3 fb4 fb5 fb6
     generalize ((((((((Wc).setCell ⟨W.heap.size+1,0,none⟩ (St mb.key)).setCell ⟨W.heap.size+1,1,none⟩ (.slice Cb1 mb.seen.length cb1)).setCell ⟨W.heap.size+1,2,none⟩ (.slice Cb2 mb.counts.length cb2)).setCell ⟨W.heap.size+1,3,none⟩ (.slice Cb3 mb.items.length cb3)).setCell ⟨W.heap.size+1,4,none⟩ (U mb.cell.1)).setCell ⟨W.heap.size+1,5,none⟩ (St mb.cell.2.1)).setCell ⟨W.heap.size+1,6,none⟩ (.bool mb.cell.2.2))=Wd at *
     obtain⟨r9d,r10d,hxd,HBd⟩:=HR9.out
     clear HR9
     have rS:=HSx.out.ext hxd
     have hEd:=HEx.out.ext hxd
     have HAd:=Lib.hid (HAc.out.ext hxd)
     have HBd2:=Lib.hid (HBd.ext hxd)
     have hgl:=rS.lt
     have hxz:=hxd.size
     obtain⟨J,hJ⟩:∃ J,J=zba zad mb:=⟨_,rfl⟩
     have HJe:=Lib.hid hJ
     refine zc0 [fun v _=>v = .pointer (some ⟨W1.heap.size,1,none⟩),fun v _=>v = .slice AE pre.length cE,fun v _=>v=entV zad (.slice none 0 0) (.slice none 0 0) (.slice none 0 0),fun v _=>v=entV mb (.slice Cb1 mb.seen.length cb1) (.slice Cb2 mb.counts.length cb2) (.slice Cb3 mb.items.length cb3),
      fun v W'=>∃ u1 u2 u3,v=entV J u1 u2 u3∧EntNew W' Wd.heap.size J u1 u2 u3,fun v W'=>∃ h u1 u2 u3,v = .slice (some ⟨h,0,none⟩) 1 1∧Wd.heap.size≤h∧RowIs W' h 37 (entL J u1 u2 u3) []∧EntNew W' Wd.heap.size J u1 u2 u3] []
      rfl (by rintro⟨a,w,h⟩;exact h) (by intro o ho c;simp only [List.mem_cons,List.not_mem_nil,or_false] at ho;rcases ho with rfl | rfl | rfl | rfl | rfl | rfl | rfl | rfl | rfl <;> (intro h;cases h)) (by kernel_rfl) (by kernel_rfl) ?hR ?hstep ?hend
     case hR =>
      simp only [List.mem_cons,List.not_mem_nil,or_false,forall_eq_or_imp,forall_eq]
      exact⟨fun v _ _ h _=>h,fun v _ _ h _=>h,fun v _ _ h _=>h,fun v _ _ h _=>h,fun v _ _ h he=>by obtain⟨u1,u2,u3,e,z⟩:=h;exact⟨u1,u2,u3,e,z.ext he⟩,fun v _ _ h he=>by obtain⟨k,u1,u2,u3,e,z,b,c⟩:=h;exact⟨k,u1,u2,u3,e,z,b.ext he,c.ext he⟩⟩
     case hstep =>
      simp only [List.length_cons,List.length_nil,Nat.reduceAdd,List.take_succ_cons,List.take_zero,zcm,and_true]
      refine ⟨?_,?_,?_,?_,?_,?_⟩
      ·intro x' W' he f
       have h:x' 5 = .pointer (some ⟨W1.heap.size,0,none⟩):=f.1
       go_wp
       exact zaa (r:=za1 _ _ _ _) ⟨rfl,fun h=>by simp at h⟩ (Ext.refl _)
      ·intro x' W' he f
       have h:x' 57 = .pointer (some ⟨W1.heap.size,1,none⟩):=f.1
       have hc:=(rS.ext he).cell (j:=1) rfl
       go_wp
       exact zaa (r:=za1 _ _ _ _) ⟨rfl,fun h=>by simp at h⟩ (Ext.refl _)
      ·intro x' W' he f
       have h:x' 9 = .pointer (some ⟨W.heap.size,0,none⟩):=f.1
       have c0:=(r9d.ext he).cell (j:=0) rfl
       have c1:=(r9d.ext he).cell (j:=1) rfl
       have c2:=(r9d.ext he).cell (j:=2) rfl
       have c3:=(r9d.ext he).cell (j:=3) rfl
       have c4:=(r9d.ext he).cell (j:=4) rfl
       have c5:=(r9d.ext he).cell (j:=5) rfl
       have c6:=(r9d.ext he).cell (j:=6) rfl
       go_wp
       exact zaa (r:=za1 _ _ _ _) ⟨rfl,fun h=>by simp at h⟩ (Ext.refl _)
      ·intro x' W' he f
       have h:x' 10 = .pointer (some ⟨W.heap.size+1,0,none⟩):=f.1
       have c0:=(r10d.ext he).cell (j:=0) rfl
       have c1:=(r10d.ext he).cell (j:=1) rfl
       have c2:=(r10d.ext he).cell (j:=2) rfl
       have c3:=(r10d.ext he).cell (j:=3) rfl
       have c4:=(r10d.ext he).cell (j:=4) rfl
       have c5:=(r10d.ext he).cell (j:=5) rfl
       have c6:=(r10d.ext he).cell (j:=6) rfl
       go_wp
       exact zaa (r:=za1 _ _ _ _) ⟨rfl,fun h=>by simp at h⟩ (Ext.refl _)
      ·intro x' W' he f
       have h59:x' 59=entV zad (.slice none 0 0) (.slice none 0 0) (.slice none 0 0):=f.1
       have h60:x' 60=entV mb (.slice Cb1 mb.seen.length cb1) (.slice Cb2 mb.counts.length cb2) (.slice Cb3 mb.items.length cb3):=f.2.1
       have hs:=he.size
       have HC:=Lib.hid (zgs (HAd.out.ext he) (HBd2.out.ext he) hsm1 hsm2)
       rw [← hJ] at HC
       clear hJ
       go_wp
       refine HC.out.mono ?_
       rintro r W6 ⟨u1,u2,u3,rfl,hn,hx2⟩
       dsimp only
       go_wp
       exact zaa (v:=entV J u1 u2 u3) (r:=za1 _ _ _ _) ⟨⟨u1,u2,u3,rfl,hn.lower hs⟩,fun h=>by simp at h⟩ hx2
      ·intro x' W' he f
       obtain⟨u1,u2,u3,h,hn⟩:∃ u1 u2 u3,x' 61=entV J u1 u2 u3∧EntNew W' Wd.heap.size J u1 u2 u3:=f.1
       have hs:=he.size
       obtain⟨D1,d1,rfl,-,-⟩:=hn.seen.form
       obtain⟨D2,d2,rfl,-,-⟩:=hn.counts.form
       obtain⟨D3,d3,rfl,-,-⟩:=hn.items.form
       have hrow:=zac W' 37 (entL J (.slice D1 J.seen.length d1) (.slice D2 J.counts.length d2) (.slice D3 J.items.length d3))
       have hxa:=(Ext.refl W').alloc (.cells (entL J (.slice D1 J.seen.length d1) (.slice D2 J.counts.length d2) (.slice D3 J.items.length d3)).toArray 37)
       clear hJ
       go_wp
       exact zaa (v:=.slice (some ⟨W'.heap.size,0,none⟩) 1 1) (r:=za1 _ _ _ _) ⟨⟨W'.heap.size,_,_,_,rfl,hs,hrow,hn.ext hxa⟩,fun h=>by simp at h⟩ hxa
     case hend =>
      intro x' W' he hap f
      have h58:x' 58 = .slice AE pre.length cE:=f.2.1
      obtain⟨k,u1,u2,u3,h62,hk,hrow,hn⟩:∃ h u1 u2 u3,x' 62 = .slice (some ⟨h,0,none⟩) 1 1∧Wd.heap.size≤h∧RowIs W' h 37 (entL J u1 u2 u3) []∧EntNew W' Wd.heap.size J u1 u2 u3:=f.2.2.2.2.2.1
      clear f hap hJ
      have hs:=he.size
      simp only [List.length_cons,List.length_nil,Nat.reduceAdd,List.take_succ_cons,List.take_zero,List.filterMap_cons,List.filterMap_nil,List.drop_succ_cons,List.drop_zero,zaz,Act.put,List.setIfInBounds_toArray,List.set_cons_succ,List.set_cons_zero,h58,h62]
      have hone:=zeh (hn.rd (S:=fun _=>True) (fun _ _ _=>trivial))
      have hEl:∀ b,zae (.slice AE pre.length cE) b→b < Wd.heap.size:=fun b hb=>(hEd.base_le hb).2
      have hEb:∀ b,zae (.slice AE pre.length cE) b→W4.heap.size≤b:=fun b hb=>(hEd.base_le hb).1
      obtain⟨L0,hL0⟩:∃ L0,L0=pre.map (fun k=>zba (getE se k) (getE te k)):=⟨_,rfl⟩
      have hlen:L0.length=pre.length:=by rw [hL0,List.length_map]
      have hEd2:=hEd.ext he
      rw [← hL0] at hEd2
      obtain⟨vss,y1,y2,y3⟩:=hEd2
      rw [hlen] at y3
      have rSe:=rS.ext he
      have hnS:¬ zae (.slice AE pre.length cE) W1.heap.size:=fun hb=>by have:=hEb _ hb;omega
      have HL:=Lib.hid (show (pre++[x]).map (fun k=>zba (getE se k) (getE te k))=L0++[J] from by rw [List.map_append,← hL0];simp only [List.map_cons,List.map_nil,HEd1.out,HEd2.out,HJe.out])
      have HS2:=Lib.hid (show _∧_ from ⟨y1,y2⟩)
      have HNN:=Lib.hid hn
      clear y1 y2 hL0 HEd1 HEd2
      refine zah rfl (.tmp 58) (.tmp 62) 27 rfl W4.heap.size 37 7 120 zeroEnt Tryz.underlying27 zby rfl (by omega) (.slice AE pre.length cE) pre.length vss.flatten (by simp [go_sem]) y3 (some ⟨k,0,none⟩) 1 1 (entL J u1 u2 u3) (by simp [go_sem])
       ⟨by simp,hone,fun _=>⟨k,0,rfl,fun j u hj=>by rw [Nat.zero_add];exact hrow.cell hj⟩⟩ (by omega) (by omega) (by omega) ?_
      intro v' w' hown hgr
      have hE2:RowE w' W4.heap.size W1.heap.size v' (L0++[J]):=RowE.snoc HS2.out.1 HS2.out.2 HNN.out hEl hgl (by omega) (by rw [hlen];exact hown) hgr
      have hF:=hE2.form
      rw [show (L0++[J]).length=pre.length+1 by rw [List.length_append,hlen];rfl] at hF
      obtain⟨AF,cF,rfl,-,-⟩:=hF
      have rSw:=rSe.keep (hgr.same _ rSe.lt hnS)
      have hc:=rSw.cell (j:=1) rfl
      have hf:=rSw.frozen 1
      have rS2:=rSw.set (j:=1) (by simp) (.slice AF (pre.length+1) cF)
      simp only [List.set_cons_succ,List.set_cons_zero] at rS2
      have hO2:=((HOx.out.ext (hxd.trans he)).grew hgr hEb).set (j:=1) (.slice AF (pre.length+1) cF)
      have hko:=((hxd.trans he).keepsO.trans (hgr.keeps y3)).trans (KeepsOthers.setCell w' ⟨W1.heap.size,1,none⟩ (.slice AF (pre.length+1) cF))
      have hE3:=hE2.set (j:=1) (u:=.slice AF (pre.length+1) cF) rSw (by decide)
      have HF:=Lib.hid (show _∧_∧_∧_ from ⟨rS2,hO2,hko,hE3⟩)
      clear rS2 hO2 hko hE3 hE2 hgr hown HS2 HNN hn hrow y3 rSe rSw hEd rS hone r9d r10d HAd HBd2 HBd
      go_wp
      obtain⟨rS2,hO2,hko,hE3⟩:=HF.out
      exact⟨hko.from _,HOx.out.kps hO2 hko.size,_,rS2,by rw [HL.out];exact hE3,hO2⟩
   | some ja =>
    rw [hfa0] at hlk1 hspa
    obtain⟨prea,ma,posta,hla,hja,hka,hfa⟩:=hspa
    simp only [Option.map_some,Option.getD_some,Option.isSome_some] at hlk1
    obtain⟨ba,oa,wa1,wa2,wa3,e,ea0,ea1,ea2,ea3,ea4,ea5,ea6,hEAa⟩:=HEA.out prea posta ma hla
    subst e
    obtain⟨Ca1,ca1,rfl,-,-⟩:=hEAa.seen.form
    obtain⟨Ca2,ca2,rfl,-,-⟩:=hEAa.counts.form
    obtain⟨Ca3,ca3,rfl,-,-⟩:=hEAa.items.form
    have hlta:prea.length < se.length:=by rw [hla];simp
    have hma:ma ∈ se:=by rw [hla];simp
    subst hja
    have HEd1:=Lib.hid (show getE se x=ma from by unfold getE;rw [hfa];rfl)
    have hsm1:=SM1.out.each ma hma
    have sa0:=r9.cell (j:=0) rfl
    have sa1:=r9.cell (j:=1) rfl
    have sa2:=r9.cell (j:=2) rfl
    have sa3:=r9.cell (j:=3) rfl
    have sa4:=r9.cell (j:=4) rfl
    have sa5:=r9.cell (j:=5) rfl
    have sa6:=r9.cell (j:=6) rfl
    have fa0:=r9.frozen 0
    have fa1:=r9.frozen 1
    have fa2:=r9.frozen 2
    have fa3:=r9.frozen 3
    have fa4:=r9.frozen 4
    have fa5:=r9.frozen 5
    have fa6:=r9.frozen 6
    have r9c:RowIs ((((((((Wb).setCell ⟨W.heap.size,0,none⟩ (St ma.key)).setCell ⟨W.heap.size,1,none⟩ (.slice Ca1 ma.seen.length ca1)).setCell ⟨W.heap.size,2,none⟩ (.slice Ca2 ma.counts.length ca2)).setCell ⟨W.heap.size,3,none⟩ (.slice Ca3 ma.items.length ca3)).setCell ⟨W.heap.size,4,none⟩ (U ma.cell.1)).setCell ⟨W.heap.size,5,none⟩ (St ma.cell.2.1)).setCell ⟨W.heap.size,6,none⟩ (.bool ma.cell.2.2)) _ _ _ _:=zih (e0:=zad) (a1:=.slice none 0 0) (a2:=.slice none 0 0) (a3:=.slice none 0 0) (e:=ma) (v1:=(.slice Ca1 ma.seen.length ca1)) (v2:=(.slice Ca2 ma.counts.length ca2)) (v3:=(.slice Ca3 ma.items.length ca3)) r9
    have r10c:RowIs ((((((((Wb).setCell ⟨W.heap.size,0,none⟩ (St ma.key)).setCell ⟨W.heap.size,1,none⟩ (.slice Ca1 ma.seen.length ca1)).setCell ⟨W.heap.size,2,none⟩ (.slice Ca2 ma.counts.length ca2)).setCell ⟨W.heap.size,3,none⟩ (.slice Ca3 ma.items.length ca3)).setCell ⟨W.heap.size,4,none⟩ (U ma.cell.1)).setCell ⟨W.heap.size,5,none⟩ (St ma.cell.2.1)).setCell ⟨W.heap.size,6,none⟩ (.bool ma.cell.2.2)) _ _ _ _:=r10.keep (zdy _ _ ma (.slice Ca1 ma.seen.length ca1) (.slice Ca2 ma.counts.length ca2) (.slice Ca3 ma.items.length ca3) _ (by omega))
    have hxc:Ext W ((((((((Wb).setCell ⟨W.heap.size,0,none⟩ (St ma.key)).setCell ⟨W.heap.size,1,none⟩ (.slice Ca1 ma.seen.length ca1)).setCell ⟨W.heap.size,2,none⟩ (.slice Ca2 ma.counts.length ca2)).setCell ⟨W.heap.size,3,none⟩ (.slice Ca3 ma.items.length ca3)).setCell ⟨W.heap.size,4,none⟩ (U ma.cell.1)).setCell ⟨W.heap.size,5,none⟩ (St ma.cell.2.1)).setCell ⟨W.heap.size,6,none⟩ (.bool ma.cell.2.2)):=za7 hxb (by omega) ma _ _ _
    have HAc:=Lib.hid hEAa
    have HR6:=Lib.hid (show _∧_∧_ from ⟨r9c,r10c,hxc⟩)
    clear hla hka hfa0 hfa hEAa r9c r10c hxc r9 r10 HEA
    gi_wp2_with fail
    refine HK6.out _ _ ?_
    clear HK6 K6 q6 qa hlk1 ea0 ea1 ea2 ea3 ea4 ea5 ea6 sa0 sa1 sa2 sa3 sa4 sa5 sa6 fa0 fa1 fa2 fa3 fa4 fa5 fa6
    generalize ((((((((Wb).setCell ⟨W.heap.size,0,none⟩ (St ma.key)).setCell ⟨W.heap.size,1,none⟩ (.slice Ca1 ma.seen.length ca1)).setCell ⟨W.heap.size,2,none⟩ (.slice Ca2 ma.counts.length ca2)).setCell ⟨W.heap.size,3,none⟩ (.slice Ca3 ma.items.length ca3)).setCell ⟨W.heap.size,4,none⟩ (U ma.cell.1)).setCell ⟨W.heap.size,5,none⟩ (St ma.cell.2.1)).setCell ⟨W.heap.size,6,none⟩ (.bool ma.cell.2.2))=Wc at *
    obtain⟨r9c,r10c,hxc⟩:=HR6.out
    clear HR6
    refine wpIn_seq_k ?_
    intro K9 hK9
    have HK9:=Lib.hid hK9
    clear hK9
    have q7:=(HR.out.2.1.ext hxc).cell (j:=0) rfl
    have qb:=(HR.out.2.2.2.1.ext hxc).cell (j:=1) rfl
    have hlk2:=(za3 (P:=Tryz.prog) (z:=0) Tryz.underlying112 zc4 zin (HR.out.2.2.2.2.2.ext hxc) x).2
    rw [zem,show ∀ L:List (Str × Int),getL 0 L x=(zb5 L x).getD 0 from fun _=>rfl,ze1 te 0 [] x] at hlk2
    simp only [show zb5 ([]:List (Str × Int)) x=none from rfl,Nat.zero_add] at hlk2
    have HEB:=Lib.hid (fun (pre post:List Entry) (m:Entry) (hl:te=pre++m :: post)=>zb0 EB hxc hl)
    clear EB
    cases hfb0:te.findIdx? (fun e=>decide (e.key=x)) with
    | none =>
     rw [hfb0] at hlk2 hspb
     simp only at hspb
     simp only [Option.map_none,Option.getD_none,Option.isSome_none] at hlk2
     have HEd2:=Lib.hid (show getE te x=zad from by unfold getE;rw [hspb];rfl)
     clear hspb hfb0
     gi_wp2_with fail
     refine HK9.out _ _ ?_
     clear HK9 K9 q7 qb hlk2 HEB
     have HBd:=EntAt.none W (fun b=>b < w.heap.size) none none none
     have hsm2:=zfw
     have r10d:=r10c
     have r9d:=r9c
     have hxd:=hxc
     clear r9c r10c hxc
     obtain⟨Wd,rfl⟩:∃ Wd,Wd=Wc:=⟨_,rfl⟩
     have rS:=HSx.out.ext hxd
     have hEd:=HEx.out.ext hxd
     have HAd:=Lib.hid (HAc.out.ext hxd)
     have HBd2:=Lib.hid (HBd.ext hxd)
     have hgl:=rS.lt
     have hxz:=hxd.size
     obtain⟨J,hJ⟩:∃ J,J=zba ma zad:=⟨_,rfl⟩
     have HJe:=Lib.hid hJ
     refine zc0 [fun v _=>v = .pointer (some ⟨W1.heap.size,1,none⟩),fun v _=>v = .slice AE pre.length cE,fun v _=>v=entV ma (.slice Ca1 ma.seen.length ca1) (.slice Ca2 ma.counts.length ca2) (.slice Ca3 ma.items.length ca3),fun v _=>v=entV zad (.slice none 0 0) (.slice none 0 0) (.slice none 0 0),
      fun v W'=>∃ u1 u2 u3,v=entV J u1 u2 u3∧EntNew W' Wd.heap.size J u1 u2 u3,fun v W'=>∃ h u1 u2 u3,v = .slice (some ⟨h,0,none⟩) 1 1∧Wd.heap.size≤h∧RowIs W' h 37 (entL J u1 u2 u3) []∧EntNew W' Wd.heap.size J u1 u2 u3] []
      rfl (by rintro⟨a,w,h⟩;exact h) (by intro o ho c;simp only [List.mem_cons,List.not_mem_nil,or_false] at ho;rcases ho with rfl | rfl | rfl | rfl | rfl | rfl | rfl | rfl | rfl <;> (intro h;cases h)) (by kernel_rfl) (by kernel_rfl) ?hR ?hstep ?hend
     case hR =>
      simp only [List.mem_cons,List.not_mem_nil,or_false,forall_eq_or_imp,forall_eq]
      exact⟨fun v _ _ h _=>h,fun v _ _ h _=>h,fun v _ _ h _=>h,fun v _ _ h _=>h,fun v _ _ h he=>by obtain⟨u1,u2,u3,e,z⟩:=h;exact⟨u1,u2,u3,e,z.ext he⟩,fun v _ _ h he=>by obtain⟨k,u1,u2,u3,e,z,b,c⟩:=h;exact⟨k,u1,u2,u3,e,z,b.ext he,c.ext he⟩⟩
     case hstep =>
      simp only [List.length_cons,List.length_nil,Nat.reduceAdd,List.take_succ_cons,List.take_zero,zcm,and_true]
      refine ⟨?_,?_,?_,?_,?_,?_⟩
      ·intro x' W' he f
       have h:x' 5 = .pointer (some ⟨W1.heap.size,0,none⟩):=f.1
       go_wp
       exact zaa (r:=za1 _ _ _ _) ⟨rfl,fun h=>by simp at h⟩ (Ext.refl _)
      ·intro x' W' he f
       have h:x' 57 = .pointer (some ⟨W1.heap.size,1,none⟩):=f.1
       have hc:=(rS.ext he).cell (j:=1) rfl
       go_wp
       exact zaa (r:=za1 _ _ _ _) ⟨rfl,fun h=>by simp at h⟩ (Ext.refl _)
      ·intro x' W' he f
       have h:x' 9 = .pointer (some ⟨W.heap.size,0,none⟩):=f.1
       have c0:=(r9d.ext he).cell (j:=0) rfl
       have c1:=(r9d.ext he).cell (j:=1) rfl
       have c2:=(r9d.ext he).cell (j:=2) rfl
       have c3:=(r9d.ext he).cell (j:=3) rfl
       have c4:=(r9d.ext he).cell (j:=4) rfl
       have c5:=(r9d.ext he).cell (j:=5) rfl
       have c6:=(r9d.ext he).cell (j:=6) rfl
       go_wp
       exact zaa (r:=za1 _ _ _ _) ⟨rfl,fun h=>by simp at h⟩ (Ext.refl _)
      ·intro x' W' he f
       have h:x' 10 = .pointer (some ⟨W.heap.size+1,0,none⟩):=f.1
       have c0:=(r10d.ext he).cell (j:=0) rfl
       have c1:=(r10d.ext he).cell (j:=1) rfl
       have c2:=(r10d.ext he).cell (j:=2) rfl
       have c3:=(r10d.ext he).cell (j:=3) rfl
       have c4:=(r10d.ext he).cell (j:=4) rfl
       have c5:=(r10d.ext he).cell (j:=5) rfl
       have c6:=(r10d.ext he).cell (j:=6) rfl
       go_wp
       exact zaa (r:=za1 _ _ _ _) ⟨rfl,fun h=>by simp at h⟩ (Ext.refl _)
      ·intro x' W' he f
       have h59:x' 59=entV ma (.slice Ca1 ma.seen.length ca1) (.slice Ca2 ma.counts.length ca2) (.slice Ca3 ma.items.length ca3):=f.1
       have h60:x' 60=entV zad (.slice none 0 0) (.slice none 0 0) (.slice none 0 0):=f.2.1
       have hs:=he.size
       have HC:=Lib.hid (zgs (HAd.out.ext he) (HBd2.out.ext he) hsm1 hsm2)
       rw [← hJ] at HC
       clear hJ
       go_wp
       refine HC.out.mono ?_
       rintro r W6 ⟨u1,u2,u3,rfl,hn,hx2⟩
       dsimp only
       go_wp
       exact zaa (v:=entV J u1 u2 u3) (r:=za1 _ _ _ _) ⟨⟨u1,u2,u3,rfl,hn.lower hs⟩,fun h=>by simp at h⟩ hx2
      ·intro x' W' he f
       obtain⟨u1,u2,u3,h,hn⟩:∃ u1 u2 u3,x' 61=entV J u1 u2 u3∧EntNew W' Wd.heap.size J u1 u2 u3:=f.1
       have hs:=he.size
       obtain⟨D1,d1,rfl,-,-⟩:=hn.seen.form
       obtain⟨D2,d2,rfl,-,-⟩:=hn.counts.form
       obtain⟨D3,d3,rfl,-,-⟩:=hn.items.form
       have hrow:=zac W' 37 (entL J (.slice D1 J.seen.length d1) (.slice D2 J.counts.length d2) (.slice D3 J.items.length d3))
       have hxa:=(Ext.refl W').alloc (.cells (entL J (.slice D1 J.seen.length d1) (.slice D2 J.counts.length d2) (.slice D3 J.items.length d3)).toArray 37)
       clear hJ
       go_wp
       exact zaa (v:=.slice (some ⟨W'.heap.size,0,none⟩) 1 1) (r:=za1 _ _ _ _) ⟨⟨W'.heap.size,_,_,_,rfl,hs,hrow,hn.ext hxa⟩,fun h=>by simp at h⟩ hxa
     case hend =>
      intro x' W' he hap f
      have h58:x' 58 = .slice AE pre.length cE:=f.2.1
      obtain⟨k,u1,u2,u3,h62,hk,hrow,hn⟩:∃ h u1 u2 u3,x' 62 = .slice (some ⟨h,0,none⟩) 1 1∧Wd.heap.size≤h∧RowIs W' h 37 (entL J u1 u2 u3) []∧EntNew W' Wd.heap.size J u1 u2 u3:=f.2.2.2.2.2.1
      clear f hap hJ
      have hs:=he.size
      simp only [List.length_cons,List.length_nil,Nat.reduceAdd,List.take_succ_cons,List.take_zero,List.filterMap_cons,List.filterMap_nil,List.drop_succ_cons,List.drop_zero,zaz,Act.put,List.setIfInBounds_toArray,List.set_cons_succ,List.set_cons_zero,h58,h62]
      have hone:=zeh (hn.rd (S:=fun _=>True) (fun _ _ _=>trivial))
      have hEl:∀ b,zae (.slice AE pre.length cE) b→b < Wd.heap.size:=fun b hb=>(hEd.base_le hb).2
      have hEb:∀ b,zae (.slice AE pre.length cE) b→W4.heap.size≤b:=fun b hb=>(hEd.base_le hb).1
      obtain⟨L0,hL0⟩:∃ L0,L0=pre.map (fun k=>zba (getE se k) (getE te k)):=⟨_,rfl⟩
      have hlen:L0.length=pre.length:=by rw [hL0,List.length_map]
      have hEd2:=hEd.ext he
      rw [← hL0] at hEd2
      obtain⟨vss,y1,y2,y3⟩:=hEd2
      rw [hlen] at y3
      have rSe:=rS.ext he
      have hnS:¬ zae (.slice AE pre.length cE) W1.heap.size:=fun hb=>by have:=hEb _ hb;omega
      have HL:=Lib.hid (show (pre++[x]).map (fun k=>zba (getE se k) (getE te k))=L0++[J] from by rw [List.map_append,← hL0];simp only [List.map_cons,List.map_nil,HEd1.out,HEd2.out,HJe.out])
      have HS2:=Lib.hid (show _∧_ from ⟨y1,y2⟩)
      have HNN:=Lib.hid hn
      clear y1 y2 hL0 HEd1 HEd2
      refine zah rfl (.tmp 58) (.tmp 62) 27 rfl W4.heap.size 37 7 120 zeroEnt Tryz.underlying27 zby rfl (by omega) (.slice AE pre.length cE) pre.length vss.flatten (by simp [go_sem]) y3 (some ⟨k,0,none⟩) 1 1 (entL J u1 u2 u3) (by simp [go_sem])
       ⟨by simp,hone,fun _=>⟨k,0,rfl,fun j u hj=>by rw [Nat.zero_add];exact hrow.cell hj⟩⟩ (by omega) (by omega) (by omega) ?_
      intro v' w' hown hgr
      have hE2:RowE w' W4.heap.size W1.heap.size v' (L0++[J]):=RowE.snoc HS2.out.1 HS2.out.2 HNN.out hEl hgl (by omega) (by rw [hlen];exact hown) hgr
      have hF:=hE2.form
      rw [show (L0++[J]).length=pre.length+1 by rw [List.length_append,hlen];rfl] at hF
      obtain⟨AF,cF,rfl,-,-⟩:=hF
      have rSw:=rSe.keep (hgr.same _ rSe.lt hnS)
      have hc:=rSw.cell (j:=1) rfl
      have hf:=rSw.frozen 1
      have rS2:=rSw.set (j:=1) (by simp) (.slice AF (pre.length+1) cF)
      simp only [List.set_cons_succ,List.set_cons_zero] at rS2
      have hO2:=((HOx.out.ext (hxd.trans he)).grew hgr hEb).set (j:=1) (.slice AF (pre.length+1) cF)
      have hko:=((hxd.trans he).keepsO.trans (hgr.keeps y3)).trans (KeepsOthers.setCell w' ⟨W1.heap.size,1,none⟩ (.slice AF (pre.length+1) cF))
      have hE3:=hE2.set (j:=1) (u:=.slice AF (pre.length+1) cF) rSw (by decide)
      have HF:=Lib.hid (show _∧_∧_∧_ from ⟨rS2,hO2,hko,hE3⟩)
      clear rS2 hO2 hko hE3 hE2 hgr hown HS2 HNN hn hrow y3 rSe rSw hEd rS hone r9d r10d HAd HBd2 HBd
      go_wp
      obtain⟨rS2,hO2,hko,hE3⟩:=HF.out
      exact⟨hko.from _,HOx.out.kps hO2 hko.size,_,rS2,by rw [HL.out];exact hE3,hO2⟩
    | some jb =>
     rw [hfb0] at hlk2 hspb
     obtain⟨preb,mb,postb,hlb,hjb,hkb,hfb⟩:=hspb
     simp only [Option.map_some,Option.getD_some,Option.isSome_some] at hlk2
     obtain⟨bb,ob,wb1,wb2,wb3,e,eb0,eb1,eb2,eb3,eb4,eb5,eb6,hEBb⟩:=HEB.out preb postb mb hlb
     subst e
     obtain⟨Cb1,cb1,rfl,-,-⟩:=hEBb.seen.form
     obtain⟨Cb2,cb2,rfl,-,-⟩:=hEBb.counts.form
     obtain⟨Cb3,cb3,rfl,-,-⟩:=hEBb.items.form
     have hltb:preb.length < te.length:=by rw [hlb];simp
     have hmb:mb ∈ te:=by rw [hlb];simp
     subst hjb
     have HEd2:=Lib.hid (show getE te x=mb from by unfold getE;rw [hfb];rfl)
     have hsm2:=SM2.out.each mb hmb
     have sb0:=r10c.cell (j:=0) rfl
     have sb1:=r10c.cell (j:=1) rfl
     have sb2:=r10c.cell (j:=2) rfl
     have sb3:=r10c.cell (j:=3) rfl
     have sb4:=r10c.cell (j:=4) rfl
     have sb5:=r10c.cell (j:=5) rfl
     have sb6:=r10c.cell (j:=6) rfl
     have fb0:=r10c.frozen 0
     have fb1:=r10c.frozen 1
     have fb2:=r10c.frozen 2
     have fb3:=r10c.frozen 3
     have fb4:=r10c.frozen 4
     have fb5:=r10c.frozen 5
     have fb6:=r10c.frozen 6
     have r10d:RowIs ((((((((Wc).setCell ⟨W.heap.size+1,0,none⟩ (St mb.key)).setCell ⟨W.heap.size+1,1,none⟩ (.slice Cb1 mb.seen.length cb1)).setCell ⟨W.heap.size+1,2,none⟩ (.slice Cb2 mb.counts.length cb2)).setCell ⟨W.heap.size+1,3,none⟩ (.slice Cb3 mb.items.length cb3)).setCell ⟨W.heap.size+1,4,none⟩ (U mb.cell.1)).setCell ⟨W.heap.size+1,5,none⟩ (St mb.cell.2.1)).setCell ⟨W.heap.size+1,6,none⟩ (.bool mb.cell.2.2)) _ _ _ _:=zih (e0:=zad) (a1:=.slice none 0 0) (a2:=.slice none 0 0) (a3:=.slice none 0 0) (e:=mb) (v1:=(.slice Cb1 mb.seen.length cb1)) (v2:=(.slice Cb2 mb.counts.length cb2)) (v3:=(.slice Cb3 mb.items.length cb3)) r10c
     have r9d:RowIs ((((((((Wc).setCell ⟨W.heap.size+1,0,none⟩ (St mb.key)).setCell ⟨W.heap.size+1,1,none⟩ (.slice Cb1 mb.seen.length cb1)).setCell ⟨W.heap.size+1,2,none⟩ (.slice Cb2 mb.counts.length cb2)).setCell ⟨W.heap.size+1,3,none⟩ (.slice Cb3 mb.items.length cb3)).setCell ⟨W.heap.size+1,4,none⟩ (U mb.cell.1)).setCell ⟨W.heap.size+1,5,none⟩ (St mb.cell.2.1)).setCell ⟨W.heap.size+1,6,none⟩ (.bool mb.cell.2.2)) _ _ _ _:=r9c.keep (zdy _ _ mb (.slice Cb1 mb.seen.length cb1) (.slice Cb2 mb.counts.length cb2) (.slice Cb3 mb.items.length cb3) _ (by omega))
     have hxd:Ext W ((((((((Wc).setCell ⟨W.heap.size+1,0,none⟩ (St mb.key)).setCell ⟨W.heap.size+1,1,none⟩ (.slice Cb1 mb.seen.length cb1)).setCell ⟨W.heap.size+1,2,none⟩ (.slice Cb2 mb.counts.length cb2)).setCell ⟨W.heap.size+1,3,none⟩ (.slice Cb3 mb.items.length cb3)).setCell ⟨W.heap.size+1,4,none⟩ (U mb.cell.1)).setCell ⟨W.heap.size+1,5,none⟩ (St mb.cell.2.1)).setCell ⟨W.heap.size+1,6,none⟩ (.bool mb.cell.2.2)):=za7 hxc (by omega) mb _ _ _
     have HBd:=hEBb
     skip
     have HR9:=Lib.hid (show _∧_∧_∧_ from ⟨r9d,r10d,hxd,HBd⟩)
     clear hlb hkb hfb0 hfb hEBb r9c r10c hxc r9d r10d hxd HBd HEB
     gi_wp2_with fail
     refine HK9.out _ _ ?_
     clear HK9 K9 q7 qb hlk2 eb0 eb1 eb2 eb3 eb4 eb5 eb6 sb0 sb1 sb2 sb3 sb4 sb5 sb6 fb0 fb1 fb2 fb3 fb4 fb5 fb6
     generalize ((((((((Wc).setCell ⟨W.heap.size+1,0,none⟩ (St mb.key)).setCell ⟨W.heap.size+1,1,none⟩ (.slice Cb1 mb.seen.length cb1)).setCell ⟨W.heap.size+1,2,none⟩ (.slice Cb2 mb.counts.length cb2)).setCell ⟨W.heap.size+1,3,none⟩ (.slice Cb3 mb.items.length cb3)).setCell ⟨W.heap.size+1,4,none⟩ (U mb.cell.1)).setCell ⟨W.heap.size+1,5,none⟩ (St mb.cell.2.1)).setCell ⟨W.heap.size+1,6,none⟩ (.bool mb.cell.2.2))=Wd at *
     obtain⟨r9d,r10d,hxd,HBd⟩:=HR9.out
     clear HR9
     have rS:=HSx.out.ext hxd
     have hEd:=HEx.out.ext hxd
     have HAd:=Lib.hid (HAc.out.ext hxd)
     have HBd2:=Lib.hid (HBd.ext hxd)
     have hgl:=rS.lt
     have hxz:=hxd.size
     obtain⟨J,hJ⟩:∃ J,J=zba ma mb:=⟨_,rfl⟩
     have HJe:=Lib.hid hJ
     refine zc0 [fun v _=>v = .pointer (some ⟨W1.heap.size,1,none⟩),fun v _=>v = .slice AE pre.length cE,fun v _=>v=entV ma (.slice Ca1 ma.seen.length ca1) (.slice Ca2 ma.counts.length ca2) (.slice Ca3 ma.items.length ca3),fun v _=>v=entV mb (.slice Cb1 mb.seen.length cb1) (.slice Cb2 mb.counts.length cb2) (.slice Cb3 mb.items.length cb3),
      fun v W'=>∃ u1 u2 u3,v=entV J u1 u2 u3∧EntNew W' Wd.heap.size J u1 u2 u3,fun v W'=>∃ h u1 u2 u3,v = .slice (some ⟨h,0,none⟩) 1 1∧Wd.heap.size≤h∧RowIs W' h 37 (entL J u1 u2 u3) []∧EntNew W' Wd.heap.size J u1 u2 u3] []
      rfl (by rintro⟨a,w,h⟩;exact h) (by intro o ho c;simp only [List.mem_cons,List.not_mem_nil,or_false] at ho;rcases ho with rfl | rfl | rfl | rfl | rfl | rfl | rfl | rfl | rfl <;> (intro h;cases h)) (by kernel_rfl) (by kernel_rfl) ?hR ?hstep ?hend
     case hR =>
      simp only [List.mem_cons,List.not_mem_nil,or_false,forall_eq_or_imp,forall_eq]
      exact⟨fun v _ _ h _=>h,fun v _ _ h _=>h,fun v _ _ h _=>h,fun v _ _ h _=>h,fun v _ _ h he=>by obtain⟨u1,u2,u3,e,z⟩:=h;exact⟨u1,u2,u3,e,z.ext he⟩,fun v _ _ h he=>by obtain⟨k,u1,u2,u3,e,z,b,c⟩:=h;exact⟨k,u1,u2,u3,e,z,b.ext he,c.ext he⟩⟩
     case hstep =>
      simp only [List.length_cons,List.length_nil,Nat.reduceAdd,List.take_succ_cons,List.take_zero,zcm,and_true]
      refine ⟨?_,?_,?_,?_,?_,?_⟩
      ·intro x' W' he f
       have h:x' 5 = .pointer (some ⟨W1.heap.size,0,none⟩):=f.1
       go_wp
       exact zaa (r:=za1 _ _ _ _) ⟨rfl,fun h=>by simp at h⟩ (Ext.refl _)
      ·intro x' W' he f
       have h:x' 57 = .pointer (some ⟨W1.heap.size,1,none⟩):=f.1
       have hc:=(rS.ext he).cell (j:=1) rfl
       go_wp
       exact zaa (r:=za1 _ _ _ _) ⟨rfl,fun h=>by simp at h⟩ (Ext.refl _)
      ·intro x' W' he f
       have h:x' 9 = .pointer (some ⟨W.heap.size,0,none⟩):=f.1
       have c0:=(r9d.ext he).cell (j:=0) rfl
       have c1:=(r9d.ext he).cell (j:=1) rfl
       have c2:=(r9d.ext he).cell (j:=2) rfl
       have c3:=(r9d.ext he).cell (j:=3) rfl
       have c4:=(r9d.ext he).cell (j:=4) rfl
       have c5:=(r9d.ext he).cell (j:=5) rfl
       have c6:=(r9d.ext he).cell (j:=6) rfl
       go_wp
       exact zaa (r:=za1 _ _ _ _) ⟨rfl,fun h=>by simp at h⟩ (Ext.refl _)
      ·intro x' W' he f
       have h:x' 10 = .pointer (some ⟨W.heap.size+1,0,none⟩):=f.1
       have c0:=(r10d.ext he).cell (j:=0) rfl
       have c1:=(r10d.ext he).cell (j:=1) rfl
       have c2:=(r10d.ext he).cell (j:=2) rfl
       have c3:=(r10d.ext he).cell (j:=3) rfl
       have c4:=(r10d.ext he).cell (j:=4) rfl
       have c5:=(r10d.ext he).cell (j:=5) rfl
       have c6:=(r10d.ext he).cell (j:=6) rfl
       go_wp
       exact zaa (r:=za1 _ _ _ _) ⟨rfl,fun h=>by simp at h⟩ (Ext.refl _)
      ·intro x' W' he f
       have h59:x' 59=entV ma (.slice Ca1 ma.seen.length ca1) (.slice Ca2 ma.counts.length ca2) (.slice Ca3 ma.items.length ca3):=f.1
       have h60:x' 60=entV mb (.slice Cb1 mb.seen.length cb1) (.slice Cb2 mb.counts.length cb2) (.slice Cb3 mb.items.length cb3):=f.2.1
       have hs:=he.size
       have HC:=Lib.hid (zgs (HAd.out.ext he) (HBd2.out.ext he) hsm1 hsm2)
       rw [← hJ] at HC
       clear hJ
       go_wp
       refine HC.out.mono ?_
       rintro r W6 ⟨u1,u2,u3,rfl,hn,hx2⟩
       dsimp only
       go_wp
       exact zaa (v:=entV J u1 u2 u3) (r:=za1 _ _ _ _) ⟨⟨u1,u2,u3,rfl,hn.lower hs⟩,fun h=>by simp at h⟩ hx2
      ·intro x' W' he f
       obtain⟨u1,u2,u3,h,hn⟩:∃ u1 u2 u3,x' 61=entV J u1 u2 u3∧EntNew W' Wd.heap.size J u1 u2 u3:=f.1
       have hs:=he.size
       obtain⟨D1,d1,rfl,-,-⟩:=hn.seen.form
       obtain⟨D2,d2,rfl,-,-⟩:=hn.counts.form
       obtain⟨D3,d3,rfl,-,-⟩:=hn.items.form
       have hrow:=zac W' 37 (entL J (.slice D1 J.seen.length d1) (.slice D2 J.counts.length d2) (.slice D3 J.items.length d3))
       have hxa:=(Ext.refl W').alloc (.cells (entL J (.slice D1 J.seen.length d1) (.slice D2 J.counts.length d2) (.slice D3 J.items.length d3)).toArray 37)
       clear hJ
       go_wp
       exact zaa (v:=.slice (some ⟨W'.heap.size,0,none⟩) 1 1) (r:=za1 _ _ _ _) ⟨⟨W'.heap.size,_,_,_,rfl,hs,hrow,hn.ext hxa⟩,fun h=>by simp at h⟩ hxa
     case hend =>
      intro x' W' he hap f
      have h58:x' 58 = .slice AE pre.length cE:=f.2.1
      obtain⟨k,u1,u2,u3,h62,hk,hrow,hn⟩:∃ h u1 u2 u3,x' 62 = .slice (some ⟨h,0,none⟩) 1 1∧Wd.heap.size≤h∧RowIs W' h 37 (entL J u1 u2 u3) []∧EntNew W' Wd.heap.size J u1 u2 u3:=f.2.2.2.2.2.1
      clear f hap hJ
      have hs:=he.size
      simp only [List.length_cons,List.length_nil,Nat.reduceAdd,List.take_succ_cons,List.take_zero,List.filterMap_cons,List.filterMap_nil,List.drop_succ_cons,List.drop_zero,zaz,Act.put,List.setIfInBounds_toArray,List.set_cons_succ,List.set_cons_zero,h58,h62]
      have hone:=zeh (hn.rd (S:=fun _=>True) (fun _ _ _=>trivial))
      have hEl:∀ b,zae (.slice AE pre.length cE) b→b < Wd.heap.size:=fun b hb=>(hEd.base_le hb).2
      have hEb:∀ b,zae (.slice AE pre.length cE) b→W4.heap.size≤b:=fun b hb=>(hEd.base_le hb).1
      obtain⟨L0,hL0⟩:∃ L0,L0=pre.map (fun k=>zba (getE se k) (getE te k)):=⟨_,rfl⟩
      have hlen:L0.length=pre.length:=by rw [hL0,List.length_map]
      have hEd2:=hEd.ext he
      rw [← hL0] at hEd2
      obtain⟨vss,y1,y2,y3⟩:=hEd2
      rw [hlen] at y3
      have rSe:=rS.ext he
      have hnS:¬ zae (.slice AE pre.length cE) W1.heap.size:=fun hb=>by have:=hEb _ hb;omega
      have HL:=Lib.hid (show (pre++[x]).map (fun k=>zba (getE se k) (getE te k))=L0++[J] from by rw [List.map_append,← hL0];simp only [List.map_cons,List.map_nil,HEd1.out,HEd2.out,HJe.out])
      have HS2:=Lib.hid (show _∧_ from ⟨y1,y2⟩)
      have HNN:=Lib.hid hn
      clear y1 y2 hL0 HEd1 HEd2
      refine zah rfl (.tmp 58) (.tmp 62) 27 rfl W4.heap.size 37 7 120 zeroEnt Tryz.underlying27 zby rfl (by omega) (.slice AE pre.length cE) pre.length vss.flatten (by simp [go_sem]) y3 (some ⟨k,0,none⟩) 1 1 (entL J u1 u2 u3) (by simp [go_sem])
       ⟨by simp,hone,fun _=>⟨k,0,rfl,fun j u hj=>by rw [Nat.zero_add];exact hrow.cell hj⟩⟩ (by omega) (by omega) (by omega) ?_
      intro v' w' hown hgr
      have hE2:RowE w' W4.heap.size W1.heap.size v' (L0++[J]):=RowE.snoc HS2.out.1 HS2.out.2 HNN.out hEl hgl (by omega) (by rw [hlen];exact hown) hgr
      have hF:=hE2.form
      rw [show (L0++[J]).length=pre.length+1 by rw [List.length_append,hlen];rfl] at hF
      obtain⟨AF,cF,rfl,-,-⟩:=hF
      have rSw:=rSe.keep (hgr.same _ rSe.lt hnS)
      have hc:=rSw.cell (j:=1) rfl
      have hf:=rSw.frozen 1
      have rS2:=rSw.set (j:=1) (by simp) (.slice AF (pre.length+1) cF)
      simp only [List.set_cons_succ,List.set_cons_zero] at rS2
      have hO2:=((HOx.out.ext (hxd.trans he)).grew hgr hEb).set (j:=1) (.slice AF (pre.length+1) cF)
      have hko:=((hxd.trans he).keepsO.trans (hgr.keeps y3)).trans (KeepsOthers.setCell w' ⟨W1.heap.size,1,none⟩ (.slice AF (pre.length+1) cF))
      have hE3:=hE2.set (j:=1) (u:=.slice AF (pre.length+1) cF) rSw (by decide)
      have HF:=Lib.hid (show _∧_∧_∧_ from ⟨rS2,hO2,hko,hE3⟩)
      clear rS2 hO2 hko hE3 hE2 hgr hown HS2 HNN hn hrow y3 rSe rSw hEd rS hone r9d r10d HAd HBd2 HBd
      go_wp
      obtain⟨rS2,hO2,hko,hE3⟩:=HF.out
      exact⟨hko.from _,HOx.out.kps hO2 hko.size,_,rS2,by rw [HL.out];exact hE3,hO2⟩
  case done =>
   rintro D ys W hD rfl ⟨vE,hS,hE,hO⟩ hK
   have hOs:=hO.size
   have hEf:=hE.form
   rw [List.length_map] at hEf
   obtain⟨AE,cE,rfl,-,-⟩:=hEf
   have rA:=rA4.keep (hO.same w.heap.size (by omega) (by omega))
   have rB:=rB4.keep (hO.same (w.heap.size+1) (by omega) (by omega))
   have rR:=rR4.keep (hO.same (w.heap.size+1+1) (by omega) (by omega))
   have hV:=HV4.out.keep (w':=W) (fun b hb hlt=>hO.same b hlt (fun e=>HV4.out.apart rG4 (by decide) (by rw [← e];exact hb)))
   have PA:=HA4.out.pruned.keep (by decide) (w':=W) (fun b hb h2=>hO.same b (by omega) (by omega))
   have PB:=HB4.out.pruned.keep (by decide) (w':=W) (fun b hb h2=>hO.same b (by omega) (by omega))
   have hXw:Ext w W:=hO.below HX4.out (by omega) (by omega)
   have HKD:=Lib.hid hK
   clear hK
   have qa:=rA.cell (j:=2) rfl
   have qb:=rB.cell (j:=2) rfl
   have hxc:Ext W (W.alloc (.cells #[.slice A3 sp.length n3,.slice B3 tp.length m3] 28)):=(Ext.refl W).alloc _
   have rC:=zac W 28 [.slice A3 sp.length n3,.slice B3 tp.length m3]
   have hlen:[sp,tp].flatten.length≤1099511627776:=by have:=SM1.out.pruned;have:=SM2.out.pruned;simp at *;omega
   have HC:=Lib.hid (znp (ztu (hk:=by decide) (S:=fun b=>b≤W.heap.size) ((PA.mono (by decide) fun b _ h=>by omega).ext (by decide) hxc) ((PB.mono (by decide) fun b _ h=>by omega).ext (by decide) hxc) (Nat.le_refl _) (rC.cell (j:=0) rfl) (rC.cell (j:=1) rfl)) hlen)
   have HSx:=Lib.hid hS
   have HEx:=Lib.hid hE
   have HOx:=Lib.hid hO
   have HXw:=Lib.hid hXw
   have HVx:=Lib.hid hV
   clear hS hE hO hXw hV PA PB rC
   dsimp only [Exit.inBlock,Exit.then]
   go_wp2_with fail
   refine HC.out.mono ?_
   rintro r W5 ⟨vP,rfl,hP,hx5⟩
   obtain⟨P1,pn,rfl,-,-⟩:=hP.form
   have hx05:=hxc.trans hx5
   have hg5:W1.heap.size < W.heap.size:=by omega
   have hP5:=hP.lower (base':=W.heap.size) (by simp)
   obtain⟨LP,hLP⟩:∃ LP,LP = [sp,tp].flatten:=⟨_,rfl⟩
   have HLP:=Lib.hid hLP
   rw [← hLP] at hP5 hlen ⊢
   clear hLP hP HC hx5 hxc
   have rS5:=HSx.out.ext hx05
   have s52:=rS5.cell (j:=2) rfl
   have sf52:=rS5.frozen 2
   have rS6:=rS5.set (j:=2) (by simp) (.slice P1 LP.length pn)
   simp only [List.set_cons_succ,List.set_cons_zero] at rS6
   have hP6:=hP5.keep (w':=W5.setCell ⟨W1.heap.size,2,none⟩ (.slice P1 LP.length pn)) (fun b hb _=>Below.heap_setCell _ _ _ _ (fun e=>hP5.apart rS5 (by decide) (by have e2:b=W1.heap.size:=e;rw [← e2];exact hb)))
   have HK6:=Lib.hid (((OldK.refl (n:=W.heap.size) (g:=W1.heap.size) (Nat.le_refl _)).ext hx05).set (j:=2) (.slice P1 LP.length pn))
   have HSO:=Lib.hid (zk7 hP6 hlen)
   have c62:=rS6.cell (j:=2) rfl
   have hz6:=HK6.out.size
   have HS6:=Lib.hid rS6
   clear rS5 rS6 hP5 hP6 hx05 qa qb
   go_wp2_with fail
   clear s52 sf52
   generalize W5.setCell ⟨W1.heap.size,2,none⟩ (.slice P1 LP.length pn)=W6 at *
   refine HSO.out.mono ?_
   rintro r W7 ⟨rfl,hP7,hb7⟩
   have hlS:=zgo LP
   have rS7:=HS6.out.keep (hb7.block _ hg5)
   have HK7:=Lib.hid (HK6.out.low hb7)
   have HCO:=zmr hP7 (by omega)
   have HCP:=Lib.hid HCO
   have c72:=rS7.cell (j:=2) rfl
   have cf72:=rS7.frozen 2
   have HS7:=Lib.hid rS7
   clear HS6 HK6 HSO hP7 hb7 c62 rS7 hlS HCO
   go_wp2_with fail
   refine HCP.out.mono ?_
   rintro r W8 ⟨vC,rfl,hP8,hb8⟩
   obtain⟨LC,hLC⟩:∃ LC,LC=Lib.compact (zbd LP):=⟨_,rfl⟩
   have HLC:=Lib.hid hLC
   rw [← hLC] at hP8
   obtain⟨C1,cn,rfl,-,-⟩:=hP8.form
   have rS8:=HS7.out.keep (hb8.block _ hg5)
   have HK8:=HK7.out.low hb8
   have s82:=rS8.cell (j:=2) rfl
   have s80:=rS8.cell (j:=0) rfl
   have s81:=rS8.cell (j:=1) rfl
   have sf82:=rS8.frozen 2
   have hkr:=HK8.same (w.heap.size+1+1) (by omega) (by omega)
   have rR8:=rR.keep hkr
   have t0:=rR8.cell (j:=0) rfl
   have t1:=rR8.cell (j:=1) rfl
   have t2:=rR8.cell (j:=2) rfl
   have tf0:=rR8.frozen 0
   have tf1:=rR8.frozen 1
   have tf2:=rR8.frozen 2
   have rS9:=rS8.set (j:=2) (by simp) (.slice C1 LC.length cn)
   simp only [List.set_cons_succ,List.set_cons_zero] at rS9
   have hP9:=hP8.keep (w':=W8.setCell ⟨W1.heap.size,2,none⟩ (.slice C1 LC.length cn)) (fun b hb _=>Below.heap_setCell _ _ _ _ (fun e=>hP8.apart rS8 (by decide) (by have e2:b=W1.heap.size:=e;rw [← e2];exact hb)))
   have HK9:=Lib.hid (HK8.set (j:=2) (.slice C1 LC.length cn))
   have HP9:=Lib.hid hP9
   have hneR:¬ (w.heap.size+1+1=W1.heap.size):=by omega
   have hneR2:¬ (W1.heap.size=w.heap.size+1+1):=by omega
   clear hLC hP8 hb8 rS8 HK8 hkr rR8 rS9 hP9 HCP HS7 HK7 c72
   go_wp2_with fail
   generalize W8.setCell ⟨W1.heap.size,2,none⟩ (.slice C1 LC.length cn)=W9 at *
   have hDl:D < W.heap.size:=(Array.getElem?_eq_some_iff.1 HKD.out).1
   obtain⟨vG,hvG⟩:∃ v,v=Value.slice J1 (zaq sa ta).length j1:=⟨_,rfl⟩
   obtain⟨vE,hvE⟩:∃ v,v=Value.slice AE (zbi se te).length cE:=⟨_,rfl⟩
   obtain⟨vC,hvC⟩:∃ v,v=Value.slice C1 LC.length cn:=⟨_,rfl⟩
   have hK2:(put3 W9 (w.heap.size+1+1) vG vE vC).heap[D]? = some (.deferred (some [])):=(zdz _ _ _ _ _ _ (by omega)).trans ((HK9.out.same D hDl (by omega)).trans HKD.out)
   have hsame:∀ b,b < W.heap.size→b ≠ W1.heap.size→b ≠ w.heap.size+1+1→(put3 W9 (w.heap.size+1+1) vG vE vC).heap[b]? = W.heap[b]?:=fun b h1 h2 h3=>(zdz _ _ _ _ _ _ h3).trans (HK9.out.same b h1 h2)
   have hxP:Ext w (put3 W9 (w.heap.size+1+1) vG vE vC):=zb7 (HK9.out.below HXw.out (by omega) (by omega)) (by omega) _ _ _
   have rRP:RowIs (put3 W9 (w.heap.size+1+1) vG vE vC) (w.heap.size+1+1) 30 [vG,vE,vC] []:=by have h:=(((rR.keep (HK9.out.same (w.heap.size+1+1) (by omega) (by omega))).set (j:=0) (by simp) vG).set (j:=1) (by simp) vE).set (j:=2) (by simp) vC;simpa using h
   have hg:=grownBy_putObj' (put3 W9 (w.heap.size+1+1) vG vE vC) D (.deferred none)
   have hr:∀ r,(some D:Option Nat)=some r→∃ o:Obj,(put3 W9 (w.heap.size+1+1) vG vE vC).heap[r]? = some o∧o.isCells=false:=fun r e=>by cases e;exact⟨_,hK2,rfl⟩
   have rRF:=rRP.kept hg hr
   have o1:=(HVx.out.keep (w':=put3 W9 (w.heap.size+1+1) vG vE vC) (fun b hb hlt=>hsame b hlt (fun e=>HVx.out.apart HSx.out (by decide) (by rw [← e];exact hb)) (by have:=(HVx.out.base_le hb).1;omega))).kept hg hr
   have o2:=(HEx.out.keep (w':=put3 W9 (w.heap.size+1+1) vG vE vC) (fun b hb hlt hor=>hsame b hlt (by omega) (by omega))).kept hg hr
   have o3:=(HP9.out.keep (w':=put3 W9 (w.heap.size+1+1) vG vE vC) (fun b hb hlt=>zdz _ _ _ _ _ _ (by have:=(HP9.out.base_le hb).1;omega))).kept hg hr
   have o4:Ext w ((put3 W9 (w.heap.size+1+1) vG vE vC).putObj D (.deferred none)):=Below.trans hxP (belowK_b (w:=w) (Nat.le_refl _) _ D _ _ (by omega) hK2 rfl rfl)
   have hpr:Lib.compact (zbd (sp++tp))=LC:=by rw [HLC.out,HLP.out];simp
   have q0:=rRF.cell (j:=0) rfl
   have q1:=rRF.cell (j:=1) rfl
   have q2:=rRF.cell (j:=2) rfl
   have hwW4:w.heap.size≤W4.heap.size:=by omega
   have hwW:w.heap.size≤W.heap.size:=by omega
   rw [← hvG] at o1
   rw [← hvE] at o2
   rw [← hvC] at o3
   rw [← hvG,← hvE,← hvC]
   clear hvG hvE hvC hsame hxP rRP hg hr
   refine ⟨by simp,.inl ⟨_,_,rfl,run_takeDeferred hK2,?_⟩⟩
   refine ⟨stV vG vE vC,?_,vG,vE,vC,rfl,⟨?_,?_,?_⟩,o4⟩
   ·simp [results,Tryz.f15,go_sem,q0,q1,q2]
   ·exact o1.lower (base':=w.heap.size) (Nat.le_add_right _ _)
   ·exact OwnL.lower (OwnL.mono o2 (S':=fun b=>w.heap.size≤b∧¬ zae vE b) fun b _ hb=>⟨Nat.le_trans hwW4 hb.1,hb.2.2⟩) hwW4
   ·show Own _ _ _ _ _ (Lib.compact (zbd (sp++tp))).length ((Lib.compact (zbd (sp++tp))).flatMap strC);rw [hpr];exact o3.lower (base':=w.heap.size) hwW
end
section
open Go.RowKit Go.Shelf
def zbs (ps:List Str) (m:Mark):Bool:=!decide (m.1 ∈ setL ps)
def zc7 (s:State) (base:List Mark) (d:State):State × Nat :=
 if zar s.all (base.filter (zbs (s.pruned++d.pruned))) then (ze4 s d,0) else (za4,160)
def zkb (sp tp:List Str):Nat→List Str
 | 0=>[]
 | 1=>sp
 | _=>sp++tp
theorem zhr {S1 S2 S0:Nat→Prop} {s d:State} {a1 a2 a3 b0 b1 b2 b3:Value} {db:List Mark} {w:World} (h:StAt w S1 s a1 a2 a3) (hd:StAt w S2 d b1 b2 b3) (hb:Sl markT w S0 b0 db) (sm:SmallS s) (smd:SmallS d) (hbl:db.length≤549755813888) :
  Calls Tryz.prog 17 #[stV a1 a2 a3,dltV b0 b1 b2 b3] w fun r w'=>∃ u1 u2 u3,r = .returned (.tuple #[stV u1 u2 u3,I (zc7 s db d).2])∧StAt w' (fun b=>w.heap.size≤b) (zc7 s db d).1 u1 u2 u3∧Ext w w':=by
 have HAP:=Lib.hid (show zc7 s db d=if zar s.all (db.filter (zbs (s.pruned++d.pruned))) then (ze4 s d,0) else (za4,160) from rfl)
 obtain⟨sa,se,sp⟩:=s
 obtain⟨ta,te,tp⟩:=d
 obtain⟨A1,n1,rfl,-,-⟩:=h.all.form
 obtain⟨A2,n2,rfl,-,-⟩:=h.entries.form
 obtain⟨A3,n3,rfl,-,-⟩:=h.pruned.form
 obtain⟨B1,m1,rfl,-,-⟩:=hd.all.form
 obtain⟨B2,m2,rfl,-,-⟩:=hd.entries.form
 obtain⟨B3,m3,rfl,-,-⟩:=hd.pruned.form
 obtain⟨B0,m0,rfl,-,-⟩:=hb.form
 have h':=h.pruned
 have h'':=hd.pruned
 have hb':=hb
 have HPT1:=Lib.hid (fun (pre post:List Str) (m:Str) (wr:World) (hx:Ext w wr) (hl:sp=pre++m :: post)=>ze0 h' hx hl)
 have HPT2:=Lib.hid (fun (pre post:List Str) (m:Str) (wr:World) (hx:Ext w wr) (hl:tp=pre++m :: post)=>ze0 h'' hx hl)
 have HMT:=Lib.hid (fun (pre post:List Mark) (m:Mark) (wr:World) (hx:Ext w wr) (hl:db=pre++m :: post)=>zcc hb' hx hl)
 have H:=Lib.hid h
 have HD:=Lib.hid hd
 have SM:=Lib.hid sm
 have SMD:=Lib.hid smd
 have hmm:=@run_makeMap Tryz.prog
 have hx0:Ext w ((((w.alloc (.cells #[.slice A1 sa.length n1,.slice A2 se.length n2,.slice A3 sp.length n3] 30)).alloc (.cells #[.slice B0 db.length m0,.slice B1 ta.length m1,.slice B2 te.length m2,.slice B3 tp.length m3] 64)).alloc (.cells #[.slice none 0 0,.slice none 0 0,.slice none 0 0] 30)).alloc (.map #[] 0)):=((((Ext.refl w).alloc _).alloc _).alloc _).alloc _
 have hS0:SetOf St ((((w.alloc (.cells #[.slice A1 sa.length n1,.slice A2 se.length n2,.slice A3 sp.length n3] 30)).alloc (.cells #[.slice B0 db.length m0,.slice B1 ta.length m1,.slice B2 te.length m2,.slice B3 tp.length m3] 64)).alloc (.cells #[.slice none 0 0,.slice none 0 0,.slice none 0 0] 30)).alloc (.map #[] 0)) (w.heap.size+3) []:=by have h:=SetOf.new (K:=St) (((w.alloc (.cells #[.slice A1 sa.length n1,.slice A2 se.length n2,.slice A3 sp.length n3] 30)).alloc (.cells #[.slice B0 db.length m0,.slice B1 ta.length m1,.slice B2 te.length m2,.slice B3 tp.length m3] 64)).alloc (.cells #[.slice none 0 0,.slice none 0 0,.slice none 0 0] 30));simp only [World.size_alloc] at h;exact h
 have hz0:((((w.alloc (.cells #[.slice A1 sa.length n1,.slice A2 se.length n2,.slice A3 sp.length n3] 30)).alloc (.cells #[.slice B0 db.length m0,.slice B1 ta.length m1,.slice B2 te.length m2,.slice B3 tp.length m3] 64)).alloc (.cells #[.slice none 0 0,.slice none 0 0,.slice none 0 0] 30)).alloc (.map #[] 0)).heap.size=w.heap.size+4:=by simp
 have hxa:Ext w (((((w.alloc (.cells #[.slice A1 sa.length n1,.slice A2 se.length n2,.slice A3 sp.length n3] 30)).alloc (.cells #[.slice B0 db.length m0,.slice B1 ta.length m1,.slice B2 te.length m2,.slice B3 tp.length m3] 64)).alloc (.cells #[.slice none 0 0,.slice none 0 0,.slice none 0 0] 30)).alloc (.map #[] 0)).alloc (.cells #[.slice A3 sp.length n3,.slice B3 tp.length m3] 28)):=hx0.alloc _
 have hI0:RowIs (((((w.alloc (.cells #[.slice A1 sa.length n1,.slice A2 se.length n2,.slice A3 sp.length n3] 30)).alloc (.cells #[.slice B0 db.length m0,.slice B1 ta.length m1,.slice B2 te.length m2,.slice B3 tp.length m3] 64)).alloc (.cells #[.slice none 0 0,.slice none 0 0,.slice none 0 0] 30)).alloc (.map #[] 0)).alloc (.cells #[.slice A3 sp.length n3,.slice B3 tp.length m3] 28)) w.heap.size 30 [.slice A1 sa.length n1,.slice A2 se.length n2,.slice A3 sp.length n3] []∧RowIs (((((w.alloc (.cells #[.slice A1 sa.length n1,.slice A2 se.length n2,.slice A3 sp.length n3] 30)).alloc (.cells #[.slice B0 db.length m0,.slice B1 ta.length m1,.slice B2 te.length m2,.slice B3 tp.length m3] 64)).alloc (.cells #[.slice none 0 0,.slice none 0 0,.slice none 0 0] 30)).alloc (.map #[] 0)).alloc (.cells #[.slice A3 sp.length n3,.slice B3 tp.length m3] 28)) (w.heap.size+1) 64 [.slice B0 db.length m0,.slice B1 ta.length m1,.slice B2 te.length m2,.slice B3 tp.length m3] []∧RowIs (((((w.alloc (.cells #[.slice A1 sa.length n1,.slice A2 se.length n2,.slice A3 sp.length n3] 30)).alloc (.cells #[.slice B0 db.length m0,.slice B1 ta.length m1,.slice B2 te.length m2,.slice B3 tp.length m3] 64)).alloc (.cells #[.slice none 0 0,.slice none 0 0,.slice none 0 0] 30)).alloc (.map #[] 0)).alloc (.cells #[.slice A3 sp.length n3,.slice B3 tp.length m3] 28)) (w.heap.size+2) 30 [.slice none 0 0,.slice none 0 0,.slice none 0 0] []∧RowIs (((((w.alloc (.cells #[.slice A1 sa.length n1,.slice A2 se.length n2,.slice A3 sp.length n3] 30)).alloc (.cells #[.slice B0 db.length m0,.slice B1 ta.length m1,.slice B2 te.length m2,.slice B3 tp.length m3] 64)).alloc (.cells #[.slice none 0 0,.slice none 0 0,.slice none 0 0] 30)).alloc (.map #[] 0)).alloc (.cells #[.slice A3 sp.length n3,.slice B3 tp.length m3] 28)) (w.heap.size+4) 28 [.slice A3 sp.length n3,.slice B3 tp.length m3] []:=⟨((((zac w 30 [.slice A1 sa.length n1,.slice A2 se.length n2,.slice A3 sp.length n3]).alloc _).alloc _).alloc _).alloc _,by have h:=zac (w.alloc (.cells #[.slice A1 sa.length n1,.slice A2 se.length n2,.slice A3 sp.length n3] 30)) 64 [.slice B0 db.length m0,.slice B1 ta.length m1,.slice B2 te.length m2,.slice B3 tp.length m3];simp only [World.size_alloc] at h;exact ((h.alloc _).alloc _).alloc _,
  by have h:=zac ((w.alloc (.cells #[.slice A1 sa.length n1,.slice A2 se.length n2,.slice A3 sp.length n3] 30)).alloc (.cells #[.slice B0 db.length m0,.slice B1 ta.length m1,.slice B2 te.length m2,.slice B3 tp.length m3] 64)) 30 [.slice none 0 0,.slice none 0 0,.slice none 0 0];simp only [World.size_alloc] at h;exact (h.alloc _).alloc _,by have h:=zac ((((w.alloc (.cells #[.slice A1 sa.length n1,.slice A2 se.length n2,.slice A3 sp.length n3] 30)).alloc (.cells #[.slice B0 db.length m0,.slice B1 ta.length m1,.slice B2 te.length m2,.slice B3 tp.length m3] 64)).alloc (.cells #[.slice none 0 0,.slice none 0 0,.slice none 0 0] 30)).alloc (.map #[] 0)) 28 [.slice A3 sp.length n3,.slice B3 tp.length m3];simp only [World.size_alloc] at h;exact h⟩
 have HI0:=Lib.hid hI0
 have HS0:=Lib.hid (hS0.ext ((Ext.refl _).alloc (.cells #[.slice A3 sp.length n3,.slice B3 tp.length m3] 28)))
 have HX0:=Lib.hid hxa
 clear h h' h'' hb hb' hd sm smd hx0 hS0 hxa hI0
 go_enter Tryz.func17,Tryz.ntmps17
 go_wp2_with fail
 generalize ((((w.alloc (.cells #[.slice A1 sa.length n1,.slice A2 se.length n2,.slice A3 sp.length n3] 30)).alloc (.cells #[.slice B0 db.length m0,.slice B1 ta.length m1,.slice B2 te.length m2,.slice B3 tp.length m3] 64)).alloc (.cells #[.slice none 0 0,.slice none 0 0,.slice none 0 0] 30)).alloc (.map #[] 0)).alloc (.cells #[.slice A3 sp.length n3,.slice B3 tp.length m3] 28)=W0 at *
 go_loopw [24] (fun i wr=>∃ j:Nat,j≤2∧i=I j∧SetOf St wr (w.heap.size+3) (setL (zkb sp tp j))∧Hid (RowIs wr w.heap.size 30 [.slice A1 sa.length n1,.slice A2 se.length n2,.slice A3 sp.length n3] []∧RowIs wr (w.heap.size+1) 64 [.slice B0 db.length m0,.slice B1 ta.length m1,.slice B2 te.length m2,.slice B3 tp.length m3] []∧RowIs wr (w.heap.size+2) 30 [.slice none 0 0,.slice none 0 0,.slice none 0 0] []∧RowIs wr (w.heap.size+4) 28 [.slice A3 sp.length n3,.slice B3 tp.length m3] [])∧Ext w wr) (fun i _=>2 - (intOf i).toNat)
 case atStart=>exact⟨0,by omega,rfl,HS0.out,HI0,HX0.out⟩
 case round =>
  obtain⟨j,hj,rfl,hS,hI,hx⟩:=hrel
  by_cases hlt:j < 2
  ·have hcur:∃ cur before A c,zkb sp tp j=before∧zkb sp tp (j+1)=before++cur∧wr.cell? ⟨w.heap.size+4,j,none⟩=some (.slice A cur.length c)∧cur.length≤549755813888∧(∀ (pre post:List Str) (m:Str) (wr:World) (hx:Ext w wr) (hl:cur=pre++m :: post),∃ b o,A=some ⟨b,o,none⟩∧wr.cell? ⟨b,o+pre.length,none⟩=some (St m)):=by
    have i4:=hI.out.2.2.2
    rcases (show j=0 ∨ j=1 by omega) with rfl | rfl
    ·exact⟨sp,[],A3,n3,rfl,rfl,i4.cell (j:=0) rfl,SM.out.pruned,HPT1.out⟩
    ·exact⟨tp,sp,B3,m3,rfl,rfl,i4.cell (j:=1) rfl,SMD.out.pruned,HPT2.out⟩
   obtain⟨cur,before,A,c,hb1,hb2,hcell,hcl,hat⟩:=hcur
   have HB1:=Lib.hid hb1
   have HB2:=Lib.hid hb2
   have HAT:=Lib.hid hat
   rw [hb1] at hS
   clear hb1 hb2 hat
   have HS:=Lib.hid hS
   have HX:=Lib.hid hx
   clear hS hx
   go_wp2_with fail
   go_loopw [30] (fun i wr=>∃ p2 q2,cur=p2++q2∧i=I p2.length∧SetOf St wr (w.heap.size+3) (setL (before++p2))∧Hid (RowIs wr w.heap.size 30 [.slice A1 sa.length n1,.slice A2 se.length n2,.slice A3 sp.length n3] []∧RowIs wr (w.heap.size+1) 64 [.slice B0 db.length m0,.slice B1 ta.length m1,.slice B2 te.length m2,.slice B3 tp.length m3] []∧RowIs wr (w.heap.size+2) 30 [.slice none 0 0,.slice none 0 0,.slice none 0 0] []∧RowIs wr (w.heap.size+4) 28 [.slice A3 sp.length n3,.slice B3 tp.length m3] [])∧Ext w wr) (fun i _=>cur.length - (intOf i).toNat)
   case atStart=>exact⟨[],cur,rfl,rfl,by rw [List.append_nil];exact HS.out,hI,HX.out⟩
   case round =>
    clear HS HX hI hcell
    obtain⟨p2,q2,hl2,rfl,hS2,hI2,hx2⟩:=hrel
    cases q2 with
    | cons m q2 =>
     obtain⟨b2,o2,rfl,e0⟩:=HAT.out p2 q2 m wr hx2 hl2
     have hlt2:p2.length < cur.length:=by rw [hl2];simp
     obtain⟨wn,hup,hsn,htn⟩:=zcu (P:=Tryz.prog) Tryz.underlying122 zc4 hS2 m
     have HIn:=Lib.hid (show RowIs wn w.heap.size 30 [.slice A1 sa.length n1,.slice A2 se.length n2,.slice A3 sp.length n3] []∧RowIs wn (w.heap.size+1) 64 [.slice B0 db.length m0,.slice B1 ta.length m1,.slice B2 te.length m2,.slice B3 tp.length m3] []∧RowIs wn (w.heap.size+2) 30 [.slice none 0 0,.slice none 0 0,.slice none 0 0] []∧RowIs wn (w.heap.size+4) 28 [.slice A3 sp.length n3,.slice B3 tp.length m3] [] from by obtain⟨i1,i2,i3,i4⟩:=hI2.out;exact⟨i1.keep (htn.other _ (by omega)),i2.keep (htn.other _ (by omega)),i3.keep (htn.other _ (by omega)),i4.keep (htn.other _ (by omega))⟩)
     have HXn:=Lib.hid (hx2.turned htn (by omega))
     have HSn:=Lib.hid (show SetOf St wn (w.heap.size+3) (setL (before++(p2++[m]))) by rw [← List.append_assoc,zh8];exact hsn)
     have HL2:=Lib.hid hl2
     clear hl2 hS2 hI2 hx2 hsn htn
     go_wp2_with fail
     go_roundw
     case rel=>exact⟨p2++[m],q2,by rw [HL2.out];simp,by simp,HSn.out,HIn,HXn.out⟩
     case measure=>simp [intOf];omega
    | nil =>
     rw [List.append_nil] at hl2
     have HS3:=Lib.hid (show SetOf St wr (w.heap.size+3) (setL (zkb sp tp (j+1))) by rw [HB2.out,hl2];exact hS2)
     have hlen:cur.length=p2.length:=by rw [hl2]
     have HX3:=Lib.hid hx2
     have HI3:=hI2
     clear hl2 hS2 hI2 hx2
     go_wp2_with fail
     go_roundw
     case rel=>exact⟨j+1,by omega,by simp,HS3.out,HI3,HX3.out⟩
     case measure=>simp [intOf];omega
  ·obtain rfl:j=2:=by omega
   rw [show ((2:Nat):Int)=2 from rfl]
   obtain⟨i1,i2,i3,i4⟩:=hI.out
   have c0:=i2.cell (j:=0) rfl
   have HS:=Lib.hid (show SetOf St wr (w.heap.size+3) (setL (sp++tp)) from hS)
   have HX:=Lib.hid hx
   have hwl:=hS.lt
   clear hS hx i1 i2 i3 i4
   go_wp2_with fail
   obtain⟨WL,rfl⟩:∃ WL:World,WL=wr:=⟨_,rfl⟩
   generalize hps:sp++tp=ps at *
   have HPS:=Lib.hid hps
   clear hps hlt
   go_loopw [11,42] (fun l i wr=>∃ pre post,db=pre++post∧i=I pre.length∧Own wr WL.heap.size 25 2 l (pre.filter (zbs ps)).length ((pre.filter (zbs ps)).flatMap zag)∧Ext WL wr) (fun _ i _=>db.length - (intOf i).toNat)
   case atStart=>exact⟨[],db,rfl,rfl,Own.nil _ _ _ _ _,Ext.refl _⟩
   case round =>
    clear c0
    obtain⟨pre,post,hl,rfl,hown,hx⟩:=hrel
    cases post with
    | cons m post =>
     obtain⟨b,o,rfl,e0,e1⟩:=HMT.out pre post m wr (HX.out.trans hx) hl
     have hlt:pre.length < db.length:=by rw [hl];simp
     have HL:=Lib.hid hl
     have hpf:=List.length_filter_le (zbs ps) pre
     generalize hpl:pre.filter (zbs ps)=pl at *
     have HPL:=Lib.hid hpl
     have hx1:=(Ext.refl wr).alloc (.cells #[St m.1,U m.2] 25)
     have hlk:=zfk (P:=Tryz.prog) Tryz.underlying122 zc4 zjg ((HS.out.ext hx).ext hx1) m.1
     have u0:(wr.alloc (.cells #[St m.1,U m.2] 25)).cell? ⟨wr.heap.size,0,none⟩=some (St m.1):=by simp [go_sem]
     have u1:(wr.alloc (.cells #[St m.1,U m.2] 25)).cell? ⟨wr.heap.size,1,none⟩=some (U m.2):=by simp [go_sem]
     have hn3:=hx.size
     have hz1:(wr.alloc (.cells #[St m.1,U m.2] 25)).heap.size=wr.heap.size+1:=by simp
     have HX1:=Lib.hid (hx.trans hx1)
     have HO1:=Lib.hid (hown.ext hx1)
     obtain⟨C,cc,rfl,-,-⟩:=hown.form
     clear hl hpl hx hx1 hown
     by_cases hm:m.1 ∈ setL ps
     ·have HF:=Lib.hid (show (pre++[m]).filter (zbs ps)=pl by rw [List.filter_append,HPL.out];simp [zbs,hm])
      simp only [hm,decide_true] at hlk
      clear hm
      go_wp2_with fail
      go_roundw
      case rel=>exact⟨pre++[m],post,by rw [HL.out];simp,by simp,by rw [HF.out];exact HO1.out.alloc _,HX1.out.alloc _⟩
      case measure=>simp [intOf];omega
     ·have HF:=Lib.hid (show (pre++[m]).filter (zbs ps)=pl++[m] by rw [List.filter_append,HPL.out];simp [zbs,hm])
      simp only [hm,decide_false] at hlk
      clear hm
      go_wp2_with (at_builtin;refine zah rfl (.tmp 55) (.tmp 57) 26 rfl WL.heap.size 25 2 24 (.agg #[St [],U 0]) Tryz.underlying26 zca rfl (by omega) _ pl.length (pl.flatMap zag) rfl ((HO1.out.alloc _).alloc _) _ 1 1 [St m.1,U m.2] rfl (Src.newAt (by simp) rfl (by intro u hu;simp at hu;rcases hu with rfl | rfl <;> rfl)) (by omega) (by omega) (by simp;omega) ?_;intro v' w' hown2 hgr)
      go_roundw
      case rel=>exact⟨pre++[m],post,by rw [HL.out];simp,by simp,by rw [HF.out];simpa [zag] using hown2,Ext.grewOwn ((HX1.out.alloc _).alloc _) hgr ((HO1.out.alloc _).alloc _) (Nat.le_refl _)⟩
      case measure=>simp [intOf];omega
    | nil =>
     rw [List.append_nil] at hl
     subst hl
     obtain⟨i1,i2,i3,i4⟩:=hI.out
     have rB:=i1.ext hx
     have rD:=i2.ext hx
     have rR:=i3.ext hx
     have hpf:=List.length_filter_le (zbs ps) db
     generalize hpl:db.filter (zbs ps)=pl at *
     have HAP2:=Lib.hid (show zc7 ⟨sa,se,sp⟩ db ⟨ta,te,tp⟩=if zar sa pl then (ze4 ⟨sa,se,sp⟩ ⟨ta,te,tp⟩,0) else (za4,160) from HAP.out)
     have hxw:=HX.out.trans hx
     have b0:=rB.cell (j:=0) rfl
     have HCV:=Lib.hid (zfo (H.out.all.ext (by decide) hxw) (za5 hown) (Nat.le_trans SM.out.all (by decide)) (by omega))
     obtain⟨C,cc,rfl,-,-⟩:=hown.form
     have hsz:=hx.size
     clear hpl hown hx i1 i2 i3 i4 hI
     go_wp2_with fail
     refine HCV.out.mono ?_
     rintro r W5 ⟨rfl,hx5⟩
     have rB5:=rB.ext hx5
     have rD5:=rD.ext hx5
     have rR5:=rR.ext hx5
     have hxw5:=hxw.trans hx5
     have hsz5:=hx5.size
     clear rB rD rR hxw hx5 b0 HCV
     cases hcv:zar sa pl with
     | false =>
      have HR:=Lib.hid (show zc7 ⟨sa,se,sp⟩ db ⟨ta,te,tp⟩=(za4,160) by rw [HAP2.out,hcv];rfl)
      have r0:=rR5.cell (j:=0) rfl
      have r1:=rR5.cell (j:=1) rfl
      have r2:=rR5.cell (j:=2) rfl
      have f0:=rR5.frozen 0
      have f1:=rR5.frozen 1
      have f2:=rR5.frozen 2
      have HX5:=Lib.hid hxw5
      clear hcv hxw5 rB5 rD5 rR5
      go_wp2_with fail
      (try simp only [Exit.inBlock,Exit.then])
      refine bodyPost_ret (v:=.tuple #[stV (.slice none 0 0) (.slice none 0 0) (.slice none 0 0),I 160]) (by simp [results,Tryz.f17,go_sem,r0,r1,r2]) rfl ?_
      have hq:=zb7 (q:=w.heap.size+2) HX5.out (by omega) (.slice none 0 0) (.slice none 0 0) (.slice none 0 0)
      refine ⟨.slice none 0 0,.slice none 0 0,.slice none 0 0,by (rw [HR.out];try rfl),?_⟩
      rw [HR.out]
      exact⟨StAt.none _ _ _ _ _,hq⟩
     | true =>
      have HR:=Lib.hid (show zc7 ⟨sa,se,sp⟩ db ⟨ta,te,tp⟩=(ze4 ⟨sa,se,sp⟩ ⟨ta,te,tp⟩,0) by rw [HAP2.out,hcv];rfl)
      have HJ:=Lib.hid (zle (H.out.ext hxw5) (HD.out.ext hxw5) SM.out SMD.out)
      have k0:=rB5.cell (j:=0) rfl
      have k1:=rB5.cell (j:=1) rfl
      have k2:=rB5.cell (j:=2) rfl
      have d1:=rD5.cell (j:=1) rfl
      have d2:=rD5.cell (j:=2) rfl
      have d3:=rD5.cell (j:=3) rfl
      clear hcv rB5 rD5
      go_wp2_with fail
      refine HJ.out.mono ?_
      rintro r W6 ⟨u1,u2,u3,rfl,hn,hx6⟩
      generalize ze4 ⟨sa,se,sp⟩ ⟨ta,te,tp⟩=sj at *
      obtain⟨ja,je,jp⟩:=sj
      obtain⟨D1,q1,rfl,-,-⟩:=hn.all.form
      obtain⟨D2,q2,rfl,-,-⟩:=hn.entries.form
      obtain⟨D3,q3,rfl,-,-⟩:=hn.pruned.form
      have rR6:=rR5.ext hx6
      have r0:=rR6.cell (j:=0) rfl
      have r1:=rR6.cell (j:=1) rfl
      have r2:=rR6.cell (j:=2) rfl
      have f0:=rR6.frozen 0
      have f1:=rR6.frozen 1
      have f2:=rR6.frozen 2
      have hsz6:=hx6.size
      have HX6:=Lib.hid (hxw5.trans hx6)
      have HN:=Lib.hid hn
      clear hn hx6 hxw5 rR5 rR6 k0 k1 k2 d1 d2 d3 HJ
      go_wp2_with fail
      (try simp only [Exit.inBlock,Exit.then])
      refine bodyPost_ret (v:=.tuple #[stV (.slice D1 ja.length q1) (.slice D2 je.length q2) (.slice D3 jp.length q3),I 0]) (by simp [results,Tryz.f17,go_sem,r0,r1,r2]) rfl ?_
      have hq:=zb7 (q:=w.heap.size+2) HX6.out (by omega) (.slice D1 ja.length q1) (.slice D2 je.length q2) (.slice D3 jp.length q3)
      have hkp:=zdz W6 (w.heap.size+2) (.slice D1 ja.length q1) (.slice D2 je.length q2) (.slice D3 jp.length q3)
      refine ⟨.slice D1 ja.length q1,.slice D2 je.length q2,.slice D3 jp.length q3,by (rw [HR.out];try rfl),?_⟩
      rw [HR.out]
      exact⟨(HN.out.at.keep (fun b hb _=>hkp b (by omega))).mono (fun b _ hb=>by omega),hq⟩
end
section
def zcw (l:List Entry) (k:Str) (e:Entry):List Entry:=(l.filter fun x=>ltS x.key k)++e :: (l.filter fun x=>ltS k x.key)
theorem zi9 {α:Type} {P:α→Bool} {l:List α} {i:Nat} (h1:∀ j x,j < i→l[j]? = some x→P x=true) (h2:∀ j x,i≤j→l[j]? = some x→P x=false):l.filter P=l.take i:=by
 conv=>lhs;rw [← List.take_append_drop i l]
 rw [List.filter_append]
 have a:(l.take i).filter P=l.take i:=List.filter_eq_self.2 fun x hx=>by
  obtain⟨j,hj⟩:=List.getElem?_of_mem hx
  have hji:j < i:=by have:=(List.getElem?_eq_some_iff.1 hj).1;simp at this;omega
  rw [List.getElem?_take_of_lt hji] at hj
  exact h1 j x hji hj
 have b:(l.drop i).filter P = []:=List.filter_eq_nil_iff.2 fun x hx=>by
  obtain⟨j,hj⟩:=List.getElem?_of_mem hx
  rw [List.getElem?_drop] at hj
  simp [h2 (i+j) x (by omega) hj]
 rw [a,b,List.append_nil]
theorem zja {α:Type} {P:α→Bool} {l:List α} {i:Nat} (h1:∀ j x,j < i→l[j]? = some x→P x=false) (h2:∀ j x,i≤j→l[j]? = some x→P x=true):l.filter P=l.drop i:=by
 conv=>lhs;rw [← List.take_append_drop i l]
 rw [List.filter_append]
 have a:(l.take i).filter P = []:=List.filter_eq_nil_iff.2 fun x hx=>by
  obtain⟨j,hj⟩:=List.getElem?_of_mem hx
  have hji:j < i:=by have:=(List.getElem?_eq_some_iff.1 hj).1;simp at this;omega
  rw [List.getElem?_take_of_lt hji] at hj
  simp [h1 j x hji hj]
 have b:(l.drop i).filter P=l.drop i:=List.filter_eq_self.2 fun x hx=>by
  obtain⟨j,hj⟩:=List.getElem?_of_mem hx
  rw [List.getElem?_drop] at hj
  exact h2 (i+j) x (by omega) hj
 rw [a,b,List.nil_append]
theorem zrs {l : List Entry} {k : Str} {i : Nat} {is : Bool} {m e : Entry} (hR : RiseS (l.map (·.key))) (hF : Found (l.map (·.key)) k i is) (hf : zax l k = some m) : i < l.length ∧ l.set i e = zcw l k e := by
 have hk := zrf hf
 obtain ⟨h, hh⟩ := List.getElem?_of_mem (zie hf)
 have hx : (l.map (·.key))[h]? = some k := by rw [List.getElem?_map, hh]; simp [hk]
 have hi : h = i := by
   rcases Nat.lt_trichotomy h i with h1 | h1 | h1
   · have := hF.2.1.1 h k h1 hx; rw [zak] at this; cases this
   · exact h1
   · have hil : i < (l.map (·.key)).length := Nat.lt_trans h1 (List.getElem?_eq_some_iff.1 hx).1
     have hxi : (l.map (·.key))[i]? = some (l.map (·.key))[i] := List.getElem?_eq_getElem hil
     have h2 := hF.2.1.2 i _ (Nat.le_refl _) hxi
     rw [hR.lt h1 hxi hx] at h2
     cases h2
 subst hi
 have hil := (List.getElem?_eq_some_iff.1 hh).1
 have key : ∀ {j : Nat} {x : Entry}, l[j]? = some x → (l.map (·.key))[j]? = some x.key := fun h => by rw [List.getElem?_map, h]; rfl
 refine ⟨hil, ?_⟩
 unfold zcw
 rw [zi9 (i := h) (fun j x hj hx' => hR.lt hj (key hx') hx) (fun j x hj hx' => by
     rcases Nat.eq_or_lt_of_le hj with rfl | h1
     · have := Option.some.inj (hx.symm.trans (key hx'))
       rw [← this]; exact zak _
     · exact zc8 (hR.lt h1 hx (key hx'))),
   zja (i := h + 1) (fun j x hj hx' => by
     rcases Nat.eq_or_lt_of_le (Nat.le_of_lt_succ hj) with rfl | h1
     · have := Option.some.inj (hx.symm.trans (key hx'))
       rw [← this]; exact zak _
     · exact zc8 (hR.lt h1 (key hx') hx)) (fun j x hj hx' => hR.lt (by omega) hx (key hx')),
   List.set_eq_take_append_cons_drop, if_pos hil]
theorem ztv {l:List Entry} {k:Str} {i:Nat} {is:Bool} {e:Entry} (hR:RiseS (l.map (·.key))) (hF:Found (l.map (·.key)) k i is) (hf:zax l k=none):i≤l.length∧l.take i++e :: l.drop i=zcw l k e:=by
 have hno:∀ x ∈ l,x.key ≠ k:=fun x hx he=>by
  have:=List.find?_eq_none.1 hf x hx
  simp [he] at this
 have key:∀ {j:Nat} {x:Entry},l[j]? = some x→(l.map (·.key))[j]? = some x.key:=fun h=>by rw [List.getElem?_map,h];rfl
 have gt:∀ (j:Nat) (x:Entry),i≤j→l[j]? = some x→ltS k x.key=true:=fun j x hj hx=>by
  rcases zcn k x.key with h | h | h
  ·exact h
  ·exact absurd h.symm (hno x (List.mem_of_getElem? hx))
  ·rw [hF.2.1.2 j _ hj (key hx)] at h;cases h
 refine ⟨by have:=hF.1;simpa using this,?_⟩
 unfold zcw
 rw [zi9 (i:=i) (fun j x hj hx=>hF.2.1.1 j _ hj (key hx)) (fun j x hj hx=>hF.2.1.2 j _ hj (key hx)),zja (i:=i) (fun j x hj hx=>zc8 (hF.2.1.1 j _ hj (key hx))) gt]
structure MayS (s:State):Prop where
 all:mayM s.all=true
 each:∀ e ∈ s.entries,mayE e=true∧zar s.all e.seen=true
 rise:RiseS (s.entries.map (·.key))
 pruned:∀ p ∈ s.pruned,p ≠ []∧ofM s.all p=0
 risep:RiseS s.pruned
theorem zlf (all:List Mark):∀ (l:List Entry) (prev:Option Str),zcs all prev l=true↔(∀ e ∈ l,mayE e=true∧zar all e.seen=true)∧RiseS (l.map (·.key))∧∀ k,prev=some k→∀ e ∈ l,ltS k e.key=true
 | [],prev=>by simp [zcs,RiseS]
 | e :: r,prev=>by
  have ih:=zlf all r (some e.key)
  unfold RiseS at ih ⊢
  simp only [zcs,Bool.and_eq_true,ih,List.map_cons,List.pairwise_cons,List.mem_cons,forall_eq_or_imp,List.mem_map,forall_exists_index,and_imp,forall_apply_eq_imp_iff₂,Option.some.injEq,forall_eq']
  constructor
  ·rintro⟨h1,h2,h3,h4,h5,h6⟩
   refine ⟨⟨⟨h1,h3⟩,h4⟩,⟨h6,h5⟩,fun k hk=>?_⟩
   subst hk
   exact⟨h2,fun x hx=>za0 h2 (h6 x hx)⟩
  ·rintro⟨⟨⟨h1,h3⟩,h4⟩,⟨h6,h5⟩,h7⟩
   refine ⟨h1,?_,h3,h4,h5,h6⟩
   cases prev with
   | none=>rfl
   | some k=>exact (h7 k rfl).1
theorem zlg (all:List Mark):∀ (l:List Str) (prev:Option Str),zcg all prev l=true↔(∀ p ∈ l,p ≠ []∧ofM all p=0)∧RiseS l∧∀ k,prev=some k→∀ p ∈ l,ltS k p=true
 | [],prev=>by simp [zcg,RiseS]
 | p :: r,prev=>by
  have ih:=zlg all r (some p)
  have hpe:(!p.isEmpty)=true↔p ≠ []:=by cases p <;> simp
  unfold RiseS at ih ⊢
  simp only [zcg,Bool.and_eq_true,ih,hpe,decide_eq_true_eq,List.pairwise_cons,List.mem_cons,forall_eq_or_imp,Option.some.injEq,forall_eq']
  constructor
  ·rintro⟨h1,h2,h3,h4,h5,h6⟩
   refine ⟨⟨⟨h1,h3⟩,h4⟩,⟨h6,h5⟩,fun k hk=>?_⟩
   subst hk
   exact⟨h2,fun x hx=>za0 h2 (h6 x hx)⟩
  ·rintro⟨⟨⟨h1,h3⟩,h4⟩,⟨h6,h5⟩,h7⟩
   refine ⟨h1,?_,h3,h4,h5,h6⟩
   cases prev with
   | none=>rfl
   | some k=>exact (h7 k rfl).1
theorem mayS_iff {s:State}:mayS s=true↔MayS s:=by
 unfold mayS
 simp only [Bool.and_eq_true,zlf,zlg]
 constructor
 ·rintro⟨h1,⟨h2,h3,-⟩,h4,h5,-⟩;exact⟨h1,h2,h3,h4,h5⟩
 ·rintro⟨h1,h2,h3,h4,h5⟩;exact⟨h1,⟨h2,h3,by simp⟩,h4,h5,by simp⟩
def updS (s:State) (p:Str) (o:OpD):State × Nat :=
 if p = [] ∨ mayS s=false then (za4,2) else if 281474976710656≤ofM s.all p then (za4,9) else if zax s.entries o.2.1=none∧256≤s.entries.length then (za4,6) else
 if (updE ((zax s.entries o.2.1).getD zad) o (p,ofM s.all p+1)).2=0 then (⟨setM s.all p (ofM s.all p+1),zcw s.entries o.2.1 (updE ((zax s.entries o.2.1).getD zad) o (p,ofM s.all p+1)).1,s.pruned⟩,0)
 else (za4,(updE ((zax s.entries o.2.1).getD zad) o (p,ofM s.all p+1)).2)
end
section
open Go.RowKit Go.Shelf
theorem zms {w:World} {q T:Nat} {e0 e:Entry} {a1 a2 a3 v1 v2 v3:Value} (h:RowIs w q T (entL e0 a1 a2 a3) []):RowIs (put7 w q e v1 v2 v3) q T (entL e v1 v2 v3) []:=by
 have:=RowIs.set7 (X1:=[]) (X2:=[]) (o:=0) (by simpa using h) rfl (St e.key) v1 v2 v3 (U e.cell.1) (St e.cell.2.1) (.bool e.cell.2.2)
 simpa using this
theorem zlh (w:World) (q:Nat) (e:Entry) (v1 v2 v3:Value):(put7 w q e v1 v2 v3).heap.size=w.heap.size:=by simp [World.size_setCell]
theorem zjo {S:Nat→Prop} {s:State} {v1 v2 v3:Value} {w:World} (p:Str) (o:OpD) (hn1:-9223372036854775808≤o.2.2.1) (hn2:o.2.2.1≤9223372036854775807) (h:StAt w S s v1 v2 v3) (sm:SmallS s) :
  Calls Tryz.prog 11 #[stV v1 v2 v3,St p,opV o] w fun r w'=>∃ u1 u2 u3,r = .returned (.tuple #[stV u1 u2 u3,I (updS s p o).2])∧StAt w' (fun b=>w.heap.size≤b) (updS s p o).1 u1 u2 u3∧Ext w w':=by
 have HRS:=Lib.hid (show updS s p o=if p = [] ∨ mayS s=false then (za4,2) else if 281474976710656≤ofM s.all p then (za4,9) else if zax s.entries o.2.1=none∧256≤s.entries.length then (za4,6) else
  if (updE ((zax s.entries o.2.1).getD zad) o (p,ofM s.all p+1)).2=0 then (⟨setM s.all p (ofM s.all p+1),zcw s.entries o.2.1 (updE ((zax s.entries o.2.1).getD zad) o (p,ofM s.all p+1)).1,s.pruned⟩,0)
  else (za4,(updE ((zax s.entries o.2.1).getD zad) o (p,ofM s.all p+1)).2) from rfl)
 have SM:=Lib.hid sm
 have HRI:=Lib.hid (fun hm:mayS s=true=>(mayS_iff.1 hm).rise)
 obtain⟨sa,se,sp⟩:=s
 obtain⟨dO,k,n,tx⟩:=o
 simp only at hn1 hn2
 obtain⟨A1,n1,rfl,-,-⟩:=h.all.form
 obtain⟨A2,n2,rfl,-,-⟩:=h.entries.form
 obtain⟨A3,n3,rfl,-,-⟩:=h.pruned.form
 have hx0:Ext w (((w.alloc (.cells #[.slice A1 sa.length n1,.slice A2 se.length n2,.slice A3 sp.length n3] 30)).alloc (.cells #[K8 dO,St k,I n,St tx] 42)).alloc (.cells #[.slice none 0 0,.slice none 0 0,.slice none 0 0] 30)):=(((Ext.refl w).alloc _).alloc _).alloc _
 have rB0:RowIs (((w.alloc (.cells #[.slice A1 sa.length n1,.slice A2 se.length n2,.slice A3 sp.length n3] 30)).alloc (.cells #[K8 dO,St k,I n,St tx] 42)).alloc (.cells #[.slice none 0 0,.slice none 0 0,.slice none 0 0] 30)) w.heap.size 30 [.slice A1 sa.length n1,.slice A2 se.length n2,.slice A3 sp.length n3] []:=((zac w _ _).alloc _).alloc _
 have rO0:RowIs (((w.alloc (.cells #[.slice A1 sa.length n1,.slice A2 se.length n2,.slice A3 sp.length n3] 30)).alloc (.cells #[K8 dO,St k,I n,St tx] 42)).alloc (.cells #[.slice none 0 0,.slice none 0 0,.slice none 0 0] 30)) (w.heap.size+1) 42 [K8 dO,St k,I n,St tx] []:=by have h:=zac (w.alloc (.cells #[.slice A1 sa.length n1,.slice A2 se.length n2,.slice A3 sp.length n3] 30)) 42 [K8 dO,St k,I n,St tx];simp only [World.size_alloc] at h;exact h.alloc _
 have rR0:RowIs (((w.alloc (.cells #[.slice A1 sa.length n1,.slice A2 se.length n2,.slice A3 sp.length n3] 30)).alloc (.cells #[K8 dO,St k,I n,St tx] 42)).alloc (.cells #[.slice none 0 0,.slice none 0 0,.slice none 0 0] 30)) (w.heap.size+1+1) 30 [.slice none 0 0,.slice none 0 0,.slice none 0 0] []:=by have h:=zac ((w.alloc (.cells #[.slice A1 sa.length n1,.slice A2 se.length n2,.slice A3 sp.length n3] 30)).alloc (.cells #[K8 dO,St k,I n,St tx] 42)) 30 [.slice none 0 0,.slice none 0 0,.slice none 0 0];simp only [World.size_alloc] at h;exact h
 have hz0:w.heap.size+3≤(((w.alloc (.cells #[.slice A1 sa.length n1,.slice A2 se.length n2,.slice A3 sp.length n3] 30)).alloc (.cells #[K8 dO,St k,I n,St tx] 42)).alloc (.cells #[.slice none 0 0,.slice none 0 0,.slice none 0 0] 30)).heap.size:=by simp
 have h':=h.mono (S':=fun b=>b < w.heap.size) (fun b hb _=>hb)
 have H0:=Lib.hid (h'.ext hx0)
 have H1:=Lib.hid (zgj (h.ext hx0) sm)
 clear h'
 clear h sm
 by_cases hp:p = []
 ·subst hp
  have HR:=Lib.hid (show updS ⟨sa,se,sp⟩ [] (dO,k,n,tx)=(za4,2) by rw [HRS.out,if_pos (.inl rfl)])
  have HX:=Lib.hid hx0
  clear hx0 rB0 rR0 rO0 H0 H1 HRS
  go_enter Tryz.func11,Tryz.ntmps11
  go_wp2_with fail
  (try simp only [Exit.inBlock,Exit.then])
  refine bodyPost_ret (v:=.tuple #[stV (.slice none 0 0) (.slice none 0 0) (.slice none 0 0),I 2]) (by simp [results,Tryz.f11,go_sem]) rfl ?_
  refine ⟨.slice none 0 0,.slice none 0 0,.slice none 0 0,by (rw [HR.out];try rfl),?_⟩
  rw [HR.out]
  exact⟨StAt.none _ _ _ _ _,HX.out⟩
 ·have hpb:(p == [])=false:=by simpa using hp
  go_enter Tryz.func11,Tryz.ntmps11
  go_wp2_with fail
  generalize (((w.alloc (.cells #[.slice A1 sa.length n1,.slice A2 se.length n2,.slice A3 sp.length n3] 30)).alloc (.cells #[K8 dO,St k,I n,St tx] 42)).alloc (.cells #[.slice none 0 0,.slice none 0 0,.slice none 0 0] 30))=W0 at *
  refine H1.out.mono ?_
  rintro r W1 ⟨rfl,hx1⟩
  have hx01:=hx0.trans hx1
  have rB1:=rB0.ext hx1
  have rO1:=rO0.ext hx1
  have rR1:=rR0.ext hx1
  have hz1:=Nat.le_trans hz0 hx1.size
  clear hx0 rB0 rR0 rO0 hz0 H1
  cases hm:mayS ⟨sa,se,sp⟩ with
  | false =>
   have HR:=Lib.hid (show updS ⟨sa,se,sp⟩ p (dO,k,n,tx)=(za4,2) by rw [HRS.out,if_pos (.inr hm)])
   have r0:=rR1.cell (j:=0) rfl
   have r1:=rR1.cell (j:=1) rfl
   have r2:=rR1.cell (j:=2) rfl
   have f0:=rR1.frozen 0
   have f1:=rR1.frozen 1
   have f2:=rR1.frozen 2
   have HX:=Lib.hid hx01
   clear hx01 hx1 rB1 rR1 rO1 H0 HRS hm hp
   go_wp2_with fail
   (try simp only [Exit.inBlock,Exit.then])
   refine bodyPost_ret (v:=.tuple #[stV (.slice none 0 0) (.slice none 0 0) (.slice none 0 0),I 2]) (by simp [results,Tryz.f11,go_sem,r0,r1,r2]) rfl ?_
   have hq:=zb7 (q:=w.heap.size+1+1) HX.out (by omega) (.slice none 0 0) (.slice none 0 0) (.slice none 0 0)
   refine ⟨.slice none 0 0,.slice none 0 0,.slice none 0 0,by (rw [HR.out];try rfl),?_⟩
   rw [HR.out]
   exact⟨StAt.none _ _ _ _ _,hq⟩
  | true =>
   have hri:=Lib.hid (show RiseS (se.map (·.key)) from HRI.out hm)
   have HRS2:=Lib.hid (show updS ⟨sa,se,sp⟩ p (dO,k,n,tx)=if 281474976710656≤ofM sa p then (za4,9) else if zax se k=none∧256≤se.length then (za4,6) else
    if (updE ((zax se k).getD zad) (dO,k,n,tx) (p,ofM sa p+1)).2=0 then (⟨setM sa p (ofM sa p+1),zcw se k (updE ((zax se k).getD zad) (dO,k,n,tx) (p,ofM sa p+1)).1,sp⟩,0)
    else (za4,(updE ((zax se k).getD zad) (dO,k,n,tx) (p,ofM sa p+1)).2) by rw [HRS.out,if_neg (by simp [hp,hm])])
   have HO:=Lib.hid (zhy p (H0.out.all.ext (by decide) hx1))
   have b0:=rB1.cell (j:=0) rfl
   have HX1:=Lib.hid hx1
   clear hm hp HRS HRI hx1
   go_wp2_with fail
   refine HO.out.mono ?_
   rintro r W2 ⟨rfl,hx2⟩
   have hx02:=hx01.trans hx2
   have rB2:=rB1.ext hx2
   have rO2:=rO1.ext hx2
   have rR2:=rR1.ext hx2
   have hz2:=Nat.le_trans hz1 hx2.size
   have H2:=Lib.hid ((H0.out.ext HX1.out).ext hx2)
   clear hx01 rB1 rR1 rO1 HO hx2 hz1 b0 HX1 H0
   obtain⟨z,hz⟩:∃ z,ofM sa p=z:=⟨_,rfl⟩
   rw [hz] at HRS2
   rw [hz]
   clear hz
   by_cases hge:281474976710656≤z
   ·have HR:=Lib.hid (show updS ⟨sa,se,sp⟩ p (dO,k,n,tx)=(za4,9) by rw [HRS2.out,if_pos hge])
    have hgt:(z:Int) ≥ 281474976710656:=by omega
    have r0:=rR2.cell (j:=0) rfl
    have r1:=rR2.cell (j:=1) rfl
    have r2:=rR2.cell (j:=2) rfl
    have f0:=rR2.frozen 0
    have f1:=rR2.frozen 1
    have f2:=rR2.frozen 2
    have HX:=Lib.hid hx02
    clear hx02 rB2 rR2 rO2 H2 HRS2 hge
    go_wp2_with fail
    (try simp only [Exit.inBlock,Exit.then])
    refine bodyPost_ret (v:=.tuple #[stV (.slice none 0 0) (.slice none 0 0) (.slice none 0 0),I 9]) (by simp [results,Tryz.f11,go_sem,r0,r1,r2]) rfl ?_
    have hq:=zb7 (q:=w.heap.size+1+1) HX.out (by omega) (.slice none 0 0) (.slice none 0 0) (.slice none 0 0)
    refine ⟨.slice none 0 0,.slice none 0 0,.slice none 0 0,by (rw [HR.out];try rfl),?_⟩
    rw [HR.out]
    exact⟨StAt.none _ _ _ _ _,hq⟩
   ·have hgt:¬ (z:Int) ≥ 281474976710656:=by omega
    have HRS3:=Lib.hid (show updS ⟨sa,se,sp⟩ p (dO,k,n,tx)=if zax se k=none∧256≤se.length then (za4,6) else
     if (updE ((zax se k).getD zad) (dO,k,n,tx) (p,z+1)).2=0 then (⟨setM sa p (z+1),zcw se k (updE ((zax se k).getD zad) (dO,k,n,tx) (p,z+1)).1,sp⟩,0)
     else (za4,(updE ((zax se k).getD zad) (dO,k,n,tx) (p,z+1)).2) by rw [HRS2.out,if_neg hge])
    have HWA:=Lib.hid (show IntKind.u64.wrap ((z:Int)+1)=((z+1:Nat):Int) by rw [zbu];omega)
    have HF0:=zjk k (H2.out.entries)
    simp only at HF0
    obtain⟨e,he⟩:∃ e,(zax se k).getD zad=e:=⟨_,rfl⟩
    obtain⟨is,his⟩:∃ is,(zax se k).isSome=is:=⟨_,rfl⟩
    rw [he,his] at HF0
    have HF:=Lib.hid HF0
    have HE:=Lib.hid he
    have HIS:=Lib.hid his
    rw [he] at HRS3
    clear HF0 he his
    have b1:=rB2.cell (j:=1) rfl
    have o1:=rO2.cell (j:=1) rfl
    clear HRS2 hge
    have hgt2:((z:Int) ≥ 281474976710656)=False:=eq_false hgt
    have hzl:z < 281474976710656:=by omega
    clear hgt
    go_wp2_with fail
    clear hgt2
    refine HF.out.mono ?_
    rintro r W3 ⟨a1,a2,a3,rfl,hA,hx3⟩
    have hse:SmallE e:=by rw [← HE.out];exact zj7 (l:=se) SM.out.each k
    obtain⟨C1,c1,rfl,-,-⟩:=hA.seen.form
    obtain⟨C2,c2,rfl,-,-⟩:=hA.counts.form
    obtain⟨C3,c3,rfl,-,-⟩:=hA.items.form
    have rE:=zac W3 37 (entL e (.slice C1 e.seen.length c1) (.slice C2 e.counts.length c2) (.slice C3 e.items.length c3))
    have hxb:=(Ext.refl W3).alloc (.cells (entL e (.slice C1 e.seen.length c1) (.slice C2 e.counts.length c2) (.slice C3 e.items.length c3)).toArray 37)
    have hx3b:=hx3.trans hxb
    have hx3w:=hx02.trans hx3
    have rBw:=rB2.ext hx3
    have rOw:=rO2.ext hx3
    have rRw:=rR2.ext hx3
    have bw1:=rBw.cell (j:=1) rfl
    have hx03:=hx02.trans hx3b
    have rB3:=rB2.ext hx3b
    have rO3:=rO2.ext hx3b
    have rR3:=rR2.ext hx3b
    have hz3:=Nat.le_trans hz2 hx3.size
    have hEz:=rE.lt
    have H3:=Lib.hid (H2.out.ext hx3b)
    have HU:=Lib.hid (zs5 (dO,k,n,tx) (p,z+1) (hA.ext hxb) hse hn1 hn2)
    have b1':=rB3.cell (j:=1) rfl
    have o1':=rO3.cell (j:=1) rfl
    clear hx02 rB2 rR2 rO2 H2 HF hx3 b1 o1 hz2 hA hx3b
    have hblt:w.heap.size < W3.heap.size:=by omega
    have holt:w.heap.size+1 < W3.heap.size:=by omega
    by_cases hfull:zax se k=none∧256≤se.length
    ·have HR:=Lib.hid (show updS ⟨sa,se,sp⟩ p (dO,k,n,tx)=(za4,6) by rw [HRS3.out,if_pos hfull])
     have hlen:(se.length:Int) ≥ 256:=by have:=hfull.2;omega
     have hrlt:w.heap.size+1+1 < W3.heap.size:=by omega
     obtain rfl:is=false:=by rw [← HIS.out,hfull.1];rfl
     have b19:=(show RowIs W3 w.heap.size 30 [.slice A1 sa.length n1,.slice A2 se.length n2,.slice A3 sp.length n3] [] from by
      have:=rB3;unfold RowIs at this ⊢;rw [← this];symm;exact hxb.block _ (by omega)).cell (j:=1) rfl
     have rR39:=(show RowIs W3 (w.heap.size+1+1) 30 [.slice none 0 0,.slice none 0 0,.slice none 0 0] [] from by
      have:=rR3;unfold RowIs at this ⊢;rw [← this];symm;exact hxb.block _ (by omega))
     have r0:=rR39.cell (j:=0) rfl
     have r1:=rR39.cell (j:=1) rfl
     have r2:=rR39.cell (j:=2) rfl
     have f0:=rR39.frozen 0
     have f1:=rR39.frozen 1
     have f2:=rR39.frozen 2
     have HX:=Lib.hid hx3w
     clear hx3w hx03 rB3 rR3 rO3 H3 HRS3 hfull hxb rE rR39 HU
     go_wp2_with fail
     (try simp only [Exit.inBlock,Exit.then])
     refine bodyPost_ret (v:=.tuple #[stV (.slice none 0 0) (.slice none 0 0) (.slice none 0 0),I 6]) (by simp [results,Tryz.f11,go_sem,r0,r1,r2,hrlt]) rfl ?_
     have hq:=(zb7 (q:=w.heap.size+1+1) HX.out (by omega) (.slice none 0 0) (.slice none 0 0) (.slice none 0 0)).alloc (.cells (entL e (.slice C1 e.seen.length c1) (.slice C2 e.counts.length c2) (.slice C3 e.items.length c3)).toArray 37)
     refine ⟨.slice none 0 0,.slice none 0 0,.slice none 0 0,by (rw [HR.out];try rfl),?_⟩
     rw [HR.out]
     exact⟨StAt.none _ _ _ _ _,hq⟩
    ·have HRS4:=Lib.hid (show updS ⟨sa,se,sp⟩ p (dO,k,n,tx)=if (updE e (dO,k,n,tx) (p,z+1)).2=0 then (⟨setM sa p (z+1),zcw se k (updE e (dO,k,n,tx) (p,z+1)).1,sp⟩,0) else (za4,(updE e (dO,k,n,tx) (p,z+1)).2) by rw [HRS3.out,if_neg hfull])
     have e0:=rE.cell (j:=0) rfl
     have e1:=rE.cell (j:=1) rfl
     have e2:=rE.cell (j:=2) rfl
     have e3:=rE.cell (j:=3) rfl
     have e4:=rE.cell (j:=4) rfl
     have e5:=rE.cell (j:=5) rfl
     have e6:=rE.cell (j:=6) rfl
     have o0:=rO3.cell (j:=0) rfl
     have o2:=rO3.cell (j:=2) rfl
     have o3:=rO3.cell (j:=3) rfl
     obtain⟨q,hq⟩:∃ q,updE e (dO,k,n,tx) (p,z+1)=q:=⟨_,rfl⟩
     have HU2:=HU.out
     rw [hq] at HU2 HRS4
     have HUU:=Lib.hid HU2
     obtain⟨e9,err⟩:=q
     clear HU HU2 hq
     have hbne:¬ (w.heap.size=W3.heap.size):=by omega
     have hone:¬ (w.heap.size+1=W3.heap.size):=by omega
     have hrne:¬ (w.heap.size+1+1=W3.heap.size):=by omega
     have hways:(is=true∧∃ m,zax se k=some m) ∨ (is=false∧¬ (se.length:Int) ≥ 256∧zax se k=none):=by
      have h9:=HIS.out
      cases hf:zax se k with
      | none=>rw [hf] at h9;exact .inr ⟨h9.symm,fun h=>hfull ⟨hf,by omega⟩,rfl⟩
      | some m=>rw [hf] at h9;exact .inl ⟨h9.symm,m,rfl⟩
     have HSW:=Lib.hid hways
     clear hways hfull HIS HE
     have w0:=rOw.cell (j:=0) rfl
     have w1:=rOw.cell (j:=1) rfl
     have w2:=rOw.cell (j:=2) rfl
     have w3:=rOw.cell (j:=3) rfl
     have hwa:=HWA.out
     rcases HSW.out with ⟨rfl,m0,hsome⟩ | ⟨rfl,hlen,hsome⟩
     ·have HSO:=Lib.hid hsome
      clear hsome HSW
      go_wp2_with fail
      refine HUU.out.mono ?_
      rintro r W4 ⟨y1,y2,y3,rfl,hA4,hx4⟩
      rename_i K1 hK1 K0 hK0
      have HK1:=Lib.hid hK1
      clear hK1
      simp only at hA4 ⊢
      obtain⟨Y1,y1n,rfl,-,-⟩:=hA4.seen.form
      obtain⟨Y2,y2n,rfl,-,-⟩:=hA4.counts.form
      obtain⟨Y3,y3n,rfl,-,-⟩:=hA4.items.form
      have hz4:=hx4.size
      have rB4:=rB3.ext hx4
      have rO4:=rO3.ext hx4
      have rR4:=rR3.ext hx4
      have rE4:=rE.ext hx4
      have hkp:=zdy W4 W3.heap.size e9 (.slice Y1 e9.seen.length y1n) (.slice Y2 e9.counts.length y2n) (.slice Y3 e9.items.length y3n)
      have hPs:W4.heap.size≤(put7 W4 W3.heap.size e9 (.slice Y1 e9.seen.length y1n) (.slice Y2 e9.counts.length y2n) (.slice Y3 e9.items.length y3n)).heap.size∧(put7 W4 W3.heap.size e9 (.slice Y1 e9.seen.length y1n) (.slice Y2 e9.counts.length y2n) (.slice Y3 e9.items.length y3n)).heap.size≤W4.heap.size:=by have:=zlh W4 W3.heap.size e9 (.slice Y1 e9.seen.length y1n) (.slice Y2 e9.counts.length y2n) (.slice Y3 e9.items.length y3n);omega
      have rB5:RowIs (put7 W4 W3.heap.size e9 (.slice Y1 e9.seen.length y1n) (.slice Y2 e9.counts.length y2n) (.slice Y3 e9.items.length y3n)) _ _ _ _:=rB4.keep (hkp _ hbne)
      have rO5:RowIs (put7 W4 W3.heap.size e9 (.slice Y1 e9.seen.length y1n) (.slice Y2 e9.counts.length y2n) (.slice Y3 e9.items.length y3n)) _ _ _ _:=rO4.keep (hkp _ hone)
      have rR5:RowIs (put7 W4 W3.heap.size e9 (.slice Y1 e9.seen.length y1n) (.slice Y2 e9.counts.length y2n) (.slice Y3 e9.items.length y3n)) _ _ _ _:=rR4.keep (hkp _ hrne)
      have rG5:RowIs (put7 W4 W3.heap.size e9 (.slice Y1 e9.seen.length y1n) (.slice Y2 e9.counts.length y2n) (.slice Y3 e9.items.length y3n)) _ _ _ _:=zms (e:=e9) (v1:=.slice Y1 e9.seen.length y1n) (v2:=.slice Y2 e9.counts.length y2n) (v3:=.slice Y3 e9.items.length y3n) rE4
      have hx5:Ext w (put7 W4 W3.heap.size e9 (.slice Y1 e9.seen.length y1n) (.slice Y2 e9.counts.length y2n) (.slice Y3 e9.items.length y3n)):=za7 (hx03.trans hx4) (by omega) e9 _ _ _
      have hEW:W3.heap.size < W4.heap.size:=by omega
      have HA5:Hid (EntAt (put7 W4 W3.heap.size e9 (.slice Y1 e9.seen.length y1n) (.slice Y2 e9.counts.length y2n) (.slice Y3 e9.items.length y3n)) (fun b=>W3.heap.size < b∧b < W4.heap.size) e9 _ _ _):=Lib.hid ((hA4.mono (S':=fun b=>W3.heap.size < b∧b < W4.heap.size) (fun b hb h=>⟨by omega,hb⟩)).keep fun b hb _=>hkp b (by omega))
      have H5:Hid (StAt (put7 W4 W3.heap.size e9 (.slice Y1 e9.seen.length y1n) (.slice Y2 e9.counts.length y2n) (.slice Y3 e9.items.length y3n)) (fun b=>b < w.heap.size) ⟨sa,se,sp⟩ _ _ _):=Lib.hid ((H3.out.ext hx4).keep fun b hb _=>hkp b (by omega))
      have e40:=rE4.cell (j:=0) rfl
      have e41:=rE4.cell (j:=1) rfl
      have e42:=rE4.cell (j:=2) rfl
      have e43:=rE4.cell (j:=3) rfl
      have e44:=rE4.cell (j:=4) rfl
      have e45:=rE4.cell (j:=5) rfl
      have e46:=rE4.cell (j:=6) rfl
      have ef0:=rE4.frozen 0
      have ef1:=rE4.frozen 1
      have ef2:=rE4.frozen 2
      have ef3:=rE4.frozen 3
      have ef4:=rE4.frozen 4
      have ef5:=rE4.frozen 5
      have ef6:=rE4.frozen 6
      have HP5:=Lib.hid (show _∧_∧_∧_∧_∧_ from ⟨rB5,rO5,rR5,rG5,hx5,hPs⟩)
      clear hA4 hx4 hkp HUU rB4 rE4 rO4 rR4 rB5 rO5 rR5 rG5 hx5 hPs rB3 rO3 rR3 rE rBw rOw rRw hx03 H3 hx3w hxb hz3 hEz
      clear e0 e1 e2 e3 e4 e5 e6 o0 o2 o3 o1' b1' w0 w1 w2 w3 bw1 hwa
      refine hK0 _ _ ?_
      clear hK0 K0
      go_wp
      refine HK1.out _ (put7 W4 W3.heap.size e9 (.slice Y1 e9.seen.length y1n) (.slice Y2 e9.counts.length y2n) (.slice Y3 e9.items.length y3n)) ?_
      clear HK1 K1 e40 e41 e42 e43 e44 e45 e46 ef0 ef1 ef2 ef3 ef4 ef5 ef6
      generalize (put7 W4 W3.heap.size e9 (.slice Y1 e9.seen.length y1n) (.slice Y2 e9.counts.length y2n) (.slice Y3 e9.items.length y3n))=W5 at *
      obtain⟨rB5,rO5,rR5,rG5,hx5,hPs⟩:=HP5.out
      clear HP5
      have b50:=rB5.cell (j:=0) rfl
      have b51:=rB5.cell (j:=1) rfl
      have b52:=rB5.cell (j:=2) rfl
      by_cases herr:err=0
      ·subst herr
       have HR:=Lib.hid (show updS ⟨sa,se,sp⟩ p (dO,k,n,tx)=(⟨setM sa p (z+1),zcw se k e9,sp⟩,0) from HRS4.out)
       have HC:=Lib.hid (zgt H5.out SM.out)
       clear HRS4
       refine wp_seq_k ?_
       intro K2 hK2
       have HK2:=Lib.hid hK2
       clear hK2
       go_wp
       refine HK2.out _ _ ?_
       clear HK2 K2
       refine wp_seq_k ?_
       intro K3 hK3
       have HK3:=Lib.hid hK3
       clear hK3
       go_wp
       refine HC.out.mono ?_
       rintro r W6 ⟨u1,u2,u3,rfl,hn6,hx6⟩
       obtain⟨B1,m1,rfl,-,-⟩:=hn6.all.form
       obtain⟨B2,m2,rfl,-,-⟩:=hn6.entries.form
       obtain⟨B3,m3,rfl,-,-⟩:=hn6.pruned.form
       clear HC b50 b51 b52
       have hz6:=hx6.size
       have rS6:=zac W6 30 [.slice B1 sa.length m1,.slice B2 se.length m2,.slice B3 sp.length m3]
       have hxa:=(Ext.refl W6).alloc (.cells #[.slice B1 sa.length m1,.slice B2 se.length m2,.slice B3 sp.length m3] 30)
       have hol6:w.heap.size+1 < W6.heap.size:=by omega
       have hx67:=hx6.trans hxa
       have o61:=(rO5.ext hx67).cell (j:=1) rfl
       have s71:=rS6.cell (j:=1) rfl
       have rG7:=rG5.ext hx67
       have rR7:=rR5.ext hx67
       have hx7:=hx5.trans hx67
       have HA7:=Lib.hid (HA5.out.ext hx67)
       have HN7:=Lib.hid ((hn6.at.mono (S':=fun b=>W5.heap.size≤b∧b < W6.heap.size) (fun b hb h=>⟨h,hb⟩)).ext hxa)
       have HE7:=Lib.hid (OwnL.ext (OwnL.mono hn6.entries (S':=fun b=>(W5.heap.size≤b∧¬ zae (.slice B2 se.length m2) b)∧b < W6.heap.size) (fun b hb h=>⟨h,hb⟩)) hxa)
       have hE6:∀ b,zae (.slice B2 se.length m2) b→W5.heap.size≤b∧b < W6.heap.size:=fun b hb=>hn6.entries.base_le hb
       have HSR:=Lib.hid (zjb k HN7.out.entries hri.out (Nat.le_trans SM.out.entries (by decide)))
       have hS6:=rS6.lt
       have HO6:=Lib.hid (show Own (W6.alloc (.cells #[.slice B1 sa.length m1,.slice B2 se.length m2,.slice B3 sp.length m3] 30)) W5.heap.size 25 2 (.slice B1 sa.length m1) sa.length (sa.flatMap zag)∧Own (W6.alloc (.cells #[.slice B1 sa.length m1,.slice B2 se.length m2,.slice B3 sp.length m3] 30)) W5.heap.size 9 1 (.slice B3 sp.length m3) sp.length (sp.flatMap strC)∧(∀ b,zae (.slice B1 sa.length m1) b→¬ zae (.slice B2 se.length m2) b)∧(∀ b,zae (.slice B3 sp.length m3) b→¬ zae (.slice B2 se.length m2) b) from by
        obtain⟨xE,hoE⟩:=hn6.entries.own
        exact⟨hn6.all.ext hxa,hn6.pruned.ext hxa,hn6.all.apart2 hoE (by decide),hn6.pruned.apart2 hoE (by decide)⟩)
       clear hn6 hx6 hxa hx67 rG5 rR5 hx5 HA5 H5 rO5
       rename_i K hK
       refine hK _ _ ?_
       clear hK K
       go_wp
       refine HK3.out _ _ ?_
       clear HK3 K3
       generalize W6.alloc (.cells #[.slice B1 sa.length m1,.slice B2 se.length m2,.slice B3 sp.length m3] 30)=W7 at *
       refine wp_seq_k ?_
       intro K5 hK5
       have HK5:=Lib.hid hK5
       clear hK5
       go_wp
       refine HSR.out.mono ?_
       rintro r W8 ⟨i,is2,rfl,hF,hx8⟩
       have rS8:=rS6.ext hx8
       have rG8:=rG7.ext hx8
       have rR8:=rR7.ext hx8
       have hx08:=hx7.trans hx8
       have hz8:=hx8.size
       clear rS6 rG7 rR7 hx7 HSR o61 s71
       obtain⟨hil,hput⟩:=zrs (e:=e9) hri.out hF HSO.out
       obtain⟨g,cap,X1,X2,tl,c0,c1x,c2x,c3x,c4,c5,c6,hv,hgb,hg,hX1,hfin⟩:=zs7 (S:=fun b=>W3.heap.size < b∧b < W4.heap.size) (Sx:=fun b=>W3.heap.size < b∧b < W6.heap.size) (OwnL.ext HE7.out hx8) hil (HA7.out.ext hx8) (fun b hb=>⟨fun ho=>by have:=hE6 b ho;omega,by omega⟩) (fun b hb=>⟨hb.1.2,by have:=hb.1.1;have:=hb.2;omega⟩) (fun b hb=>by have:=hE6 b hb;omega)
       obtain⟨e1,e2⟩:B2=some ⟨g,0,none⟩∧m2=cap:=by injection hv with a b c;exact⟨a,c⟩
       subst e1;subst e2
       clear hv
       have hm2:0 < m2:=by obtain⟨_,c,e,h1,_⟩:=HE7.out.form;injection e with _ _ e3;subst e3;exact Nat.lt_of_lt_of_le (Nat.lt_of_le_of_lt (Nat.zero_le i) hil) h1
       have hgE:=hE6 g ⟨g,_,_,rfl,hm2,rfl⟩
       obtain⟨k0,k1,k2,k3,k4,k5,k6⟩:=zui hg hX1
       have kf0:=hg.frozen (i * 7)
       have kf1:=hg.frozen (i * 7+1)
       have kf2:=hg.frozen (i * 7+2)
       have kf3:=hg.frozen (i * 7+3)
       have kf4:=hg.frozen (i * 7+4)
       have kf5:=hg.frozen (i * 7+5)
       have kf6:=hg.frozen (i * 7+6)
       have hi1:(i:Int) < (se.length:Int):=by omega
       have s1:=rS8.cell (j:=1) rfl
       have s0:=rS8.cell (j:=0) rfl
       have g0:=rG8.cell (j:=0) rfl
       have g1:=rG8.cell (j:=1) rfl
       have g2:=rG8.cell (j:=2) rfl
       have g3:=rG8.cell (j:=3) rfl
       have g4:=rG8.cell (j:=4) rfl
       have g5:=rG8.cell (j:=5) rfl
       have g6:=rG8.cell (j:=6) rfl
       have hgs:¬ (W6.heap.size=g):=by omega
       have hgs2:¬ (g=W6.heap.size):=by omega
       have hk9:∀ b,b ≠ g→(((((((W8.setCell ⟨g,i * 7,none⟩ (St e9.key)).setCell ⟨g,i * 7+1,none⟩ (.slice Y1 e9.seen.length y1n)).setCell ⟨g,i * 7+2,none⟩ (.slice Y2 e9.counts.length y2n)).setCell ⟨g,i * 7+3,none⟩ (.slice Y3 e9.items.length y3n)).setCell ⟨g,i * 7+4,none⟩ (U e9.cell.1)).setCell ⟨g,i * 7+5,none⟩ (St e9.cell.2.1)).setCell ⟨g,i * 7+6,none⟩ (.bool e9.cell.2.2)).heap[b]? = W8.heap[b]?:=fun b hb=>((((((Below.heap_setCell _ _ _ b hb).trans (Below.heap_setCell _ _ _ b hb)).trans (Below.heap_setCell _ _ _ b hb)).trans (Below.heap_setCell _ _ _ b hb)).trans (Below.heap_setCell _ _ _ b hb)).trans (Below.heap_setCell _ _ _ b hb)).trans (Below.heap_setCell _ _ _ b hb)
       have HE9:=Lib.hid (hfin (((((((W8.setCell ⟨g,i * 7,none⟩ (St e9.key)).setCell ⟨g,i * 7+1,none⟩ (.slice Y1 e9.seen.length y1n)).setCell ⟨g,i * 7+2,none⟩ (.slice Y2 e9.counts.length y2n)).setCell ⟨g,i * 7+3,none⟩ (.slice Y3 e9.items.length y3n)).setCell ⟨g,i * 7+4,none⟩ (U e9.cell.1)).setCell ⟨g,i * 7+5,none⟩ (St e9.cell.2.1)).setCell ⟨g,i * 7+6,none⟩ (.bool e9.cell.2.2)) (RowIs.set7 hg hX1 _ _ _ _ _ _ _) (fun b hb _=>hk9 b hb))
       have rS9:RowIs (((((((W8.setCell ⟨g,i * 7,none⟩ (St e9.key)).setCell ⟨g,i * 7+1,none⟩ (.slice Y1 e9.seen.length y1n)).setCell ⟨g,i * 7+2,none⟩ (.slice Y2 e9.counts.length y2n)).setCell ⟨g,i * 7+3,none⟩ (.slice Y3 e9.items.length y3n)).setCell ⟨g,i * 7+4,none⟩ (U e9.cell.1)).setCell ⟨g,i * 7+5,none⟩ (St e9.cell.2.1)).setCell ⟨g,i * 7+6,none⟩ (.bool e9.cell.2.2)) _ _ _ _:=rS8.keep (hk9 _ hgs)
       have rR9:RowIs (((((((W8.setCell ⟨g,i * 7,none⟩ (St e9.key)).setCell ⟨g,i * 7+1,none⟩ (.slice Y1 e9.seen.length y1n)).setCell ⟨g,i * 7+2,none⟩ (.slice Y2 e9.counts.length y2n)).setCell ⟨g,i * 7+3,none⟩ (.slice Y3 e9.items.length y3n)).setCell ⟨g,i * 7+4,none⟩ (U e9.cell.1)).setCell ⟨g,i * 7+5,none⟩ (St e9.cell.2.1)).setCell ⟨g,i * 7+6,none⟩ (.bool e9.cell.2.2)) _ _ _ _:=rR8.keep (hk9 _ (by omega))
       rw [hput] at HE9
       have hO1:=(HO6.out.1.ext hx8).keep (w':=(((((((W8.setCell ⟨g,i * 7,none⟩ (St e9.key)).setCell ⟨g,i * 7+1,none⟩ (.slice Y1 e9.seen.length y1n)).setCell ⟨g,i * 7+2,none⟩ (.slice Y2 e9.counts.length y2n)).setCell ⟨g,i * 7+3,none⟩ (.slice Y3 e9.items.length y3n)).setCell ⟨g,i * 7+4,none⟩ (U e9.cell.1)).setCell ⟨g,i * 7+5,none⟩ (St e9.cell.2.1)).setCell ⟨g,i * 7+6,none⟩ (.bool e9.cell.2.2))) fun b hb _=>hk9 b (fun e=>by subst e;exact HO6.out.2.2.1 _ hb ⟨_,_,_,rfl,hm2,rfl⟩)
       have hO3:=(HO6.out.2.1.ext hx8).keep (w':=(((((((W8.setCell ⟨g,i * 7,none⟩ (St e9.key)).setCell ⟨g,i * 7+1,none⟩ (.slice Y1 e9.seen.length y1n)).setCell ⟨g,i * 7+2,none⟩ (.slice Y2 e9.counts.length y2n)).setCell ⟨g,i * 7+3,none⟩ (.slice Y3 e9.items.length y3n)).setCell ⟨g,i * 7+4,none⟩ (U e9.cell.1)).setCell ⟨g,i * 7+5,none⟩ (St e9.cell.2.1)).setCell ⟨g,i * 7+6,none⟩ (.bool e9.cell.2.2))) fun b hb _=>hk9 b (fun e=>by subst e;exact HO6.out.2.2.2 _ hb ⟨_,_,_,rfl,hm2,rfl⟩)
       have hx9:Ext w (((((((W8.setCell ⟨g,i * 7,none⟩ (St e9.key)).setCell ⟨g,i * 7+1,none⟩ (.slice Y1 e9.seen.length y1n)).setCell ⟨g,i * 7+2,none⟩ (.slice Y2 e9.counts.length y2n)).setCell ⟨g,i * 7+3,none⟩ (.slice Y3 e9.items.length y3n)).setCell ⟨g,i * 7+4,none⟩ (U e9.cell.1)).setCell ⟨g,i * 7+5,none⟩ (St e9.cell.2.1)).setCell ⟨g,i * 7+6,none⟩ (.bool e9.cell.2.2)):=((((((hx08.set (p:=⟨g,i * 7,none⟩) (by simp;omega) _).set (p:=⟨g,i * 7+1,none⟩) (by simp;omega) _).set (p:=⟨g,i * 7+2,none⟩) (by simp;omega) _).set (p:=⟨g,i * 7+3,none⟩) (by simp;omega) _).set (p:=⟨g,i * 7+4,none⟩) (by simp;omega) _).set (p:=⟨g,i * 7+5,none⟩) (by simp;omega) _).set (p:=⟨g,i * 7+6,none⟩) (by simp;omega) _
       have hz9:(((((((W8.setCell ⟨g,i * 7,none⟩ (St e9.key)).setCell ⟨g,i * 7+1,none⟩ (.slice Y1 e9.seen.length y1n)).setCell ⟨g,i * 7+2,none⟩ (.slice Y2 e9.counts.length y2n)).setCell ⟨g,i * 7+3,none⟩ (.slice Y3 e9.items.length y3n)).setCell ⟨g,i * 7+4,none⟩ (U e9.cell.1)).setCell ⟨g,i * 7+5,none⟩ (St e9.cell.2.1)).setCell ⟨g,i * 7+6,none⟩ (.bool e9.cell.2.2)).heap.size=W8.heap.size:=by simp only [World.size_setCell]
       have HS:=Lib.hid (zg1 p (z+1) (za5 hO1) (Nat.le_trans SM.out.all (by decide)))
       clear HE7 HA7 HN7 hfin hg hk9 rS8 rG8 rR8 hx08 hx8 HO6 hgE hgb hF hput
       rename_i K hK
       refine hK _ _ ?_
       clear hK K
       go_wp
       refine HK5.out _ _ ?_
       clear HK5 K5
       refine wp_seq_k ?_
       intro K6 hK6
       have HK6:=Lib.hid hK6
       clear hK6
       go_wp
       refine HK6.out _ (((((((W8.setCell ⟨g,i * 7,none⟩ (St e9.key)).setCell ⟨g,i * 7+1,none⟩ (.slice Y1 e9.seen.length y1n)).setCell ⟨g,i * 7+2,none⟩ (.slice Y2 e9.counts.length y2n)).setCell ⟨g,i * 7+3,none⟩ (.slice Y3 e9.items.length y3n)).setCell ⟨g,i * 7+4,none⟩ (U e9.cell.1)).setCell ⟨g,i * 7+5,none⟩ (St e9.cell.2.1)).setCell ⟨g,i * 7+6,none⟩ (.bool e9.cell.2.2)) ?_
       clear HK6 K6
       generalize (((((((W8.setCell ⟨g,i * 7,none⟩ (St e9.key)).setCell ⟨g,i * 7+1,none⟩ (.slice Y1 e9.seen.length y1n)).setCell ⟨g,i * 7+2,none⟩ (.slice Y2 e9.counts.length y2n)).setCell ⟨g,i * 7+3,none⟩ (.slice Y3 e9.items.length y3n)).setCell ⟨g,i * 7+4,none⟩ (U e9.cell.1)).setCell ⟨g,i * 7+5,none⟩ (St e9.cell.2.1)).setCell ⟨g,i * 7+6,none⟩ (.bool e9.cell.2.2))=W9 at *
       have s90:=rS9.cell (j:=0) rfl
       have hwa2:=HWA.out
       refine wp_seq_k ?_
       intro K7 hK7
       have HK7:=Lib.hid hK7
       clear hK7
       go_wp
       clear s90 hwa2
       refine HS.out.mono ?_
       rintro r W10 ⟨u,rfl,ho,hx10⟩
       obtain⟨U1,un,rfl,-,-⟩:=ho.form
       have hz10:=hx10.size
       have rS10:=rS9.ext hx10
       have rR10:=rR9.ext hx10
       have y0:=rS10.cell (j:=0) rfl
       have y1:=rS10.cell (j:=1) rfl
       have y2:=rS10.cell (j:=2) rfl
       have yf:=rS10.frozen 0
       have rS11:=rS10.set (j:=0) (by simp) (.slice U1 (setM sa p (z+1)).length un)
       simp only [List.set_cons_zero] at rS11
       have z0:=rS11.cell (j:=0) rfl
       have z1:=rS11.cell (j:=1) rfl
       have z2:=rS11.cell (j:=2) rfl
       have rr0:=rR10.cell (j:=0) rfl
       have rr1:=rR10.cell (j:=1) rfl
       have rr2:=rR10.cell (j:=2) rfl
       have ff0:=rR10.frozen 0
       have ff1:=rR10.frozen 1
       have ff2:=rR10.frozen 2
       have rR11:=rR10.other (p:=⟨W6.heap.size,0,none⟩) (by simp;omega) (.slice U1 (setM sa p (z+1)).length un)
       have r0:=rR11.cell (j:=0) rfl
       have r1:=rR11.cell (j:=1) rfl
       have r2:=rR11.cell (j:=2) rfl
       have f0:=rR11.frozen 0
       have f1:=rR11.frozen 1
       have f2:=rR11.frozen 2
       have HX:=Lib.hid ((hx9.trans hx10).set (p:=⟨W6.heap.size,0,none⟩) (by simp;omega) (.slice U1 (setM sa p (z+1)).length un))
       have HO:=Lib.hid ho
       have HE10:=Lib.hid (HE9.out.ext (by decide) hx10)
       have HP10:=Lib.hid (hO3.ext hx10)
       have hP3:∀ b,zae (.slice B3 sp.length m3) b→b ≠ W6.heap.size:=fun b hb e=>(hO3.ext hx10).apart rS10 (by decide) (by rw [← e];exact hb)
       clear ho rS9 rR9 rS10 rR10 rS11 rR11 hx9 hx10 HS HE9 hO1 hO3
       rename_i K hK
       refine hK _ _ ?_
       clear hK K
       go_wp
       refine HK7.out _ _ ?_
       clear HK7 K7
       go_wp2_with fail
       (try simp only [Exit.inBlock,Exit.then])
       refine bodyPost_ret (v:=.tuple #[stV (.slice U1 (setM sa p (z+1)).length un) (.slice (some ⟨g,0,none⟩) se.length m2) (.slice B3 sp.length m3),I 0]) (by simp [results,Tryz.f11,go_sem,r0,r1,r2,rr0,rr1,rr2]) rfl ?_
       have hq:=zb7 (q:=w.heap.size+1+1) HX.out (by omega) (.slice U1 (setM sa p (z+1)).length un) (.slice (some ⟨g,0,none⟩) se.length m2) (.slice B3 sp.length m3)
       refine ⟨(.slice U1 (setM sa p (z+1)).length un),(.slice (some ⟨g,0,none⟩) se.length m2),.slice B3 sp.length m3,by (rw [HR.out];try rfl),?_⟩
       rw [HR.out]
       refine ⟨?_,hq⟩
       have hkp:∀ b,b ≠ W6.heap.size→b ≠ w.heap.size+1+1→(put3 (W10.setCell ⟨W6.heap.size,0,none⟩ (.slice U1 (setM sa p (z+1)).length un)) (w.heap.size+1+1) (.slice U1 (setM sa p (z+1)).length un) (.slice (some ⟨g,0,none⟩) se.length m2) (.slice B3 sp.length m3)).heap[b]? = W10.heap[b]?:=fun b h1 h2=>(zdz _ _ _ _ _ b h2).trans (Below.heap_setCell _ _ _ _ h1)
       refine ⟨?_,?_,?_⟩
       ·exact (za5 (HO.out.keep fun b hb _=>hkp b (by have:=(HO.out.base_le hb).1;omega) (by have:=(HO.out.base_le hb).1;omega))).mono (by decide) fun b _ h=>by omega
       ·exact (HE10.out.keep (by decide) fun b hb _=>hkp b (by omega) (by omega)).mono (by decide) fun b _ hb=>by omega
       ·exact ((OwnL.flat_iff (S:=fun b=>W5.heap.size≤b)).2 (HP10.out.keep fun b hb _=>hkp b (hP3 b hb) (by have:=(HP10.out.base_le hb).1;omega))).sl (by decide) (fun b _ h=>by omega) (fun b h _=>by omega)
      ·have HR:=Lib.hid (show updS ⟨sa,se,sp⟩ p (dO,k,n,tx)=(za4,err) by rw [HRS4.out];exact if_neg herr)
       have hne9:((err:Int) == 0)=false:=neI (by omega)
       have r0:=rR5.cell (j:=0) rfl
       have r1:=rR5.cell (j:=1) rfl
       have r2:=rR5.cell (j:=2) rfl
       have f0:=rR5.frozen 0
       have f1:=rR5.frozen 1
       have f2:=rR5.frozen 2
       have HX:=Lib.hid hx5
       clear hx5 rB5 rR5 rO5 rG5 HA5 H5 HRS4
       go_wp2_with fail
       (try simp only [Exit.inBlock,Exit.then])
       refine bodyPost_ret (v:=.tuple #[stV (.slice none 0 0) (.slice none 0 0) (.slice none 0 0),I err]) (by simp [results,Tryz.f11,go_sem,r0,r1,r2]) rfl ?_
       have hq:=zb7 (q:=w.heap.size+1+1) HX.out (by omega) (.slice none 0 0) (.slice none 0 0) (.slice none 0 0)
       refine ⟨.slice none 0 0,.slice none 0 0,.slice none 0 0,by (rw [HR.out];try rfl),?_⟩
       rw [HR.out]
       exact⟨StAt.none _ _ _ _ _,hq⟩
     ·have HSO:=Lib.hid hsome
      clear hsome HSW
      go_wp2_with fail
      refine HUU.out.mono ?_
      rintro r W4 ⟨y1,y2,y3,rfl,hA4,hx4⟩
      rename_i K1 hK1 K0 hK0
      have HK1:=Lib.hid hK1
      clear hK1
      simp only at hA4 ⊢
      obtain⟨Y1,y1n,rfl,-,-⟩:=hA4.seen.form
      obtain⟨Y2,y2n,rfl,-,-⟩:=hA4.counts.form
      obtain⟨Y3,y3n,rfl,-,-⟩:=hA4.items.form
      have hz4:=hx4.size
      have rB4:=rB3.ext hx4
      have rO4:=rO3.ext hx4
      have rR4:=rR3.ext hx4
      have rE4:=rE.ext hx4
      have hkp:=zdy W4 W3.heap.size e9 (.slice Y1 e9.seen.length y1n) (.slice Y2 e9.counts.length y2n) (.slice Y3 e9.items.length y3n)
      have hPs:W4.heap.size≤(put7 W4 W3.heap.size e9 (.slice Y1 e9.seen.length y1n) (.slice Y2 e9.counts.length y2n) (.slice Y3 e9.items.length y3n)).heap.size∧(put7 W4 W3.heap.size e9 (.slice Y1 e9.seen.length y1n) (.slice Y2 e9.counts.length y2n) (.slice Y3 e9.items.length y3n)).heap.size≤W4.heap.size:=by have:=zlh W4 W3.heap.size e9 (.slice Y1 e9.seen.length y1n) (.slice Y2 e9.counts.length y2n) (.slice Y3 e9.items.length y3n);omega
      have rB5:RowIs (put7 W4 W3.heap.size e9 (.slice Y1 e9.seen.length y1n) (.slice Y2 e9.counts.length y2n) (.slice Y3 e9.items.length y3n)) _ _ _ _:=rB4.keep (hkp _ hbne)
      have rO5:RowIs (put7 W4 W3.heap.size e9 (.slice Y1 e9.seen.length y1n) (.slice Y2 e9.counts.length y2n) (.slice Y3 e9.items.length y3n)) _ _ _ _:=rO4.keep (hkp _ hone)
      have rR5:RowIs (put7 W4 W3.heap.size e9 (.slice Y1 e9.seen.length y1n) (.slice Y2 e9.counts.length y2n) (.slice Y3 e9.items.length y3n)) _ _ _ _:=rR4.keep (hkp _ hrne)
      have rG5:RowIs (put7 W4 W3.heap.size e9 (.slice Y1 e9.seen.length y1n) (.slice Y2 e9.counts.length y2n) (.slice Y3 e9.items.length y3n)) _ _ _ _:=zms (e:=e9) (v1:=.slice Y1 e9.seen.length y1n) (v2:=.slice Y2 e9.counts.length y2n) (v3:=.slice Y3 e9.items.length y3n) rE4
      have hx5:Ext w (put7 W4 W3.heap.size e9 (.slice Y1 e9.seen.length y1n) (.slice Y2 e9.counts.length y2n) (.slice Y3 e9.items.length y3n)):=za7 (hx03.trans hx4) (by omega) e9 _ _ _
      have hEW:W3.heap.size < W4.heap.size:=by omega
      have HA5:Hid (EntAt (put7 W4 W3.heap.size e9 (.slice Y1 e9.seen.length y1n) (.slice Y2 e9.counts.length y2n) (.slice Y3 e9.items.length y3n)) (fun b=>W3.heap.size < b∧b < W4.heap.size) e9 _ _ _):=Lib.hid ((hA4.mono (S':=fun b=>W3.heap.size < b∧b < W4.heap.size) (fun b hb h=>⟨by omega,hb⟩)).keep fun b hb _=>hkp b (by omega))
      have H5:Hid (StAt (put7 W4 W3.heap.size e9 (.slice Y1 e9.seen.length y1n) (.slice Y2 e9.counts.length y2n) (.slice Y3 e9.items.length y3n)) (fun b=>b < w.heap.size) ⟨sa,se,sp⟩ _ _ _):=Lib.hid ((H3.out.ext hx4).keep fun b hb _=>hkp b (by omega))
      have e40:=rE4.cell (j:=0) rfl
      have e41:=rE4.cell (j:=1) rfl
      have e42:=rE4.cell (j:=2) rfl
      have e43:=rE4.cell (j:=3) rfl
      have e44:=rE4.cell (j:=4) rfl
      have e45:=rE4.cell (j:=5) rfl
      have e46:=rE4.cell (j:=6) rfl
      have ef0:=rE4.frozen 0
      have ef1:=rE4.frozen 1
      have ef2:=rE4.frozen 2
      have ef3:=rE4.frozen 3
      have ef4:=rE4.frozen 4
      have ef5:=rE4.frozen 5
      have ef6:=rE4.frozen 6
      have HP5:=Lib.hid (show _∧_∧_∧_∧_∧_ from ⟨rB5,rO5,rR5,rG5,hx5,hPs⟩)
      clear hA4 hx4 hkp HUU rB4 rE4 rO4 rR4 rB5 rO5 rR5 rG5 hx5 hPs rB3 rO3 rR3 rE rBw rOw rRw hx03 H3 hx3w hxb hz3 hEz
      clear e0 e1 e2 e3 e4 e5 e6 o0 o2 o3 o1' b1' w0 w1 w2 w3 bw1 hwa
      refine hK0 _ _ ?_
      clear hK0 K0
      go_wp
      refine HK1.out _ (put7 W4 W3.heap.size e9 (.slice Y1 e9.seen.length y1n) (.slice Y2 e9.counts.length y2n) (.slice Y3 e9.items.length y3n)) ?_
      clear HK1 K1 e40 e41 e42 e43 e44 e45 e46 ef0 ef1 ef2 ef3 ef4 ef5 ef6
      generalize (put7 W4 W3.heap.size e9 (.slice Y1 e9.seen.length y1n) (.slice Y2 e9.counts.length y2n) (.slice Y3 e9.items.length y3n))=W5 at *
      obtain⟨rB5,rO5,rR5,rG5,hx5,hPs⟩:=HP5.out
      clear HP5
      have b50:=rB5.cell (j:=0) rfl
      have b51:=rB5.cell (j:=1) rfl
      have b52:=rB5.cell (j:=2) rfl
      by_cases herr:err=0
      ·subst herr
       have HR:=Lib.hid (show updS ⟨sa,se,sp⟩ p (dO,k,n,tx)=(⟨setM sa p (z+1),zcw se k e9,sp⟩,0) from HRS4.out)
       have HC:=Lib.hid (zgt H5.out SM.out)
       clear HRS4
       refine wp_seq_k ?_
       intro K2 hK2
       have HK2:=Lib.hid hK2
       clear hK2
       go_wp
       refine HK2.out _ _ ?_
       clear HK2 K2
       refine wp_seq_k ?_
       intro K3 hK3
       have HK3:=Lib.hid hK3
       clear hK3
       go_wp
       refine HC.out.mono ?_
       rintro r W6 ⟨u1,u2,u3,rfl,hn6,hx6⟩
       obtain⟨B1,m1,rfl,-,-⟩:=hn6.all.form
       obtain⟨B2,m2,rfl,-,-⟩:=hn6.entries.form
       obtain⟨B3,m3,rfl,-,-⟩:=hn6.pruned.form
       clear HC b50 b51 b52
       have hz6:=hx6.size
       have rS6:=zac W6 30 [.slice B1 sa.length m1,.slice B2 se.length m2,.slice B3 sp.length m3]
       have hxa:=(Ext.refl W6).alloc (.cells #[.slice B1 sa.length m1,.slice B2 se.length m2,.slice B3 sp.length m3] 30)
       have hol6:w.heap.size+1 < W6.heap.size:=by omega
       have hx67:=hx6.trans hxa
       have o61:=(rO5.ext hx67).cell (j:=1) rfl
       have s71:=rS6.cell (j:=1) rfl
       have rG7:=rG5.ext hx67
       have rR7:=rR5.ext hx67
       have hx7:=hx5.trans hx67
       have HA7:=Lib.hid (HA5.out.ext hx67)
       have HN7:=Lib.hid ((hn6.at.mono (S':=fun b=>W5.heap.size≤b∧b < W6.heap.size) (fun b hb h=>⟨h,hb⟩)).ext hxa)
       have HE7:=Lib.hid (OwnL.ext (OwnL.mono hn6.entries (S':=fun b=>(W5.heap.size≤b∧¬ zae (.slice B2 se.length m2) b)∧b < W6.heap.size) (fun b hb h=>⟨h,hb⟩)) hxa)
       have hE6:∀ b,zae (.slice B2 se.length m2) b→W5.heap.size≤b∧b < W6.heap.size:=fun b hb=>hn6.entries.base_le hb
       have HSR:=Lib.hid (zjb k HN7.out.entries hri.out (Nat.le_trans SM.out.entries (by decide)))
       have hS6:=rS6.lt
       have HO6:=Lib.hid (show Own (W6.alloc (.cells #[.slice B1 sa.length m1,.slice B2 se.length m2,.slice B3 sp.length m3] 30)) W5.heap.size 25 2 (.slice B1 sa.length m1) sa.length (sa.flatMap zag)∧Own (W6.alloc (.cells #[.slice B1 sa.length m1,.slice B2 se.length m2,.slice B3 sp.length m3] 30)) W5.heap.size 9 1 (.slice B3 sp.length m3) sp.length (sp.flatMap strC)∧(∀ b,zae (.slice B1 sa.length m1) b→¬ zae (.slice B2 se.length m2) b)∧(∀ b,zae (.slice B3 sp.length m3) b→¬ zae (.slice B2 se.length m2) b) from by
        obtain⟨xE,hoE⟩:=hn6.entries.own
        exact⟨hn6.all.ext hxa,hn6.pruned.ext hxa,hn6.all.apart2 hoE (by decide),hn6.pruned.apart2 hoE (by decide)⟩)
       clear hn6 hx6 hxa hx67 rG5 rR5 hx5 HA5 H5 rO5
       rename_i K hK
       refine hK _ _ ?_
       clear hK K
       go_wp
       refine HK3.out _ _ ?_
       clear HK3 K3
       generalize W6.alloc (.cells #[.slice B1 sa.length m1,.slice B2 se.length m2,.slice B3 sp.length m3] 30)=W7 at *
       refine wp_seq_k ?_
       intro K5 hK5
       have HK5:=Lib.hid hK5
       clear hK5
       go_wp
       refine HSR.out.mono ?_
       rintro r W8 ⟨i,is2,rfl,hF,hx8⟩
       have rS8:=rS6.ext hx8
       have rG8:=rG7.ext hx8
       have rR8:=rR7.ext hx8
       have hx08:=hx7.trans hx8
       have hz8:=hx8.size
       clear rS6 rG7 rR7 hx7 HSR o61 s71
       obtain⟨hil,hput⟩:=ztv (e:=e9) hri.out hF HSO.out
       have hxv:=(Ext.refl W8).alloc (.cells (entL e9 (.slice Y1 e9.seen.length y1n) (.slice Y2 e9.counts.length y2n) (.slice Y3 e9.items.length y3n)).toArray 37)
       have rV:=zac W8 37 (entL e9 (.slice Y1 e9.seen.length y1n) (.slice Y2 e9.counts.length y2n) (.slice Y3 e9.items.length y3n))
       have hVl:=rV.lt
       obtain⟨xs,hown,hone1,hfin⟩:=zno (S:=fun b=>W3.heap.size < b∧b < W4.heap.size) (Sx:=fun b=>W3.heap.size < b∧b ≠ W6.heap.size) (OwnL.ext HE7.out (hx8.trans hxv)) hil (HA7.out.ext (hx8.trans hxv)) (fun b hb=>⟨fun ho=>by have:=hE6 b ho;omega,by omega,by omega⟩) (fun b hb=>⟨hb.1.2,by have:=hb.1.1;have:=hb.2;omega,by have:=hb.2;omega⟩) (fun b hb=>by have:=hE6 b hb;omega) (by omega)
       have hoV:=zeh ((HA7.out.ext (hx8.trans hxv)).rd (S':=fun _=>True) (fun _ _ _=>trivial))
       have HI:=Lib.hid (znj hown rV rfl hoV hone1 hil SM.out.entries (by omega) (fun ho=>by have:=hE6 _ ho;omega))
       have g0:=rG8.cell (j:=0) rfl
       have g1:=rG8.cell (j:=1) rfl
       have g2:=rG8.cell (j:=2) rfl
       have g3:=rG8.cell (j:=3) rfl
       have g4:=rG8.cell (j:=4) rfl
       have g5:=rG8.cell (j:=5) rfl
       have g6:=rG8.cell (j:=6) rfl
       have s1:=rS8.cell (j:=1) rfl
       have hso:∀ b,zae (.slice B2 se.length m2) b→b ≠ W6.heap.size:=fun b hb=>by have:=hE6 b hb;omega
       have rSv:=rS8.ext hxv
       have rRv:=rR8.ext hxv
       have hx0v:=hx08.trans hxv
       have HO8:=Lib.hid ((⟨HO6.out.1.ext (hx8.trans hxv),HO6.out.2.1.ext (hx8.trans hxv)⟩:_∧_))
       clear HE7 HA7 HN7 rG8 rR8 hx08 rS8 hF
       rename_i K hK
       refine hK _ _ ?_
       clear hK K
       go_wp
       refine HK5.out _ _ ?_
       clear HK5 K5
       refine wp_seq_k ?_
       intro K6 hK6
       have HK6:=Lib.hid hK6
       clear hK6
       go_wp
       generalize W8.alloc (.cells (entL e9 (.slice Y1 e9.seen.length y1n) (.slice Y2 e9.counts.length y2n) (.slice Y3 e9.items.length y3n)).toArray 37)=Wv at *
       refine HI.out.mono ?_
       rintro r W9 ⟨v9,rfl,hown9,hgr⟩
       have HE9a:=hfin W9 v9 hown9 hgr
       rw [hput] at HE9a
       have hlen9:(zcw se k e9).length=se.length+1:=by rw [← hput];simp;omega
       obtain⟨AV,cV,rfl,-,-⟩:=hown9.form
       have rSw:=rSv.keep (hgr.same _ rSv.lt (fun ho=>hso _ ho rfl))
       have rRw9:=rRv.keep (hgr.same _ rRv.lt (fun ho=>by have:=hE6 _ ho;omega))
       have hO1w:=HO8.out.1.keep fun b hb hlt=>hgr.same b hlt (fun ho=>HO6.out.2.2.1 b hb ho)
       have hO3w:=HO8.out.2.keep fun b hb hlt=>hgr.same b hlt (fun ho=>HO6.out.2.2.2 b hb ho)
       have hx0w:=hx0v.grew hgr (fun b hb=>by have:=hE6 b hb;omega)
       have sw0:=rSw.cell (j:=0) rfl
       have sw1:=rSw.cell (j:=1) rfl
       have swf:=rSw.frozen 1
       have rS9:=rSw.set (j:=1) (by simp) (.slice AV (se.length+1) cV)
       simp only [List.set_cons_succ,List.set_cons_zero] at rS9
       have rR9:=rRw9.other (p:=⟨W6.heap.size,1,none⟩) (by simp;omega) (.slice AV (se.length+1) cV)
       have hO1:=hO1w.keep (w':=W9.setCell ⟨W6.heap.size,1,none⟩ (.slice AV (se.length+1) cV)) fun b hb _=>Below.heap_setCell _ _ _ _ (fun e=>hO1w.apart rSw (by decide) (by have e2:b=W6.heap.size:=e;rw [← e2];exact hb))
       have hO3:=hO3w.keep (w':=W9.setCell ⟨W6.heap.size,1,none⟩ (.slice AV (se.length+1) cV)) fun b hb _=>Below.heap_setCell _ _ _ _ (fun e=>hO3w.apart rSw (by decide) (by have e2:b=W6.heap.size:=e;rw [← e2];exact hb))
       have HE9:=Lib.hid (HE9a.keep (w':=W9.setCell ⟨W6.heap.size,1,none⟩ (.slice AV (se.length+1) cV)) (by decide) fun b hb _=>Below.heap_setCell _ _ _ _ (fun e=>hb.2 e))
       have hx9:=hx0w.set (p:=⟨W6.heap.size,1,none⟩) (by simp;omega) (.slice AV (se.length+1) cV)
       have hz9:(W9.setCell ⟨W6.heap.size,1,none⟩ (.slice AV (se.length+1) cV)).heap.size=W9.heap.size:=World.size_setCell _ _ _
       have hz9b:=hgr.size
       have HS:=Lib.hid (zg1 p (z+1) (za5 hO1) (Nat.le_trans SM.out.all (by decide)))
       clear rSv rRv hx0v hO1w hO3w hx0w HE9a hown9 hgr hfin hown HI rSw rRw9 hx8 HO6 HO8
       rename_i K hK
       refine hK _ _ ?_
       clear hK K
       go_wp
       refine HK6.out _ _ ?_
       clear HK6 K6
       generalize W9.setCell ⟨W6.heap.size,1,none⟩ (.slice AV (se.length+1) cV)=W9s at *
       have s90:=rS9.cell (j:=0) rfl
       have hwa2:=HWA.out
       refine wp_seq_k ?_
       intro K7 hK7
       have HK7:=Lib.hid hK7
       clear hK7
       go_wp
       clear s90 hwa2
       refine HS.out.mono ?_
       rintro r W10 ⟨u,rfl,ho,hx10⟩
       obtain⟨U1,un,rfl,-,-⟩:=ho.form
       have hz10:=hx10.size
       have rS10:=rS9.ext hx10
       have rR10:=rR9.ext hx10
       have y0:=rS10.cell (j:=0) rfl
       have y1:=rS10.cell (j:=1) rfl
       have y2:=rS10.cell (j:=2) rfl
       have yf:=rS10.frozen 0
       have rS11:=rS10.set (j:=0) (by simp) (.slice U1 (setM sa p (z+1)).length un)
       simp only [List.set_cons_zero] at rS11
       have z0:=rS11.cell (j:=0) rfl
       have z1:=rS11.cell (j:=1) rfl
       have z2:=rS11.cell (j:=2) rfl
       have rr0:=rR10.cell (j:=0) rfl
       have rr1:=rR10.cell (j:=1) rfl
       have rr2:=rR10.cell (j:=2) rfl
       have ff0:=rR10.frozen 0
       have ff1:=rR10.frozen 1
       have ff2:=rR10.frozen 2
       have rR11:=rR10.other (p:=⟨W6.heap.size,0,none⟩) (by simp;omega) (.slice U1 (setM sa p (z+1)).length un)
       have r0:=rR11.cell (j:=0) rfl
       have r1:=rR11.cell (j:=1) rfl
       have r2:=rR11.cell (j:=2) rfl
       have f0:=rR11.frozen 0
       have f1:=rR11.frozen 1
       have f2:=rR11.frozen 2
       have HX:=Lib.hid ((hx9.trans hx10).set (p:=⟨W6.heap.size,0,none⟩) (by simp;omega) (.slice U1 (setM sa p (z+1)).length un))
       have HO:=Lib.hid ho
       have HE10:=Lib.hid (HE9.out.ext (by decide) hx10)
       have HP10:=Lib.hid (hO3.ext hx10)
       have hP3:∀ b,zae (.slice B3 sp.length m3) b→b ≠ W6.heap.size:=fun b hb e=>(hO3.ext hx10).apart rS10 (by decide) (by rw [← e];exact hb)
       clear ho rS9 rR9 rS10 rR10 rS11 rR11 hx9 hx10 HS HE9 hO1 hO3
       rename_i K hK
       refine hK _ _ ?_
       clear hK K
       go_wp
       refine HK7.out _ _ ?_
       clear HK7 K7
       go_wp2_with fail
       (try simp only [Exit.inBlock,Exit.then])
       refine bodyPost_ret (v:=.tuple #[stV (.slice U1 (setM sa p (z+1)).length un) (.slice AV (se.length+1) cV) (.slice B3 sp.length m3),I 0]) (by simp [results,Tryz.f11,go_sem,r0,r1,r2,rr0,rr1,rr2]) rfl ?_
       have hq:=zb7 (q:=w.heap.size+1+1) HX.out (by omega) (.slice U1 (setM sa p (z+1)).length un) (.slice AV (se.length+1) cV) (.slice B3 sp.length m3)
       refine ⟨(.slice U1 (setM sa p (z+1)).length un),(.slice AV (se.length+1) cV),.slice B3 sp.length m3,by (rw [HR.out];try rfl),?_⟩
       rw [HR.out]
       refine ⟨?_,hq⟩
       have hkp:∀ b,b ≠ W6.heap.size→b ≠ w.heap.size+1+1→(put3 (W10.setCell ⟨W6.heap.size,0,none⟩ (.slice U1 (setM sa p (z+1)).length un)) (w.heap.size+1+1) (.slice U1 (setM sa p (z+1)).length un) (.slice AV (se.length+1) cV) (.slice B3 sp.length m3)).heap[b]? = W10.heap[b]?:=fun b h1 h2=>(zdz _ _ _ _ _ b h2).trans (Below.heap_setCell _ _ _ _ h1)
       refine ⟨?_,?_,?_⟩
       ·exact (za5 (HO.out.keep fun b hb _=>hkp b (by have:=(HO.out.base_le hb).1;omega) (by have:=(HO.out.base_le hb).1;omega))).mono (by decide) fun b _ h=>by omega
       ·exact (HE10.out.keep (by decide) fun b hb _=>hkp b (by omega) (by omega)).mono (by decide) fun b _ hb=>by omega
       ·exact ((OwnL.flat_iff (S:=fun b=>W5.heap.size≤b)).2 (HP10.out.keep fun b hb _=>hkp b (hP3 b hb) (by have:=(HP10.out.base_le hb).1;omega))).sl (by decide) (fun b _ h=>by omega) (fun b h _=>by omega)
      ·have HR:=Lib.hid (show updS ⟨sa,se,sp⟩ p (dO,k,n,tx)=(za4,err) by rw [HRS4.out];exact if_neg herr)
       have hne9:((err:Int) == 0)=false:=neI (by omega)
       have r0:=rR5.cell (j:=0) rfl
       have r1:=rR5.cell (j:=1) rfl
       have r2:=rR5.cell (j:=2) rfl
       have f0:=rR5.frozen 0
       have f1:=rR5.frozen 1
       have f2:=rR5.frozen 2
       have HX:=Lib.hid hx5
       clear hx5 rB5 rR5 rO5 rG5 HA5 H5 HRS4
       go_wp2_with fail
       (try simp only [Exit.inBlock,Exit.then])
       refine bodyPost_ret (v:=.tuple #[stV (.slice none 0 0) (.slice none 0 0) (.slice none 0 0),I err]) (by simp [results,Tryz.f11,go_sem,r0,r1,r2]) rfl ?_
       have hq:=zb7 (q:=w.heap.size+1+1) HX.out (by omega) (.slice none 0 0) (.slice none 0 0) (.slice none 0 0)
       refine ⟨.slice none 0 0,.slice none 0 0,.slice none 0 0,by (rw [HR.out];try rfl),?_⟩
       rw [HR.out]
       exact⟨StAt.none _ _ _ _ _,hq⟩
end
section
abbrev opA:OpD:=(1,[35,110],5,[])
abbrev opB:OpD:=(1,[35,110],2,[])
abbrev op0:OpD:=(0,[],0,[])
def entA:Entry:=⟨[35,110],[([49],1)],[([49],5,0)],[],0,[],false⟩
def entB:Entry:=⟨[35,110],[([49,46,49],1)],[([49,46,49],2,0)],[],0,[],false⟩
def entJ:Entry:=⟨[35,110],[([49],1),([49,46,49],1)],[([49],5,0),([49,46,49],2,0)],[],0,[],false⟩
def stA:State:=⟨[([49],1)],[entA],[]⟩
def stB:State:=⟨[([49,46,49],1)],[entB],[]⟩
def stJ:State:=⟨[([49],1),([49,46,49],1)],[entJ],[]⟩
def stR:State:=⟨[([49],4)],[entA],[]⟩
def stE:State:=⟨[([49],1),([49,46,49],1)],[],[]⟩
theorem ztw:updS za4 [49] opA=(stA,0):=by kernel_rfl
theorem ztx:updS za4 [49,46,49] opB=(stB,0):=by kernel_rfl
theorem zty:zdh stA [49] 3=(stR,0):=by kernel_rfl
theorem ztz:updS stA [] op0=(za4,2):=by kernel_rfl
theorem zt0:zij stJ stA.all=stJ:=by kernel_rfl
theorem ztd:zaq stA.all []=stA.all:=by kernel_rfl
theorem zt1:zij stJ stJ.all=stE:=by kernel_rfl
theorem zt2:zax stJ.entries [35,110]=some entJ:=by kernel_rfl
theorem zt3:atE stJ.entries [35,110]=entJ:=by kernel_rfl
theorem zt4:zaj entJ.key=1:=by kernel_rfl
theorem zt5:zcq entJ.counts=7:=by kernel_rfl
theorem zt6:ofM stR.all [49]=4:=by kernel_rfl
theorem zru:mayS stJ=true:=by kernel_rfl
theorem zte (a:Str):zbr [a] [a] = [a]:=by rw [zmq];simp [zbr]
theorem zpf:zbd [[49],[49,46,49]] = [[49],[49,46,49]]:=List.mergeSort_of_pairwise (by decide)
theorem zli {a b:List zal} (h:(zbj (a++b)).map Prod.fst = [[49],[49,46,49]]):zcx a b=zbk (zbj (a++b)) (zbn (a++b)) [[49],[49,46,49]]:=by
 unfold zcx zhl
 rw [h,zpf]
theorem zkc {a b:Entry} (h1:zau a zad=false) (h2:a.key=b.key):zba a b=⟨a.key,zaq a.seen b.seen,zcx a.counts b.counts,zea a.items a.seen b.items b.seen,zd4 a.cell b.cell⟩:=by
 unfold zba
 rw [h1,if_neg (by simp),if_pos h2]
theorem zkd {a b:Entry} {k:Str} (h1:a.key=k) (h2:b.key=k):zii [a] [b] = [zba a b]:=by
 unfold zii
 rw [show zbi [a] [b] = [k] by unfold zbi;simp only [List.map_cons,List.map_nil,h1,h2];exact zte _]
 simp [getE,zax,h1,h2]
theorem zlj:Lib.compact (zbd ([]++[])) = []:=by kernel_rfl
theorem ztf:zba entA entB=entJ:=by
 rw [zkc (a:=entA) (b:=entB) (by kernel_rfl) rfl,zli (by kernel_rfl)]
 kernel_rfl
theorem zrv:zba entA entJ=entJ:=by
 rw [zkc (a:=entA) (b:=entJ) (by kernel_rfl) rfl,zli (by kernel_rfl)]
 kernel_rfl
theorem zt7:ze4 stA stB=stJ:=by
 unfold ze4
 rw [show zii stA.entries stB.entries = [entJ] from (zkd (k:=[35,110]) rfl rfl).trans (by rw [ztf]),show Lib.compact (zbd (stA.pruned++stB.pruned)) = [] from zlj]
 kernel_rfl
theorem ztg:ze4 stA stJ=stJ:=by
 unfold ze4
 rw [show zii stA.entries stJ.entries = [entJ] from (zkd (k:=[35,110]) rfl rfl).trans (by rw [zrv]),show Lib.compact (zbd (stA.pruned++stJ.pruned)) = [] from zlj]
 kernel_rfl
theorem zt8:zc7 stA stA.all stJ=(stJ,0):=by
 unfold zc7
 rw [ztg,if_pos (by kernel_rfl)]
theorem zth:zc7 za4 stA.all stJ=(za4,160):=by
 unfold zc7
 rw [if_neg (by rw [Bool.not_eq_true];kernel_rfl)]
theorem zgz:SmallS za4:=⟨by decide,by decide,by decide,fun e h=>by cases h⟩
theorem zpg:SmallE entA:=⟨by decide,by decide,by decide,(fun it h=>by cases h),by decide⟩
theorem zph:SmallE entJ:=⟨by decide,by decide,by decide,(fun it h=>by cases h),by decide⟩
theorem zpi:SmallE entB:=⟨by decide,by decide,by decide,(fun it h=>by cases h),by decide⟩
theorem zgu:SmallS stA:=⟨by decide,by decide,by decide,fun e h=>by rw [List.mem_singleton.1 h];exact zpg⟩
theorem zrw:SmallS stB:=⟨by decide,by decide,by decide,fun e h=>by rw [List.mem_singleton.1 h];exact zpi⟩
theorem small_stJ:SmallS stJ:=⟨by decide,by decide,by decide,fun e h=>by rw [List.mem_singleton.1 h];exact zph⟩
end
end Go.Proofs.YtdikcgmdmcfpfaaGreat
