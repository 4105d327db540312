/- Contracts and plain laws. -/
import Derived.Test.YtdikcgmdmcfpfaaGreatJo34
import Derived.Test.YtdikcgmdmcfpfaaGreatJo38
import Derived.Test.YtdikcgmdmcfpfaaGreatJo35
import Derived.Test.YtdikcgmdmcfpfaaGreatJo36
import Derived.Test.YtdikcgmdmcfpfaaGreatJo08
import Derived.Test.YtdikcgmdmcfpfaaGreatJo32
import Derived.Test.YtdikcgmdmcfpfaaGreatJo28
import Derived.Test.YtdikcgmdmcfpfaaGreatJo24
import Derived.Test.YtdikcgmdmcfpfaaGreatJo29
import Derived.Test.YtdikcgmdmcfpfaaGreatJo30
set_option linter.unusedVariables false
set_option linter.unusedSimpArgs false
set_option maxRecDepth 100000
set_option maxHeartbeats 40000000
namespace Go.Proofs.YtdikcgmdmcfpfaaGreat
section
open Go.RowKit Go.Shelf
def zba:State:=⟨[],[],[]⟩
abbrev put3 (w:World) (q:Nat) (v1 v2 v3:Value):World:=((w.setCell ⟨q,0,none⟩ v1).setCell ⟨q,1,none⟩ v2).setCell ⟨q,2,none⟩ v3
theorem zcv {w wr:World} {q:Nat} (hx:Ext w wr) (hq:w.heap.size<=q) (v1 v2 v3:Value):Ext w (put3 wr q v1 v2 v3) :=
 ((hx.set (p:=⟨q,0,none⟩) hq _).set (p:=⟨q,1,none⟩) hq _).set (p:=⟨q,2,none⟩) hq _
theorem ze1 (w:World) (q:Nat) (v1 v2 v3:Value) (b:Nat) (hb:b ≠ q):(put3 w q v1 v2 v3).heap[b]? = w.heap[b]? :=
 ((Below.heap_setCell _ _ _ b hb).trans (Below.heap_setCell _ _ _ b hb)).trans (Below.heap_setCell _ _ _ b hb)
theorem StAt.none (w:World) (S:Nat->Prop) (A B C:Option Addr):StAt w S zba (.slice A 0 0) (.slice B 0 0) (.slice C 0 0):=⟨Sl.nil _ _ (by decide),Sl.nil _ _ (by decide),Sl.nil _ _ (by decide)⟩
theorem StAt.keep {W w:World} {S:Nat->Prop} {s:State} {v1 v2 v3:Value} (h:StAt W S s v1 v2 v3) (hs:∀ b,S b->b < W.heap.size->w.heap[b]? = W.heap[b]?):StAt w S s v1 v2 v3 :=
 ⟨h.all.keep (by decide) hs,h.entries.keep (by decide) hs,h.pruned.keep (by decide) hs⟩
def zef (s:State) (p:Str) (n:Nat):State × Nat :=
 if p = [] ∨ mayS s=false then (zba,2) else if 281474976710656 - ofM s.all p < n then (zba,9) else ({ s with all:=setM s.all p (ofM s.all p+n) },0)
theorem zyo {s:State} (h:mayS s=true):mayM s.all=true:=by
 unfold mayS at h;simp only [Bool.and_eq_true] at h;exact h.1
theorem zzj {l:List Mark} (h:mayM l=true) (p:Str):ofM l p<=281474976710656:=ofM_le.2 fun m hm _ _=>(mayM_iff.1 h).2.2 m hm
theorem zqy {S:Nat->Prop} {s:State} {v1 v2 v3:Value} {w:World} (p:Str) (n:Nat) (hn:n < 18446744073709551616) (h:StAt w S s v1 v2 v3) (sm:SmallS s) :
  Calls Tryz.prog 26 #[stV v1 v2 v3,St p,U n] w fun r w'=>∃ u1 u2 u3,r=.returned (.tuple #[stV u1 u2 u3,I (zef s p n).2])/\StAt w' (fun b=>w.heap.size<=b) (zef s p n).1 u1 u2 u3/\Ext w w':=by
 have HRS:=zH (show zef s p n=if p = [] ∨ mayS s=false then (zba,2) else if 281474976710656 - ofM s.all p < n then (zba,9) else ({ s with all:=setM s.all p (ofM s.all p+n) },0) from rfl);have HMX:=zH (fun (hm:mayS s=true)=>zzj (zyo hm) p);have SM:=zH sm;obtain⟨sa,se,sp⟩:=s;obtain⟨A1,n1,rfl,-,-⟩:=h.all.form;obtain⟨A2,n2,rfl,-,-⟩:=h.entries.form;obtain⟨A3,n3,rfl,-,-⟩:=h.pruned.form;have hx0:=((Ext.refl w).alloc (.cells #[.slice A1 sa.length n1,.slice A2 se.length n2,.slice A3 sp.length n3] 30)).alloc (.cells #[.slice none 0 0,.slice none 0 0,.slice none 0 0] 30);have rB0:=(zah w 30 [.slice A1 sa.length n1,.slice A2 se.length n2,.slice A3 sp.length n3]).alloc (.cells #[.slice none 0 0,.slice none 0 0,.slice none 0 0] 30);have rR0:=zah (w.alloc (.cells #[.slice A1 sa.length n1,.slice A2 se.length n2,.slice A3 sp.length n3] 30)) 30 [.slice none 0 0,.slice none 0 0,.slice none 0 0];rw [World.size_alloc] at rR0;have hz0:w.heap.size+2<=((w.alloc (.cells #[.slice A1 sa.length n1,.slice A2 se.length n2,.slice A3 sp.length n3] 30)).alloc (.cells #[.slice none 0 0,.slice none 0 0,.slice none 0 0] 30)).heap.size:=by simp
 have H0:=zH (h.ext hx0);have H1:=zH (zmt (h.ext hx0) sm);clear h sm
 by_cases hp:p = []
 ·subst hp;have HR:=zH (show zef ⟨sa,se,sp⟩ [] n=(zba,2) by rw [HRS.out,if_pos (.inl rfl)]);have HX:=zH hx0;clear hx0 rB0 rR0 H0 H1 HRS HMX;go_enter Tryz.func26,Tryz.ntmps26;go_wp2_with fail
  (try simp only [Exit.inBlock,Exit.then])
  refine bodyPost_ret (v:=.tuple #[stV (.slice none 0 0) (.slice none 0 0) (.slice none 0 0),I 2]) (by simp [results,Tryz.f26,go_sem]) rfl ?_;refine ⟨.slice none 0 0,.slice none 0 0,.slice none 0 0,by (rw [HR.out];try rfl),?_⟩;rw [HR.out];exact⟨StAt.none _ _ _ _ _,HX.out⟩
 ·have hpb:(p == [])=false:=by simpa using hp
  go_enter Tryz.func26,Tryz.ntmps26;go_wp2_with fail;generalize (w.alloc (.cells #[.slice A1 sa.length n1,.slice A2 se.length n2,.slice A3 sp.length n3] 30)).alloc (.cells #[.slice none 0 0,.slice none 0 0,.slice none 0 0] 30)=W0 at *;refine H1.out.mono ?_;rintro r W1 ⟨rfl,hx1⟩;have hx01:=hx0.trans hx1;have rB1:=rB0.ext hx1;have rR1:=rR0.ext hx1;have hz1:=Nat.le_trans hz0 hx1.size;clear hx0 rB0 rR0 hz0 H1
  cases hm:mayS ⟨sa,se,sp⟩ with
  | false =>
   have HR:=zH (show zef ⟨sa,se,sp⟩ p n=(zba,2) by rw [HRS.out,if_pos (.inr hm)]);obtain⟨r0,r1,r2⟩:=rR1.p3;obtain⟨f0,f1,f2⟩:=rR1.q3;have HX:=zH hx01;clear hx01 hx1 rB1 rR1 H0 HRS HMX hm hp;go_wp2_with fail
   (try simp only [Exit.inBlock,Exit.then])
   refine bodyPost_ret (v:=.tuple #[stV (.slice none 0 0) (.slice none 0 0) (.slice none 0 0),I 2]) (by simp [results,Tryz.f26,go_sem,r0,r1,r2]) rfl ?_;have hq:=zcv (q:=w.heap.size+1) HX.out (by omega) (.slice none 0 0) (.slice none 0 0) (.slice none 0 0);refine ⟨.slice none 0 0,.slice none 0 0,.slice none 0 0,by (rw [HR.out];try rfl),?_⟩;rw [HR.out];exact⟨StAt.none _ _ _ _ _,hq⟩
  | true =>
   have hmax:ofM sa p<=281474976710656:=HMX.out hm;have HRS2:=zH (show zef ⟨sa,se,sp⟩ p n=if 281474976710656 - ofM sa p < n then (zba,9) else (⟨setM sa p (ofM sa p+n),se,sp⟩,0) by rw [HRS.out,if_neg (by simp [hp,hm])]);have HO:=zH (zkf p (H0.out.all.ext (by decide) hx1));have b0:=rB1.cell (j:=0) rfl;have HX1:=zH hx1;clear hm hp HRS HMX hx1;go_wp2_with fail;refine HO.out.mono ?_;rintro r W2 ⟨rfl,hx2⟩;have hx02:=hx01.trans hx2;have rB2:=rB1.ext hx2;have rR2:=rR1.ext hx2;have hz2:=Nat.le_trans hz1 hx2.size;have H2:=zH ((H0.out.ext HX1.out).ext hx2);clear hx01 rB1 rR1 HO hx2 hz1 b0 HX1 H0;obtain⟨z,hz⟩:∃ z,ofM sa p=z:=⟨_,rfl⟩
   rw [hz] at hmax HRS2;rw [hz];clear hz;have hwr:IntKind.u64.wrap (281474976710656 - (z:Int))=281474976710656 - (z:Int):=by rw [zcg];omega
   by_cases hlt:281474976710656 - z < n
   ·have HR:=zH (show zef ⟨sa,se,sp⟩ p n=(zba,9) by rw [HRS2.out,if_pos hlt]);have hgt:(n:Int) > 281474976710656 - (z:Int):=(by omega);obtain⟨r0,r1,r2⟩:=rR2.p3;obtain⟨f0,f1,f2⟩:=rR2.q3;have HX:=zH hx02;clear hx02 rB2 rR2 H2 HRS2 hlt;go_wp2_with fail
    (try simp only [Exit.inBlock,Exit.then])
    refine bodyPost_ret (v:=.tuple #[stV (.slice none 0 0) (.slice none 0 0) (.slice none 0 0),I 9]) (by simp [results,Tryz.f26,go_sem,r0,r1,r2]) rfl ?_;have hq:=zcv (q:=w.heap.size+1) HX.out (by omega) (.slice none 0 0) (.slice none 0 0) (.slice none 0 0);refine ⟨.slice none 0 0,.slice none 0 0,.slice none 0 0,by (rw [HR.out];try rfl),?_⟩;rw [HR.out];exact⟨StAt.none _ _ _ _ _,hq⟩
   ·have HR:=zH (show zef ⟨sa,se,sp⟩ p n=(⟨setM sa p (z+n),se,sp⟩,0) by rw [HRS2.out,if_neg hlt]);have hgt:¬ (n:Int) > 281474976710656 - (z:Int):=(by omega);have hwa:IntKind.u64.wrap ((z:Int)+(n:Int))=((z+n:Nat):Int):=(by rw [zcg];omega);obtain⟨b0,b1,b2⟩:=rB2.p3;have HC:=zH (zio H2.out SM.out);clear HRS2 hlt rB2;go_wp2_with fail;refine HC.out.mono ?_;rintro r W3 ⟨u1,u2,u3,rfl,hn3,hx3⟩;obtain⟨B1,m1,rfl,-,-⟩:=hn3.all.form;obtain⟨B2,m2,rfl,-,-⟩:=hn3.entries.form;obtain⟨B3,m3,rfl,-,-⟩:=hn3.pruned.form;have hz3:=hx3.size;have hxa:=(Ext.refl W3).alloc (.cells #[.slice B1 sa.length m1,.slice B2 se.length m2,.slice B3 sp.length m3] 30);have rN:=zah W3 30 [.slice B1 sa.length m1,.slice B2 se.length m2,.slice B3 sp.length m3];have HS3:=zH ((hn3.at.mono (S':=fun b=>W2.heap.size<=b/\b < W3.heap.size) (fun b hb h=>⟨h,hb⟩)).ext hxa);have rR3:=(rR2.ext hx3).ext hxa;have hx03:=(hx02.trans hx3).trans hxa;have HS:=zH (zlf p (z+n) (HS3.out.all) (Nat.le_trans SM.out.all (by decide)));have hzN:=rN.lt;clear hn3 hx3 hxa rR2 hx02 HC b0 b1 b2;go_wp2_with fail;generalize W3.alloc (.cells #[.slice B1 sa.length m1,.slice B2 se.length m2,.slice B3 sp.length m3] 30)=W4 at *;refine HS.out.mono ?_;rintro r W5 ⟨u,rfl,ho,hx5⟩;obtain⟨U1,un,rfl,-,-⟩:=ho.form;have rN5:=rN.ext hx5;have rR5:=rR3.ext hx5;have hz5:=hx5.size;obtain⟨y0,y1,y2⟩:=rN5.p3;have yf:=rN5.frozen 0;have hN6:=rN5.set (j:=0) (by simp) (.slice U1 (setM sa p (z+n)).length un);simp only [List.set_cons_zero] at hN6;obtain⟨z0,z1,z2⟩:=hN6.p3;obtain⟨rr0,rr1,rr2⟩:=rR5.p3;obtain⟨ff0,ff1,ff2⟩:=rR5.q3;have rR6:=rR5.other (p:=⟨W3.heap.size,0,none⟩) (by simp;omega) (.slice U1 (setM sa p (z+n)).length un);obtain⟨r0,r1,r2⟩:=rR6.p3;obtain⟨f0,f1,f2⟩:=rR6.q3;have HX:=zH ((hx03.trans hx5).set (p:=⟨W3.heap.size,0,none⟩) (by simp;omega) (.slice U1 (setM sa p (z+n)).length un));have HO:=zH ho;have HA:=zH (HS3.out.ext hx5);clear ho rN rN5 rR3 rR5 hN6 rR6 hx03 hx5 HS HS3 H2;go_wp2_with fail
    (try simp only [Exit.inBlock,Exit.then])
    refine bodyPost_ret (v:=.tuple #[stV (.slice U1 (setM sa p (z+n)).length un) (.slice B2 se.length m2) (.slice B3 sp.length m3),I 0]) (by simp [results,Tryz.f26,go_sem,r0,r1,r2,rr0,rr1,rr2]) rfl ?_;have hq:=zcv (q:=w.heap.size+1) HX.out (by omega) (.slice U1 (setM sa p (z+n)).length un) (.slice B2 se.length m2) (.slice B3 sp.length m3);refine ⟨.slice U1 (setM sa p (z+n)).length un,.slice B2 se.length m2,.slice B3 sp.length m3,by (rw [HR.out];try rfl),?_⟩;rw [HR.out];refine ⟨?_,hq⟩
    have hkp:∀ b,b ≠ W3.heap.size->b ≠ w.heap.size+1->(put3 (W5.setCell ⟨W3.heap.size,0,none⟩ (.slice U1 (setM sa p (z+n)).length un)) (w.heap.size+1) (.slice U1 (setM sa p (z+n)).length un) (.slice B2 se.length m2) (.slice B3 sp.length m3)).heap[b]? = W5.heap[b]?:=fun b h1 h2=>(ze1 _ _ _ _ _ b h2).trans (Below.heap_setCell _ _ _ _ h1)
    refine ⟨?_,?_,?_⟩
    ·exact (zax (HO.out.keep fun b hb _=>hkp b (by have:=(HO.out.base_le hb).1;omega) (by have:=(HO.out.base_le hb).1;omega))).mono (by decide) fun b _ h=>by omega
    ·exact (HA.out.entries.keep (by decide) fun b hb _=>hkp b (by omega) (by omega)).mono (by decide) fun b _ hb=>by omega
    ·exact (HA.out.pruned.keep (by decide) fun b hb _=>hkp b (by omega) (by omega)).mono (by decide) fun b _ hb=>by omega
end
section
open Go.RowKit Go.Shelf
theorem zzl {α:Type} {T:Shape α} {hk:0 < T.k} {w:World} {S:Nat->Prop} {g:Nat} {v1 v2:Value} {l1 l2:List α} (h1:Sl T w S v1 l1) (h2:Sl T w S v2 l2) (hg:S g)
  (c0:w.cell? ⟨g,0,none⟩=some v1) (c1:w.cell? ⟨g,1,none⟩=some v2):Sl (slT T hk) w S (.slice (some ⟨g,0,none⟩) 2 2) [l1,l2]:=by
 refine ⟨some ⟨g,0,none⟩,2,rfl,by simp,by omega,fun pre x post hl=>?_⟩
 match pre,hl with
 | [],hl =>
  simp only [List.nil_append,List.cons.injEq] at hl;obtain⟨rfl,-⟩:=hl
  exact⟨g,0,[v1],rfl,hg,⟨v1,rfl,h1⟩,fun j u hj=>by
   match j,hj with
   | 0,hj=>simp at hj;subst hj;simpa using c0
   | j+1,hj=>simp at hj⟩
 | [p],hl =>
  simp only [List.cons_append,List.nil_append,List.cons.injEq] at hl;obtain⟨-,rfl,-⟩:=hl
  exact⟨g,0,[v2],rfl,hg,⟨v2,rfl,h2⟩,fun j u hj=>by
   match j,hj with
   | 0,hj=>simp at hj;subst hj;simpa [slT] using c1
   | j+1,hj=>simp at hj⟩
 | p :: q :: r,hl=>simp at hl
def CS (w:World) (S:Nat->Prop) (b:Nat):Prop:=S b/\∃ o:Obj,w.heap[b]? = some o/\o.isCells=true
theorem zsb {w:World} {p:Addr} {v:Value} (h:w.cell? p=some v):∃ o:Obj,w.heap[p.block]? = some o/\o.isCells=true:=by
 unfold World.cell? at h
 cases ho:w.heap[p.block]? with
 | none=>rw [ho] at h;cases h
 | some o=>rw [ho] at h;cases o <;> first | exact⟨_,rfl,rfl⟩ | cases h
theorem Sl.isC {α:Type} {T:Shape α} {w:World} {S:Nat->Prop} {v:Value} {l:List α} (hk:0 < T.k) (hrd:∀ x vs,T.rd w S x vs->T.rd w (CS w S) x vs) (h:Sl T w S v l):Sl T w (CS w S) v l:=by
 obtain⟨A,c,hv,h1,h2,h3⟩:=h;refine ⟨A,c,hv,h1,h2,fun pre x post hl=>?_⟩;obtain⟨b,o,vs,e,hS,hr,hc⟩:=h3 pre x post hl;refine ⟨b,o,vs,e,⟨hS,?_⟩,hrd x vs hr,hc⟩;have hlen:=T.len hr;have h0:vs[0]? = some vs[0]:=by simp
 exact zsb (hc 0 _ h0)
theorem zwt {w:World} {S:Nat->Prop} {x:Item} {vs:List Value} (h:itemT.rd w S x vs):itemT.rd w (CS w S) x vs:=by
 obtain⟨v,e,h⟩:=h;exact⟨v,e,h.isC (by decide) fun _ _ h=>h⟩
theorem zt7 {w:World} {S:Nat->Prop} {x:Entry} {vs:List Value} (h:entryT.rd w S x vs):entryT.rd w (CS w S) x vs:=by
 obtain⟨v1,v2,v3,e,h1,h2,h3⟩:=h;exact⟨v1,v2,v3,e,h1.isC (by decide) fun _ _ h=>h,h2.isC (by decide) fun _ _ h=>h,h3.isC (by decide) fun _ _ h=>zwt h⟩
theorem RowE.kept {w w':World} {base g:Nat} {v:Value} {l:List Entry} {row:Option Nat} (h:RowE w base g v l) (hg:w.grownBy w' row) (hr:∀ r,row=some r->∃ o:Obj,w.heap[r]? = some o/\o.isCells=false):RowE w' base g v l:=by
 obtain⟨vss,h1,h2,h3⟩:=h;refine ⟨vss,h1,fun i x vs hi hv=>?_,h3.kept hg hr⟩;have a:=zt7 (h2 i x vs hi hv);refine entryT.mono (entryT.keep a fun b hb hlt=>hg.block b hlt fun e=>?_) fun b _ h=>h.1
 obtain⟨o,ho,hc⟩:=hr b e.symm;obtain⟨-,o',ho',hc'⟩:=hb;rw [ho] at ho';cases ho';rw [hc] at hc';cases hc'
theorem RowIs.kept {w w':World} {g T:Nat} {xs tl:List Value} {row:Option Nat} (h:RowIs w g T xs tl) (hg:w.grownBy w' row) (hr:∀ r,row=some r->∃ o:Obj,w.heap[r]? = some o/\o.isCells=false):RowIs w' g T xs tl :=
 h.keep (hg.block g h.lt fun e=>by obtain⟨o,ho,hc⟩:=hr g e.symm;unfold RowIs at h;rw [h] at ho;cases ho;cases hc)
theorem Ext.keepsO {W W':World} (h:Ext W W'):KeepsOthers W W':=⟨h.size,fun b o hb _=>(h.block b (Array.getElem?_eq_some_iff.1 hb).1).trans hb⟩
structure OldK (n g:Nat) (W W':World):Prop where
 os:W'.os=W.os
 tape:W'.tape=W.tape
 output:W'.output=W.output
 size:n<=W'.heap.size
 same:∀ b,b < n->b ≠ g->W'.heap[b]? = W.heap[b]?
theorem OldK.refl {n g:Nat} {W:World} (h:n<=W.heap.size):OldK n g W W:=⟨rfl,rfl,rfl,h,fun _ _ _=>rfl⟩
theorem OldK.ext {n g:Nat} {W W' W'':World} (h:OldK n g W W') (he:Ext W' W''):OldK n g W W'' :=
 ⟨he.os.trans h.os,he.tape.trans h.tape,he.output.trans h.output,Nat.le_trans h.size he.size,fun b hb hg=>(he.block b (by have:=h.size;omega)).trans (h.same b hb hg)⟩
theorem OldK.set {n g j:Nat} {W W':World} (h:OldK n g W W') (v:Value):OldK n g W (W'.setCell ⟨g,j,none⟩ v) :=
 ⟨h.os,h.tape,h.output,by simpa using h.size,fun b hb hg=>(Below.heap_setCell _ _ _ _ hg).trans (h.same b hb hg)⟩
theorem OldK.grew {n g:Nat} {W W' W'':World} {v v':Value} (h:OldK n g W W') (k:Grew W' W'' v v') (hv:∀ b,zae v b->n<=b):OldK n g W W'' :=
 ⟨k.os.trans h.os,k.tape.trans h.tape,k.output.trans h.output,Nat.le_trans h.size k.size,fun b hb hg=>(k.same b (by have:=h.size;omega) (fun ho=>by have:=hv b ho;omega)).trans (h.same b hb hg)⟩
theorem OldK.low {n g:Nat} {W W' W'':World} (h:OldK n g W W') (k:Below n W' W''):OldK n g W W'' :=
 ⟨k.os.trans h.os,k.tape.trans h.tape,k.output.trans h.output,Nat.le_trans h.size k.size,fun b hb hg=>(k.block b hb).trans (h.same b hb hg)⟩
theorem OldK.below {n g:Nat} {w W W':World} (h:OldK n g W W') (he:Ext w W) (hn:w.heap.size<=n) (hg:w.heap.size<=g):Ext w W' :=
 ⟨h.os.trans he.os,h.tape.trans he.tape,h.output.trans he.output,Nat.le_trans hn h.size,fun b hb=>(h.same b (by omega) (by omega)).trans (he.block b hb)⟩
theorem OldK.kps {n g:Nat} {W0 W W':World} (h:OldK n g W0 W) (h':OldK n g W0 W') (hz:W.heap.size<=W'.heap.size):KpS (fun b=>b < n/\b ≠ g) n W W' :=
 ⟨hz,fun b hb hn=>(h'.same b hn hb.2).trans (h.same b hn hb.2).symm⟩
theorem OldK.from (n g:Nat) (W0:World) {β:Type} (B:Nat) (hB:n<=B):OwnFrom B (fun (_:β) W=>OldK n g W0 W):=fun s W W' row h hg hr =>
 ⟨hg.os.trans h.os,hg.tape.trans h.tape,hg.output.trans h.output,Nat.le_trans h.size hg.size,fun b hb hne=>(hg.block b (by have:=h.size;omega) (fun e=>by have:=(hr b e.symm).1;omega)).trans (h.same b hb hne)⟩
theorem MapIs.not_row {κ ν:Type} [DecidableEq κ] {K:κ->Value} {V:ν->Value} {w:World} {b T:Nat} {L:List (κ × ν)} {xs tl:List Value} (h:MapIs K V w b L) (hr:RowIs w b T xs tl):False:=by
 obtain⟨_,_,h,_⟩:=h;unfold RowIs at hr;rw [hr] at h;cases h
theorem zir {w:World} {q T:Nat} {e0 e:Entry} {a1 a2 a3 v1 v2 v3:Value} (h:RowIs w q T (entL e0 a1 a2 a3) []):RowIs (put7 w q e v1 v2 v3) q T (entL e v1 v2 v3) []:=by
 have:=RowIs.set7 (X1:=[]) (X2:=[]) (o:=0) (by simpa using h) rfl (St e.key) v1 v2 v3 (U e.cell.1) (St e.cell.2.1) (.bool e.cell.2.2)
 simpa using this
theorem zt8 (w:World) (q:Nat) (e:Entry) (v1 v2 v3:Value):(put7 w q e v1 v2 v3).heap.size=w.heap.size:=by simp [World.size_setCell]
def getE (l:List Entry) (k:Str):Entry:=(zau l k).getD zai
def zgc (a b:List Entry):List Entry:=(zbv a b).map fun k=>zav (getE a k) (getE b k)
def zet (a b:State):State:=⟨zat a.all b.all,zgc a.entries b.entries,Lib.compact (zbo (a.pruned++b.pruned))⟩
theorem zwu (a b:List Str):(zb2 a b).length<=a.length+b.length:=by
 fun_induction zb2 a b <;> simp_all <;> omega
theorem zyt (va vb:Value) (w:World) (ha:va.oneCell'=true) (hb:vb.oneCell'=true) :
  Calls Tryz.prog 53 #[va,vb] w fun e w'=>e=.returned (.func (.func 105) #[] #[.pointer (some ⟨w.heap.size,0,none⟩),.pointer (some ⟨w.heap.size+1,0,none⟩)])/\w'=(w.alloc (.cells #[va] 27)).alloc (.cells #[vb] 27):=by
 go_enter Tryz.func53,Tryz.ntmps53;go_wp2;go_ret;exact⟨rfl,rfl⟩
theorem zt9 (n:Nat) (hn:1<=n) {S:Nat->Prop} {n₀ B1 B2:Nat} {va vb:Value} {A B:List Entry} {w:World} (hn₀:n₀<=w.heap.size) (h1:w.cell? ⟨B1,0,none⟩=some va) (h2:w.cell? ⟨B2,0,none⟩=some vb)
  (hS1:S B1) (hS2:S B2) (hSn:∀ b,S b->b < n₀) (ha:Sl entryT w S va A) (hb:Sl entryT w S vb B) :
  SeqStopsK Fence.wide n Tryz.prog 105 #[.pointer (some ⟨B1,0,none⟩),.pointer (some ⟨B2,0,none⟩)] (fun x=>#[St x]) (KpS S n₀) (fun ys=>ys=zbv A B) (fun pre=>pre <+: zbv A B) (zbv A B).length w :=
 fun l J Jx W hW hJ _ hY h0 =>
  zys n l B1 B2 n₀ J Jx hn W hJ (Nat.le_trans hn₀ hW.size) hY (hW.cell (p:=⟨B1,0,none⟩) (zaf h1) |>.trans h1) (hW.cell (p:=⟨B2,0,none⟩) (zaf h2) |>.trans h2)
   ⟨hS1,hSn _ hS1⟩ ⟨hS2,hSn _ hS2⟩ (ha.ext (by decide) hW) (hb.ext (by decide) hW) (fun b h _=>hSn b h) h0
end
section
open Go.RowKit Go.Shelf
abbrev dltV (v0 v1 v2 v3:Value):Value:=.agg #[v0,v1,v2,v3]
def zde (base:List Mark) (e:Entry):Bool:=!za3 base e.seen
def zfh (s:State) (base:List Mark):State:=⟨s.all,s.entries.filter (zde base),s.pruned⟩
abbrev put4 (w:World) (q:Nat) (v0 v1 v2 v3:Value):World:=(((w.setCell ⟨q,0,none⟩ v0).setCell ⟨q,1,none⟩ v1).setCell ⟨q,2,none⟩ v2).setCell ⟨q,3,none⟩ v3
theorem zmx {w wr:World} {q:Nat} (hx:Ext w wr) (hq:w.heap.size<=q) (v0 v1 v2 v3:Value):Ext w (put4 wr q v0 v1 v2 v3) :=
 (((hx.set (p:=⟨q,0,none⟩) hq _).set (p:=⟨q,1,none⟩) hq _).set (p:=⟨q,2,none⟩) hq _).set (p:=⟨q,3,none⟩) hq _
theorem zkw (w:World) (q:Nat) (v0 v1 v2 v3:Value) (b:Nat) (hb:b ≠ q):(put4 w q v0 v1 v2 v3).heap[b]? = w.heap[b]? :=
 (((Below.heap_setCell _ _ _ b hb).trans (Below.heap_setCell _ _ _ b hb)).trans (Below.heap_setCell _ _ _ b hb)).trans (Below.heap_setCell _ _ _ b hb)
theorem zjw {S S0:Nat->Prop} {s:State} {v1 v2 v3 vb:Value} {base:List Mark} {w:World} (h:StAt w S s v1 v2 v3) (hb:Sl markT w S0 vb base) (sm:SmallS s) (hbl:base.length<=549755813888) :
  Calls Tryz.prog 18 #[stV v1 v2 v3,vb] w fun r w'=>∃ u0 u1 u2 u3,r=.returned (dltV u0 u1 u2 u3)/\Own w' w.heap.size 25 2 u0 (zat base []).length ((zat base []).flatMap zag)/\StNew w' w.heap.size (zfh s base) u1 u2 u3/\Ext w w':=by
 obtain⟨sa,se,sp⟩:=s;obtain⟨A1,n1,rfl,-,-⟩:=h.all.form;obtain⟨A2,n2,rfl,-,-⟩:=h.entries.form;obtain⟨A3,n3,rfl,-,-⟩:=h.pruned.form;obtain⟨A0,n0,rfl,-,-⟩:=hb.form;have h':=h.entries;have HAT:=zH (fun (pre post:List Entry) (m:Entry) (wr:World) (hx:Ext w wr) (hl:se=pre++m :: post)=>zbq h' hx hl);have H:=zH h;have HB0:=zH hb;have SM:=zH sm;have HSI:=zH (show zfh ⟨sa,se,sp⟩ base=⟨sa,se.filter (zde base),sp⟩ from rfl);have hx0:Ext w ((w.alloc (.cells #[.slice A1 sa.length n1,.slice A2 se.length n2,.slice A3 sp.length n3] 30)).alloc (.cells #[.slice none 0 0,.slice none 0 0,.slice none 0 0,.slice none 0 0] 64)):=((Ext.refl w).alloc _).alloc _;have rB0:RowIs ((w.alloc (.cells #[.slice A1 sa.length n1,.slice A2 se.length n2,.slice A3 sp.length n3] 30)).alloc (.cells #[.slice none 0 0,.slice none 0 0,.slice none 0 0,.slice none 0 0] 64)) w.heap.size 30 [.slice A1 sa.length n1,.slice A2 se.length n2,.slice A3 sp.length n3] []:=(zah w 30 [.slice A1 sa.length n1,.slice A2 se.length n2,.slice A3 sp.length n3]).alloc _;have rR0:RowIs ((w.alloc (.cells #[.slice A1 sa.length n1,.slice A2 se.length n2,.slice A3 sp.length n3] 30)).alloc (.cells #[.slice none 0 0,.slice none 0 0,.slice none 0 0,.slice none 0 0] 64)) (w.heap.size+1) 64 [.slice none 0 0,.slice none 0 0,.slice none 0 0,.slice none 0 0] []:=by have h:=zah (w.alloc (.cells #[.slice A1 sa.length n1,.slice A2 se.length n2,.slice A3 sp.length n3] 30)) 64 [.slice none 0 0,.slice none 0 0,.slice none 0 0,.slice none 0 0];simp only [World.size_alloc] at h;exact h
 have hz0:w.heap.size+2<=((w.alloc (.cells #[.slice A1 sa.length n1,.slice A2 se.length n2,.slice A3 sp.length n3] 30)).alloc (.cells #[.slice none 0 0,.slice none 0 0,.slice none 0 0,.slice none 0 0] 64)).heap.size:=by simp
 have HJ:=zH (zhx (hb.ext (by decide) hx0) (Sl.nil (S:=fun _=>True) (T:=markT) none 0 (by decide)) (Nat.le_trans hbl (by decide)) (by decide));clear h h' sm hb;go_enter Tryz.func18,Tryz.ntmps18;go_wp2_with fail;generalize ((w.alloc (.cells #[.slice A1 sa.length n1,.slice A2 se.length n2,.slice A3 sp.length n3] 30)).alloc (.cells #[.slice none 0 0,.slice none 0 0,.slice none 0 0,.slice none 0 0] 64))=W0 at *;refine HJ.out.mono ?_;rintro r W1 ⟨v0,rfl,ho0,hx1⟩;generalize hJB:zat base []=JB at *;have HJB:=zH hJB;clear hJB HJ;obtain⟨B0,m0,rfl,-,-⟩:=ho0.form;have hz1:=Nat.le_trans hz0 hx1.size;have hx2:=(Ext.refl W1).alloc (.cells #[.slice B0 JB.length m0,.slice none 0 0,.slice none 0 0,.slice none 0 0] 64);have rG0:=zah W1 64 [.slice B0 JB.length m0,.slice none 0 0,.slice none 0 0,.slice none 0 0];have rB1:=(rB0.ext hx1).ext hx2;have rR1:=(rR0.ext hx1).ext hx2;have ho01:=(ho0.ext hx2).lower hz0;have hxw1:=(hx0.trans hx1).trans hx2;have b0:=rB1.cell (j:=0) rfl;have HC:=zH (zhb ((H.out.all.ext (by decide) hxw1)) (Nat.le_trans SM.out.all (by decide)));have hzz:(W1.alloc (.cells #[.slice B0 JB.length m0,.slice none 0 0,.slice none 0 0,.slice none 0 0] 64)).heap.size=W1.heap.size+1:=by simp
 clear ho0 hx0 hx1 hx2 rB0 rR0 hz0;go_wp2_with fail;generalize W1.alloc (.cells #[.slice B0 JB.length m0,.slice none 0 0,.slice none 0 0,.slice none 0 0] 64)=W2 at *;refine HC.out.mono ?_;rintro r W3 ⟨vc1,rfl,hc1,hx3⟩;have ho1:=(own_markT.1 hc1).lower (base':=w.heap.size+2) (by omega);obtain⟨B1,m1,rfl,-,-⟩:=ho1.form;have hg:W1.heap.size < W3.heap.size:=by have:=hx3.size;omega
 have rG3:=rG0.ext hx3;have g1f:=rG3.frozen 1;have g1c:=rG3.cell (j:=1) rfl;have rG4:=rG3.set (j:=1) (by simp) (.slice B1 sa.length m1);simp only [List.set_cons_succ,List.set_cons_zero] at rG4;have hk4:∀ b,b ≠ W1.heap.size->(W3.setCell ⟨W1.heap.size,1,none⟩ (.slice B1 sa.length m1)).heap[b]? = W3.heap[b]?:=fun b hb=>Below.heap_setCell _ _ _ _ hb
 have rB4:=(rB1.ext hx3).keep (hk4 _ (by omega));have rR4:=(rR1.ext hx3).keep (hk4 _ (by omega));have ho04:=(ho01.ext hx3).keep (w':=W3.setCell ⟨W1.heap.size,1,none⟩ (.slice B1 sa.length m1)) fun b hb _=>hk4 b (fun e=>by subst e;exact (ho01.ext hx3).apart rG3 (by decide) hb)
 have ho14:=ho1.keep (w':=W3.setCell ⟨W1.heap.size,1,none⟩ (.slice B1 sa.length m1)) fun b hb _=>hk4 b (fun e=>by subst e;exact ho1.apart rG3 (by decide) hb)
 have hxw4:=(hxw1.trans hx3).set (p:=⟨W1.heap.size,1,none⟩) (by simp;omega) (.slice B1 sa.length m1);have hz4:W1.heap.size < (W3.setCell ⟨W1.heap.size,1,none⟩ (.slice B1 sa.length m1)).heap.size:=by rw [World.size_setCell];exact hg
 have b2:=rB4.cell (j:=2) rfl;have HC2:=zH (zom ((H.out.pruned.ext (by decide) hxw4)) (Nat.le_trans SM.out.pruned (by decide)));clear hc1 ho1 rG3 rB1 rR1 rG0 ho01 hxw1 hx3 hk4 b0 HC hzz;go_wp2_with fail;generalize W3.setCell ⟨W1.heap.size,1,none⟩ (.slice B1 sa.length m1)=W4 at *;refine HC2.out.mono ?_;rintro r W5 ⟨vc3,rfl,hc3,hx5⟩;have ho3:=(OwnL.flat_iff.1 hc3).lower (base':=w.heap.size+2) (by omega);obtain⟨B3,m3,rfl,-,-⟩:=ho3.form;have rG5:=rG4.ext hx5;have g3f:=rG5.frozen 3;have g3c:=rG5.cell (j:=3) rfl;have rG6:=rG5.set (j:=3) (by simp) (.slice B3 sp.length m3);simp only [List.set_cons_succ,List.set_cons_zero] at rG6;have hk6:∀ b,b ≠ W1.heap.size->(W5.setCell ⟨W1.heap.size,3,none⟩ (.slice B3 sp.length m3)).heap[b]? = W5.heap[b]?:=fun b hb=>Below.heap_setCell _ _ _ _ hb
 have rB6:=(rB4.ext hx5).keep (hk6 _ (by omega));have rR6:=(rR4.ext hx5).keep (hk6 _ (by omega));have ho06:=(ho04.ext hx5).keep (w':=W5.setCell ⟨W1.heap.size,3,none⟩ (.slice B3 sp.length m3)) fun b hb _=>hk6 b (fun e=>by subst e;exact (ho04.ext hx5).apart rG5 (by decide) hb)
 have ho16:=(ho14.ext hx5).keep (w':=W5.setCell ⟨W1.heap.size,3,none⟩ (.slice B3 sp.length m3)) fun b hb _=>hk6 b (fun e=>by subst e;exact (ho14.ext hx5).apart rG5 (by decide) hb)
 have ho36:=ho3.keep (w':=W5.setCell ⟨W1.heap.size,3,none⟩ (.slice B3 sp.length m3)) fun b hb _=>hk6 b (fun e=>by subst e;exact ho3.apart rG5 (by decide) hb)
 have hxw6:=(hxw4.trans hx5).set (p:=⟨W1.heap.size,3,none⟩) (by simp;omega) (.slice B3 sp.length m3);have b1:=rB6.cell (j:=1) rfl;have HX6:=zH hxw6;have HI6:=zH (show RowIs (W5.setCell ⟨W1.heap.size,3,none⟩ (.slice B3 sp.length m3)) W1.heap.size 64 [.slice B0 JB.length m0,.slice B1 sa.length m1,(.slice none 0 0),.slice B3 sp.length m3] []/\Own (W5.setCell ⟨W1.heap.size,3,none⟩ (.slice B3 sp.length m3)) (w.heap.size+2) 25 2 (.slice B0 JB.length m0) JB.length (JB.flatMap zag)/\Own (W5.setCell ⟨W1.heap.size,3,none⟩ (.slice B3 sp.length m3)) (w.heap.size+2) 25 2 (.slice B1 sa.length m1) sa.length (sa.flatMap zag)/\Own (W5.setCell ⟨W1.heap.size,3,none⟩ (.slice B3 sp.length m3)) (w.heap.size+2) 9 1 (.slice B3 sp.length m3) sp.length (sp.flatMap strC)/\RowE (W5.setCell ⟨W1.heap.size,3,none⟩ (.slice B3 sp.length m3)) (w.heap.size+2) W1.heap.size (.slice none 0 0) []/\RowIs (W5.setCell ⟨W1.heap.size,3,none⟩ (.slice B3 sp.length m3)) (w.heap.size+1) 64 [.slice none 0 0,.slice none 0 0,.slice none 0 0,.slice none 0 0] [] from ⟨rG6,ho06,ho16,ho36,RowE.nil _ _ _ _,rR6⟩);generalize hgE:W1.heap.size=g at *;clear hc3 ho3 rG4 rG5 rG6 rB4 rB6 rR4 rR6 ho04 ho06 ho14 ho16 ho36 hxw4 hxw6 hx5 hk6 b2 HC2 hgE;go_wp2_with fail;generalize W5.setCell ⟨g,3,none⟩ (.slice B3 sp.length m3)=W6 at *
 go_loopw [24] (fun i wr=>∃ pre post vE,se=pre++post/\i=I pre.length/\Hid (RowIs wr g 64 [.slice B0 JB.length m0,.slice B1 sa.length m1,vE,.slice B3 sp.length m3] []/\Own wr (w.heap.size+2) 25 2 (.slice B0 JB.length m0) JB.length (JB.flatMap zag)/\Own wr (w.heap.size+2) 25 2 (.slice B1 sa.length m1) sa.length (sa.flatMap zag)/\Own wr (w.heap.size+2) 9 1 (.slice B3 sp.length m3) sp.length (sp.flatMap strC)/\RowE wr (w.heap.size+2) g vE (pre.filter (zde base))/\RowIs wr (w.heap.size+1) 64 [.slice none 0 0,.slice none 0 0,.slice none 0 0,.slice none 0 0] [])/\Ext w wr) (fun i _=>se.length - (intOf i).toNat)
 case atStart=>exact⟨[],se,.slice none 0 0,rfl,rfl,HI6,HX6.out⟩
 case round =>
  obtain⟨pre,post,vE,hl,rfl,hI,hx⟩:=hrel
  cases post with
  | cons m post =>
   obtain⟨b,o,a1,a2,a3,rfl,e0,e1,e2,e3,e4,e5,e6,hEA⟩:=HAT.out pre post m wr hx hl;obtain⟨C1,c1,rfl,-,-⟩:=hEA.seen.form;obtain⟨C2,c2,rfl,-,-⟩:=hEA.counts.form;obtain⟨C3,c3,rfl,-,-⟩:=hEA.items.form;have hlt:pre.length < se.length:=(by rw [hl];simp);have HL:=zH hl;have hsm:=SM.out.each m (by show m ∈ se;rw [hl];simp);have hse:se.length<=549755813888:=SM.out.entries;have hpf:=List.length_filter_le (zde base) pre;generalize hpl:pre.filter (zde base)=pl at *;have HPL:=zH hpl;have hxb:=(Ext.refl wr).alloc (.cells #[St m.key,.slice C1 m.seen.length c1,.slice C2 m.counts.length c2,.slice C3 m.items.length c3,U m.cell.1,St m.cell.2.1,.bool m.cell.2.2] 37);have rb:=zah wr 37 [St m.key,.slice C1 m.seen.length c1,.slice C2 m.counts.length c2,.slice C3 m.items.length c3,U m.cell.1,St m.cell.2.1,.bool m.cell.2.2];have hEAb:=(hEA.ext hx).ext hxb;have hxwb:=hx.trans hxb;have HB:=zH (show RowIs (wr.alloc (.cells #[St m.key,.slice C1 m.seen.length c1,.slice C2 m.counts.length c2,.slice C3 m.items.length c3,U m.cell.1,St m.cell.2.1,.bool m.cell.2.2] 37)) g 64 [.slice B0 JB.length m0,.slice B1 sa.length m1,vE,.slice B3 sp.length m3] []/\Own (wr.alloc (.cells #[St m.key,.slice C1 m.seen.length c1,.slice C2 m.counts.length c2,.slice C3 m.items.length c3,U m.cell.1,St m.cell.2.1,.bool m.cell.2.2] 37)) (w.heap.size+2) 25 2 (.slice B0 JB.length m0) JB.length (JB.flatMap zag)/\Own (wr.alloc (.cells #[St m.key,.slice C1 m.seen.length c1,.slice C2 m.counts.length c2,.slice C3 m.items.length c3,U m.cell.1,St m.cell.2.1,.bool m.cell.2.2] 37)) (w.heap.size+2) 25 2 (.slice B1 sa.length m1) sa.length (sa.flatMap zag)/\Own (wr.alloc (.cells #[St m.key,.slice C1 m.seen.length c1,.slice C2 m.counts.length c2,.slice C3 m.items.length c3,U m.cell.1,St m.cell.2.1,.bool m.cell.2.2] 37)) (w.heap.size+2) 9 1 (.slice B3 sp.length m3) sp.length (sp.flatMap strC)/\RowE (wr.alloc (.cells #[St m.key,.slice C1 m.seen.length c1,.slice C2 m.counts.length c2,.slice C3 m.items.length c3,U m.cell.1,St m.cell.2.1,.bool m.cell.2.2] 37)) (w.heap.size+2) g vE pl/\RowIs (wr.alloc (.cells #[St m.key,.slice C1 m.seen.length c1,.slice C2 m.counts.length c2,.slice C3 m.items.length c3,U m.cell.1,St m.cell.2.1,.bool m.cell.2.2] 37)) (w.heap.size+1) 64 [.slice none 0 0,.slice none 0 0,.slice none 0 0,.slice none 0 0] [] from by obtain⟨i1,i2,i3,i4,i5,i6⟩:=hI.out;exact⟨i1.ext hxb,i2.ext hxb,i3.ext hxb,i4.ext hxb,i5.ext hxb,i6.ext hxb⟩);have q1:=rb.cell (j:=1) rfl;have HCV:=zH (zhc ((HB0.out.ext (by decide) hx).ext (by decide) hxb) hEAb.seen (Nat.le_trans hbl (by decide)) (Nat.le_trans hsm.seen (by decide)));have HEAb:=zH hEAb;clear hl hpl hEA hEAb hI hx hxb;go_wp2_with fail;generalize wr.alloc (.cells #[St m.key,.slice C1 m.seen.length c1,.slice C2 m.counts.length c2,.slice C3 m.items.length c3,U m.cell.1,St m.cell.2.1,.bool m.cell.2.2] 37)=Wb at *;refine HCV.out.mono ?_;rintro r Wc ⟨rfl,hxc⟩;have HC:=zH (show RowIs Wc g 64 [.slice B0 JB.length m0,.slice B1 sa.length m1,vE,.slice B3 sp.length m3] []/\Own Wc (w.heap.size+2) 25 2 (.slice B0 JB.length m0) JB.length (JB.flatMap zag)/\Own Wc (w.heap.size+2) 25 2 (.slice B1 sa.length m1) sa.length (sa.flatMap zag)/\Own Wc (w.heap.size+2) 9 1 (.slice B3 sp.length m3) sp.length (sp.flatMap strC)/\RowE Wc (w.heap.size+2) g vE pl/\RowIs Wc (w.heap.size+1) 64 [.slice none 0 0,.slice none 0 0,.slice none 0 0,.slice none 0 0] [] from by obtain⟨i1,i2,i3,i4,i5,i6⟩:=HB.out;exact⟨i1.ext hxc,i2.ext hxc,i3.ext hxc,i4.ext hxc,i5.ext hxc,i6.ext hxc⟩)
   have hxwc:=hxwb.trans hxc;have rc:=rb.ext hxc;have HEAc:=zH (HEAb.out.ext hxc);clear HB HCV HEAb hxwb rb hxc q1 e0 e1 e2 e3 e4 e5 e6
   cases hcv:za3 base m.seen with
   | true =>
    have HFL:=zH (show (pre++[m]).filter (zde base)=pl by rw [List.filter_append,HPL.out];simp [zde,hcv]);have HX:=zH hxwc;clear hcv rc hxwc;go_wp2_with fail;go_roundw
    case rel=>exact⟨pre++[m],post,vE,by rw [HL.out];simp,by simp,by rw [HFL.out];exact HC,HX.out⟩
    case measure=>simp [intOf];omega
   | false =>
    have HFL:=zH (show (pre++[m]).filter (zde base)=pl++[m] by rw [List.filter_append,HPL.out];simp [zde,hcv]);clear hcv;obtain⟨hgb,ho0b,ho1b,ho3b,hEb,hRb⟩:=HC.out;obtain⟨AE,cE,rfl,-,-⟩:=hEb.form;go_wp2_with fail;clear HC;have hgl:=hgb.lt;have hEl:∀ b,zae (.slice AE pl.length cE) b->b < Wc.heap.size:=fun b hb=>(hEb.base_le hb).2
    obtain⟨xE,hoE⟩:=hEb.own;have hEg:¬ zae (.slice AE pl.length cE) g:=hoE.apart hgb (by decide);have hEAb:=HEAc.out
    refine zh6 [.early (fun v _=>v=.pointer (some ⟨g,1,none⟩)),.early (fun v _=>v=.pointer (some ⟨g,2,none⟩)),.early (fun v _=>v=.slice AE pl.length cE),.early (fun v _=>v=entV m (.slice C1 m.seen.length c1) (.slice C2 m.counts.length c2) (.slice C3 m.items.length c3)),
     .early (fun v W=>∃ u1 u2 u3,v=entV m u1 u2 u3/\EntNew W Wc.heap.size m u1 u2 u3),
     .early (fun v W=>∃ h u1 u2 u3,v=.slice (some ⟨h,0,none⟩) 1 1/\Wc.heap.size<=h/\RowIs W h 37 (entL m u1 u2 u3) []/\EntNew W Wc.heap.size m u1 u2 u3),
     .move (fun v W=>RowE W (w.heap.size+2) g v (pl++[m])),.late (fun v _=>v=.pointer (some ⟨g,1,none⟩)),.late (fun v _=>v=.pointer (some ⟨g,2,none⟩))] 6 (fun W=>Ext Wc W) (fun W=>Moved (.slice AE pl.length cE) Wc W) Ext (MvR (.slice AE pl.length cE)) rfl (by kernel_rfl) (by kernel_rfl) ?hR ?hRq ?hJ ?hstep ?hend
    case hR=>simp only [List.mem_cons,List.not_mem_nil,or_false,forall_eq_or_imp,forall_eq,HF.fact];exact⟨kP,kP,kP,kP,fun v _ _ h he=>by obtain⟨u1,u2,u3,e,a⟩:=h;exact⟨u1,u2,u3,e,a.ext he⟩,fun v _ _ h he=>by obtain⟨k,u1,u2,u3,e,a,b,c⟩:=h;exact⟨k,u1,u2,u3,e,a,b.ext he,c.ext he⟩,fun v _ _ h he=>h.ext he,kP,kP⟩
    case hRq =>
     simp only [List.mem_cons,List.not_mem_nil,or_false,forall_eq_or_imp,forall_eq,HF.fact,HF.isStore]
     exact⟨fun _ v _ _ h _=>h,fun _ v _ _ h _=>h,fun _ v _ _ h _=>h,fun _ v _ _ h _=>h,fun _ v _ _ h he=>by obtain⟨u1,u2,u3,e,a⟩:=h;exact⟨u1,u2,u3,e,a.mvR he hEl⟩,
      fun _ v _ _ h he=>by obtain⟨k,u1,u2,u3,e,a,b,c⟩:=h;exact⟨k,u1,u2,u3,e,a,b.mvR he (fun ho=>by have:=hEl k ho;omega),c.mvR he hEl⟩,fun h=>(by cases h),fun _ v _ _ h _=>h,fun _ v _ _ h _=>h⟩
    case hJ=>exact (Ext.refl Wc).drew
    case hstep =>
     simp only [List.length_cons,List.length_nil,Nat.reduceAdd,List.take_succ_cons,List.take_zero,zdy,and_true];refine ⟨?_,?_,?_,?_,?_,?_,?_,?_,?_⟩
     ·intro x W hj f;have h:x 5=.pointer (some ⟨g,0,none⟩):=f.1;go_wp;exact zaj rfl ⟨hj,Ext.refl _⟩
     ·intro x W hj f;have h:x 33=.pointer (some ⟨g,1,none⟩):=f.1;go_wp;exact zaj rfl ⟨hj,Ext.refl _⟩
     ·intro x W hj f;have h:x 34=.pointer (some ⟨g,2,none⟩):=f.1;have hc:=(hgb.ext hj).cell (j:=2) rfl;go_wp;exact zaj rfl ⟨hj,Ext.refl _⟩
     ·intro x W hj f;have h:x 7=.pointer (some ⟨wr.heap.size,0,none⟩):=f.1;have q0:=(rc.ext hj).cell (j:=0) rfl;have q1:=(rc.ext hj).cell (j:=1) rfl;have q2:=(rc.ext hj).cell (j:=2) rfl;have q3:=(rc.ext hj).cell (j:=3) rfl;have q4:=(rc.ext hj).cell (j:=4) rfl;have q5:=(rc.ext hj).cell (j:=5) rfl;have q6:=(rc.ext hj).cell (j:=6) rfl;go_wp;exact zaj rfl ⟨hj,Ext.refl _⟩
     ·intro x W hj f;have h:x 36=entV m (.slice C1 m.seen.length c1) (.slice C2 m.counts.length c2) (.slice C3 m.items.length c3):=f.1;have hs:=hj.size;have HC:=zH (zfu (hEAb.ext hj) (Nat.le_trans hsm.seen (by decide)) (Nat.le_trans hsm.counts (by decide)) (Nat.le_trans hsm.items (by decide)) (fun it hit=>Nat.le_trans (hsm.dots it hit) (by decide)));go_wp;refine HC.out.mono ?_;rintro r W2 ⟨u1,u2,u3,rfl,hn,hx2⟩;dsimp only;go_wp;exact zaj (v:=entV m u1 u2 u3) ⟨u1,u2,u3,rfl,hn.lower hs⟩ ⟨hj.trans hx2,hx2⟩
     ·intro x W hj f;obtain⟨u1,u2,u3,h,hn⟩:∃ u1 u2 u3,x 37=entV m u1 u2 u3/\EntNew W Wc.heap.size m u1 u2 u3:=f.1;have hs:=hj.size;obtain⟨D1,d1,rfl,-,-⟩:=hn.seen.form;obtain⟨D2,d2,rfl,-,-⟩:=hn.counts.form;obtain⟨D3,d3,rfl,-,-⟩:=hn.items.form;have hrow:=zah W 37 (entL m (.slice D1 m.seen.length d1) (.slice D2 m.counts.length d2) (.slice D3 m.items.length d3));have hxa:=(Ext.refl W).alloc (.cells (entL m (.slice D1 m.seen.length d1) (.slice D2 m.counts.length d2) (.slice D3 m.items.length d3)).toArray 37);go_wp;exact zaj (v:=.slice (some ⟨W.heap.size,0,none⟩) 1 1) ⟨W.heap.size,_,_,_,rfl,hs,hrow,hn.ext hxa⟩ ⟨hj.trans hxa,hxa⟩
     ·intro x W hj f;have h21:x 35=.slice AE pl.length cE:=f.1;obtain⟨k,u1,u2,u3,h24,hk,hrow,hn⟩:∃ h u1 u2 u3,x 38=.slice (some ⟨h,0,none⟩) 1 1/\Wc.heap.size<=h/\RowIs W h 37 (entL m u1 u2 u3) []/\EntNew W Wc.heap.size m u1 u2 u3:=f.2.1;have hs:=hj.size;have hone:=zfo (hn.rd (S:=fun _=>True) (fun _ _ _=>trivial));obtain⟨vss,g1,g2,g3⟩:=hEb.ext hj
      refine zab rfl (.tmp 35) (.tmp 38) 27 rfl (w.heap.size+2) 37 7 120 zeroEnt Tryz.underlying27 zbj rfl (by omega) (.slice AE pl.length cE) pl.length vss.flatten (by simp [go_sem,h21]) g3 (some ⟨k,0,none⟩) 1 1 (entL m u1 u2 u3) (by simp [go_sem,h24])
       ⟨by simp,hone,fun _=>⟨k,0,rfl,fun j u hj=>by rw [Nat.zero_add];exact hrow.cell hj⟩⟩ (by omega) (by omega) (by omega) ?_
      intro v' w' hown hgr;exact zaj (RowE.snoc g1 g2 hn hEl hgl (by omega) hown hgr) ⟨Grew.moved hj hgr,hgr.size,hgr.same⟩
     ·intro x W b hj f;have h:x 5=.pointer (some ⟨g,0,none⟩):=f.1;go_wp;exact zaj rfl ⟨hj,Ext.refl _⟩
     ·intro x W b hj f;have h:x 40=.pointer (some ⟨g,1,none⟩):=f.1;go_wp;exact zaj rfl ⟨hj,Ext.refl _⟩
    case hend =>
     intro x W hj f;have h25:RowE W (w.heap.size+2) g (x 39) (pl++[m]):=f.2.2.2.2.2.2.1;have h26:x 41=.pointer (some ⟨g,2,none⟩):=f.2.2.2.2.2.2.2.2.1;clear f;obtain⟨AF,cF,hF,-,-⟩:=h25.form;rw [show (pl++[m]).length=pl.length+1 by simp] at hF;simp only [List.length_cons,List.length_nil,Nat.reduceAdd,List.take_succ_cons,List.take_zero,List.filterMap_cons,List.filterMap_nil,List.drop_succ_cons,List.drop_zero,zaw,Act.put,List.setIfInBounds_toArray,List.set_cons_succ,List.set_cons_zero,h26,hF];rw [hF] at h25;have hgW:=hgb.mvR hj.mv hEg;have hRW:=hRb.mvR hj.mv (hoE.apart hRb (by decide));have ho0W:=ho0b.mvR hj.mv (ho0b.apart2 hoE (by decide));have ho1W:=ho1b.mvR hj.mv (ho1b.apart2 hoE (by decide));have ho3W:=ho3b.mvR hj.mv (ho3b.apart2 hoE (by decide));have hxW:=hxwc.moved hj (fun b hb=>by have:=(hEb.base_le hb).1;omega);have hf:=hgW.frozen 2;have hc:=hgW.cell (j:=2) rfl;have hgS:=hgW.set (j:=2) (by simp) (.slice AF (pl.length+1) cF);simp only [List.set_cons_succ,List.set_cons_zero] at hgS;have hkk:∀ b,b ≠ g->(W.setCell ⟨g,2,none⟩ (.slice AF (pl.length+1) cF)).heap[b]? = W.heap[b]?:=fun b hb=>Below.heap_setCell _ _ _ _ hb
     have HI:=zH (show RowIs (W.setCell ⟨g,2,none⟩ (.slice AF (pl.length+1) cF)) g 64 [.slice B0 JB.length m0,.slice B1 sa.length m1,(.slice AF (pl.length+1) cF),.slice B3 sp.length m3] []/\Own (W.setCell ⟨g,2,none⟩ (.slice AF (pl.length+1) cF)) (w.heap.size+2) 25 2 (.slice B0 JB.length m0) JB.length (JB.flatMap zag)/\Own (W.setCell ⟨g,2,none⟩ (.slice AF (pl.length+1) cF)) (w.heap.size+2) 25 2 (.slice B1 sa.length m1) sa.length (sa.flatMap zag)/\Own (W.setCell ⟨g,2,none⟩ (.slice AF (pl.length+1) cF)) (w.heap.size+2) 9 1 (.slice B3 sp.length m3) sp.length (sp.flatMap strC)/\RowE (W.setCell ⟨g,2,none⟩ (.slice AF (pl.length+1) cF)) (w.heap.size+2) g (.slice AF (pl.length+1) cF) (pl++[m])/\RowIs (W.setCell ⟨g,2,none⟩ (.slice AF (pl.length+1) cF)) (w.heap.size+1) 64 [.slice none 0 0,.slice none 0 0,.slice none 0 0,.slice none 0 0] [] from
      ⟨hgS,ho0W.keep fun b hb _=>hkk b (fun e=>by subst e;exact ho0W.apart hgW (by decide) hb),ho1W.keep fun b hb _=>hkk b (fun e=>by subst e;exact ho1W.apart hgW (by decide) hb),ho3W.keep fun b hb _=>hkk b (fun e=>by subst e;exact ho3W.apart hgW (by decide) hb),
       h25.set hgW (by decide),hRW.other (by simp;omega) _⟩)
     have HXW:=zH (hxW.set (p:=⟨g,2,none⟩) (by simp;omega) (.slice AF (pl.length+1) cF));clear h25 hgS hgW hRW ho0W ho1W ho3W hxW hgb hRb ho0b ho1b ho3b hEb hoE hEAb rc;go_wp;exact⟨⟨pre++[m],post,_,by rw [HL.out];simp,by simp,by rw [HFL.out];exact HI,HXW.out⟩,by simp [intOf];omega⟩
  | nil =>
   rw [List.append_nil] at hl;subst hl;generalize hpl:se.filter (zde base)=pl at *;have HPL:=zH hpl;clear hpl;obtain⟨hg,ho0,ho1,ho3,hE,hR⟩:=hI.out;obtain⟨AE,cE,rfl,-,-⟩:=hE.form;obtain⟨k0,k1,k2,k3⟩:=hg.p4;obtain⟨r0,r1,r2,r3⟩:=hR.p4;obtain⟨f0,f1,f2,f3⟩:=hR.q4;have HI:=hI;have HX:=zH hx;clear hI hg ho0 ho1 ho3 hE hR hx;go_wp2_with fail
   (try simp only [Exit.inBlock,Exit.then])
   refine bodyPost_ret (v:=dltV (.slice B0 JB.length m0) (.slice B1 sa.length m1) (.slice AE pl.length cE) (.slice B3 sp.length m3)) (by simp [results,Tryz.f18,go_sem,r0,r1,r2,r3]) rfl ?_;obtain⟨hg,ho0,ho1,ho3,hE,hR⟩:=HI.out;have hk:=zkw wr (w.heap.size+1) (.slice B0 JB.length m0) (.slice B1 sa.length m1) (.slice AE pl.length cE) (.slice B3 sp.length m3);refine ⟨.slice B0 JB.length m0,.slice B1 sa.length m1,.slice AE pl.length cE,.slice B3 sp.length m3,rfl,?_,?_,?_⟩
   ·rw [HJB.out];exact (ho0.keep fun b hb _=>hk b (by have:=(ho0.base_le hb).1;omega)).lower (by omega)
   ·rw [HSI.out];refine ⟨?_,?_,?_⟩
    ·exact (ho1.keep fun b hb _=>hk b (by have:=(ho1.base_le hb).1;omega)).lower (by omega)
    ·exact (OwnL.lower (OwnL.mono (OwnL.keep (w':=put4 wr (w.heap.size+1) (.slice B0 JB.length m0) (.slice B1 sa.length m1) (.slice AE pl.length cE) (.slice B3 sp.length m3)) hE (fun b hb _=>hk b (by have:=hb.1;omega)) (fun b hb _=>hk b (by have:=(hE.base_le hb).1;omega))) (S':=fun b=>w.heap.size<=b/\¬ zae (.slice AE pl.length cE) b) fun b _ hb=>⟨by have:=hb.1;omega,hb.2.2⟩) (by omega))
    ·exact (ho3.keep fun b hb _=>hk b (by have:=(ho3.base_le hb).1;omega)).lower (by omega)
   ·exact zmx HX.out (by omega) _ _ _ _
end
end Go.Proofs.YtdikcgmdmcfpfaaGreat
