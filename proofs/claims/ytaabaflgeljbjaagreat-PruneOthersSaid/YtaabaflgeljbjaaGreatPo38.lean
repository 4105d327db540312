/- Package entry: Update. Printed by gen_upd14.py. -/
import Derived.Test.YtaabaflgeljbjaaGreatPo37
import Derived.Test.YtaabaflgeljbjaaGreatPo34
set_option linter.unusedVariables false
set_option linter.unusedSimpArgs false
set_option maxRecDepth 100000
set_option maxHeartbeats 40000000
namespace Go.Proofs.YtaabaflgeljbjaaGreat
section
open Go.RowKit Go.Shelf
def zht (e:Entry) (o:OpD) (d:Dot):Entry × Nat :=
 match doE (zaq o.2.1) e o d with
 | none=>(zam,150)
 | some p=>if p.2=0 then ({ p.1 with seen:=setM p.1.seen d.1 d.2 },0) else (zam,p.2)
def updE (e:Entry) (o:OpD) (d:Dot):Entry × Nat :=
 if keyS o.2.1=false then (zam,10) else if e.key ≠ o.2.1/\zbb e zam=false then (zam,2) else if d.1 = [] ∨ d.2 < 1 ∨ 281474976710656 < d.2 ∨ hasM e.seen d=true then (zam,2) else zht { e with key:=o.2.1 } o d
theorem zge (w:World) (q:Nat) (e:Entry) (v1 v2 v3:Value) (b:Nat) (hb:b ≠ q):(put7 w q e v1 v2 v3).heap[b]? = w.heap[b]? :=
 ((((((Below.heap_setCell _ _ _ b hb).trans (Below.heap_setCell _ _ _ b hb)).trans (Below.heap_setCell _ _ _ b hb)).trans (Below.heap_setCell _ _ _ b hb)).trans (Below.heap_setCell _ _ _ b hb)).trans (Below.heap_setCell _ _ _ b hb)).trans (Below.heap_setCell _ _ _ b hb)
theorem zsk (B kk:Nat) (e:Entry) (o:OpD) (d:Dot):(zbw B kk o.1).isSome=(doE kk e o d).isSome:=by
 unfold zbw doE
 repeat' split
 all_goals first | rfl | (exfalso;omega)
theorem EntAt.keep {W w:World} {S:Nat->Prop} {e:Entry} {v1 v2 v3:Value} (h:EntAt W S e v1 v2 v3) (hs:∀ b,S b->b < W.heap.size->w.heap[b]? = W.heap[b]?):EntAt w S e v1 v2 v3 :=
 ⟨h.seen.keep (by decide) hs,h.counts.keep (by decide) hs,h.items.keep (by decide) hs⟩
theorem zu1 {e':Entry} {c:Nat} {e:Entry} {p:Entry × Nat} (h1:e'.seen=e.seen) (h2:e'.key=e.key) (h:some (e',c)=some p):p.1.seen=e.seen/\p.1.key=e.key:=by
 have:=Option.some.inj h;rw [<- this];exact⟨h1,h2⟩
theorem zwy {kk:Nat} {e:Entry} {o:OpD} {d:Dot} {p:Entry × Nat} (h:doE kk e o d=some p):p.1.seen=e.seen/\p.1.key=e.key:=by
 unfold doE at h
 repeat' split at h
 all_goals first | (refine zu1 (e:=e) ?_ ?_ h <;> rfl) | cases h
structure U4 (w V:World) (E O D:List Value):Prop where
 ext:Ext w V
 size:w.heap.size+4<=V.heap.size
 e:RowIs V w.heap.size 46 E []
 o:RowIs V (w.heap.size+1) 99 O []
 d:RowIs V (w.heap.size+1+1) 59 D []
 r:RowIs V (w.heap.size+1+1+1) 46 [St [],.slice none 0 0,.slice none 0 0,.slice none 0 0,.int .u64 0,St [],.bool false] []
theorem U4.start (w:World) (E O D:List Value):U4 w ((((w.alloc (.cells E.toArray 46)).alloc (.cells O.toArray 99)).alloc (.cells D.toArray 59)).alloc (.cells #[St [],.slice none 0 0,.slice none 0 0,.slice none 0 0,.int .u64 0,St [],.bool false] 46)) E O D:=by
 have h1:=zai (w.alloc (.cells E.toArray 46)) 99 O;have h2:=zai ((w.alloc (.cells E.toArray 46)).alloc (.cells O.toArray 99)) 59 D;have h3:=zai (((w.alloc (.cells E.toArray 46)).alloc (.cells O.toArray 99)).alloc (.cells D.toArray 59)) 46 [St [],.slice none 0 0,.slice none 0 0,.slice none 0 0,.int .u64 0,St [],.bool false];simp only [World.size_alloc] at h1 h2 h3;exact⟨((((Ext.refl w).alloc _).alloc _).alloc _).alloc _,by simp,(((zai w _ E).alloc _).alloc _).alloc _,(h1.alloc _).alloc _,h2.alloc _,h3⟩
theorem U4.on {w V V':World} {E O D:List Value} (h:U4 w V E O D) (he:Ext V V'):U4 w V' E O D :=
 ⟨h.ext.trans he,Nat.le_trans h.size he.size,h.e.ext he,h.o.ext he,h.d.ext he,h.r.ext he⟩
section
variable {w:World} {g T:Nat} {a b c d e f k:Value}
theorem RowIs.c7 (h:RowIs w g T [a,b,c,d,e,f,k] []):w.cell? ⟨g,0,none⟩=some a/\w.cell? ⟨g,1,none⟩=some b/\w.cell? ⟨g,2,none⟩=some c/\w.cell? ⟨g,3,none⟩=some d/\w.cell? ⟨g,4,none⟩=some e/\w.cell? ⟨g,5,none⟩=some f/\w.cell? ⟨g,6,none⟩=some k :=
 ⟨h.cell rfl,h.cell rfl,h.cell rfl,h.cell rfl,h.cell rfl,h.cell rfl,h.cell rfl⟩
theorem RowIs.c4 (h:RowIs w g T [a,b,c,d] []):w.cell? ⟨g,0,none⟩=some a/\w.cell? ⟨g,1,none⟩=some b/\w.cell? ⟨g,2,none⟩=some c/\w.cell? ⟨g,3,none⟩=some d:=⟨h.cell rfl,h.cell rfl,h.cell rfl,h.cell rfl⟩
theorem RowIs.c2 (h:RowIs w g T [a,b] []):w.cell? ⟨g,0,none⟩=some a/\w.cell? ⟨g,1,none⟩=some b:=⟨h.cell rfl,h.cell rfl⟩
theorem RowIs.z7 {l:List Value} (h:RowIs w g T l []):w.frozen? ⟨g,0,none⟩=false/\w.frozen? ⟨g,1,none⟩=false/\w.frozen? ⟨g,2,none⟩=false/\w.frozen? ⟨g,3,none⟩=false/\w.frozen? ⟨g,4,none⟩=false/\w.frozen? ⟨g,5,none⟩=false/\w.frozen? ⟨g,6,none⟩=false :=
 ⟨h.frozen 0,h.frozen 1,h.frozen 2,h.frozen 3,h.frozen 4,h.frozen 5,h.frozen 6⟩
end
theorem zwz {S:Nat->Prop} {e:Entry} {v1 v2 v3:Value} {w:World} (o:OpD) (d:Dot) (h:EntAt w S e v1 v2 v3) (sm:SmallE e) (hn1:-9223372036854775808<=o.2.2.1) (hn2:o.2.2.1<=9223372036854775807) :
  Calls Tryz.prog 84 #[entV e v1 v2 v3,opV o,dotV d] w fun r w'=>∃ u1 u2 u3,r=.returned (.tuple #[entV (updE e o d).1 u1 u2 u3,I (updE e o d).2])/\EntAt w' (fun b=>w.heap.size<=b) (updE e o d).1 u1 u2 u3/\Ext w w':=by
 obtain⟨ek,es,ec,ei,x1,x2,x3⟩:=e;obtain⟨dO,k,n,tx⟩:=o;obtain⟨d1,dn⟩:=d;obtain⟨A1,n1,rfl,-,-⟩:=h.seen.form;obtain⟨A2,n2,rfl,-,-⟩:=h.counts.form;obtain⟨A3,n3,rfl,-,-⟩:=h.items.form;have H0:=U4.start w [St ek,.slice A1 es.length n1,.slice A2 ec.length n2,.slice A3 ei.length n3,U x1,St x2,.bool x3] [K8 dO,St k,I n,St tx] [St d1,U dn];have H1:=zH (zxu k ((((w.alloc (.cells #[St ek,.slice A1 es.length n1,.slice A2 ec.length n2,.slice A3 ei.length n3,U x1,St x2,.bool x3] 46)).alloc (.cells #[K8 dO,St k,I n,St tx] 99)).alloc (.cells #[St d1,U dn] 59)).alloc (.cells #[St [],.slice none 0 0,.slice none 0 0,.slice none 0 0,.int .u64 0,St [],.bool false] 46)));have HE:=zH h;simp only at hn1 hn2;obtain⟨J,hJ⟩:∃ J,updE ⟨ek,es,ec,ei,x1,x2,x3⟩ (dO,k,n,tx) (d1,dn)=J:=⟨_,rfl⟩
 have HJ:Hid (J=if keyS k=false then (zam,10) else if ek ≠ k/\zbb ⟨ek,es,ec,ei,x1,x2,x3⟩ zam=false then (zam,2) else if d1 = [] ∨ dn < 1 ∨ 281474976710656 < dn ∨ hasM es (d1,dn)=true then (zam,2) else zht ⟨k,es,ec,ei,x1,x2,x3⟩ (dO,k,n,tx) (d1,dn)):=zH hJ.symm;rw [hJ]
 have hno:∀ (c:Nat) (V:World),Ext w V->J=(zam,c)->∃ u1 u2 u3,(Ending.returned (.tuple #[entV zam (.slice none 0 0) (.slice none 0 0) (.slice none 0 0),I c]))=.returned (.tuple #[entV J.1 u1 u2 u3,I J.2])/\EntAt (put7 V (w.heap.size+1+1+1) zam (.slice none 0 0) (.slice none 0 0) (.slice none 0 0)) (fun b=>w.heap.size<=b) J.1 u1 u2 u3/\Ext w (put7 V (w.heap.size+1+1+1) zam (.slice none 0 0) (.slice none 0 0) (.slice none 0 0)):=by rintro c V hx rfl;exact⟨_,_,_,rfl,EntAt.none _ _ _ _ _,zdv hx (by omega) zam _ _ _⟩
 have HNO:=zH hno;clear h hJ hno;go_enter Tryz.func84,Tryz.ntmps84;refine wp_seq_k ?_;intro K hK;have HK:=zH hK;clear hK;go_wp2_with fail;refine HK.out _ _ ?_;clear HK K;refine wp_seq_k ?_;intro K hK;have HK:=zH hK;clear hK;go_wp2_with fail;refine H1.out.mono ?_;rintro r V ⟨rfl,hx1⟩;have HW:=zH (H0.on hx1);clear H0 hx1 H1
 cases hk:keyS k with
 | false =>
  have HJ2:=zH (show J=(zam,10) by rw [HJ.out,if_pos hk]);have HX:=zH (HW.out).ext;obtain⟨r0,r1,r2,r3,r4,r5,r6⟩:=(HW.out).r.c7;obtain⟨f0,f1,f2,f3,f4,f5,f6⟩:=(HW.out).r.z7;clear HJ;go_wp2_with fail
  (try simp only [Exit.inBlock,Exit.then])
  exact bodyPost_ret (v:=.tuple #[entV zam (.slice none 0 0) (.slice none 0 0) (.slice none 0 0),I 10]) (by simp [results,Tryz.f84,go_sem,entV,entC,zam,r0,r1,r2,r3,r4,r5,r6]) rfl (HNO.out 10 _ HX.out HJ2.out)
 | true =>
  rw [hk] at HJ;have HJ2:Hid (J=if ek ≠ k/\zbb ⟨ek,es,ec,ei,x1,x2,x3⟩ zam=false then (zam,2) else if d1 = [] ∨ dn < 1 ∨ 281474976710656 < dn ∨ hasM es (d1,dn)=true then (zam,2) else zht ⟨k,es,ec,ei,x1,x2,x3⟩ (dO,k,n,tx) (d1,dn)):=zH (HJ.out.trans (if_neg (by simp)));clear HJ hk;go_wp2_with fail;refine HK.out _ _ ?_;clear HK K;refine wp_seq_k ?_;intro K hK
  have REST:∀ (u12 u13 u14 u15 u17 u18 u19 u20 u21 u22 u23 u24 u25 u26:Value) (V:World),U4 w V [St ek,.slice A1 es.length n1,.slice A2 ec.length n2,.slice A3 ei.length n3,U x1,St x2,.bool x3] [K8 dO,St k,I n,St tx] [St d1,U dn]->J=(if d1 = [] ∨ dn < 1 ∨ 281474976710656 < dn ∨ hasM es (d1,dn)=true then (zam,2) else zht ⟨k,es,ec,ei,x1,x2,x3⟩ (dO,k,n,tx) (d1,dn))->K ⟨#[.agg #[St ek,.slice A1 es.length n1,.slice A2 ec.length n2,.slice A3 ei.length n3,U x1,St x2,.bool x3],.agg #[K8 dO,St k,I n,St tx],.agg #[St d1,U dn],.pointer (some ⟨w.heap.size,0,none⟩),.pointer (some ⟨w.heap.size+1,0,none⟩),.pointer (some ⟨w.heap.size+1+1,0,none⟩),.pointer (some ⟨w.heap.size+1+1+1,0,none⟩),I 0,undef,undef,undef,undef,u12,u13,u14,u15,undef,u17,u18,u19,u20,u21,u22,u23,u24,u25,u26,undef,undef,undef,undef,undef,undef,undef,undef,undef,undef,undef,undef,undef,undef,undef,undef,undef,undef,undef,undef,undef,undef,undef,undef,undef,undef,undef,undef,undef,undef,undef,undef,undef,undef,undef,undef,undef,undef,undef,undef,undef,undef,undef,undef,undef,undef,undef,undef,undef,undef,undef,undef,undef,undef,undef,undef,undef],[]⟩ V:=by
   intro u12 u13 u14 u15 u17 u18 u19 u20 u21 u22 u23 u24 u25 u26 V hw hj;have HW:=zH hw;have HJ:=zH hj;refine hK _ _ ?_;clear hK K hw hj HJ2;obtain⟨d0,d2⟩:=HW.out.d.c2
   by_cases hd:d1 = []
   ·subst hd;have HJ2:=zH (show J=(zam,2) by rw [HJ.out,if_pos (.inl rfl)]);have HX:=zH (HW.out).ext;obtain⟨r0,r1,r2,r3,r4,r5,r6⟩:=(HW.out).r.c7;obtain⟨f0,f1,f2,f3,f4,f5,f6⟩:=(HW.out).r.z7;clear HJ;go_wp2_with fail
    (try simp only [Exit.inBlock,Exit.then])
    exact bodyPost_ret (v:=.tuple #[entV zam (.slice none 0 0) (.slice none 0 0) (.slice none 0 0),I 2]) (by simp [results,Tryz.f84,go_sem,entV,entC,zam,r0,r1,r2,r3,r4,r5,r6]) rfl (HNO.out 2 _ HX.out HJ2.out)
   have hdb:(d1 == [])=false:=by simpa using hd
   by_cases h2:(dn:Int) < 1
   ·skip
    have HJ2:=zH (show J=(zam,2) by rw [HJ.out,if_pos (.inr (.inl (by omega)))]);have HX:=zH (HW.out).ext;obtain⟨r0,r1,r2,r3,r4,r5,r6⟩:=(HW.out).r.c7;obtain⟨f0,f1,f2,f3,f4,f5,f6⟩:=(HW.out).r.z7;clear HJ;go_wp2_with fail
    (try simp only [Exit.inBlock,Exit.then])
    exact bodyPost_ret (v:=.tuple #[entV zam (.slice none 0 0) (.slice none 0 0) (.slice none 0 0),I 2]) (by simp [results,Tryz.f84,go_sem,entV,entC,zam,r0,r1,r2,r3,r4,r5,r6]) rfl (HNO.out 2 _ HX.out HJ2.out)
   by_cases h3:(dn:Int) > 281474976710656
   ·skip
    have HJ2:=zH (show J=(zam,2) by rw [HJ.out,if_pos (.inr (.inr (.inl (by omega))))]);have HX:=zH (HW.out).ext;obtain⟨r0,r1,r2,r3,r4,r5,r6⟩:=(HW.out).r.c7;obtain⟨f0,f1,f2,f3,f4,f5,f6⟩:=(HW.out).r.z7;clear HJ;go_wp2_with fail
    (try simp only [Exit.inBlock,Exit.then])
    exact bodyPost_ret (v:=.tuple #[entV zam (.slice none 0 0) (.slice none 0 0) (.slice none 0 0),I 2]) (by simp [results,Tryz.f84,go_sem,entV,entC,zam,r0,r1,r2,r3,r4,r5,r6]) rfl (HNO.out 2 _ HX.out HJ2.out)
   have HH:=zH (zrc (d1,dn) (HE.out.seen.ext (by decide) HW.out.ext));obtain⟨e0,e1,e2,e3,e4,e5,e6⟩:=HW.out.e.c7;cases hh:hasM es (d1,dn)
   ·rw [hh] at HH;have HJ2:=zH (show J=zht ⟨k,es,ec,ei,x1,x2,x3⟩ (dO,k,n,tx) (d1,dn) by rw [HJ.out,if_neg (by simp [hd,hh];omega)]);clear HJ hh;refine wp_seq_k ?_;intro K hK;have HK:=zH hK;clear hK HNO;have h2b:1<=(dn:Int):=(by omega);have h3b:(dn:Int)<=281474976710656:=(by omega);go_wp2_with fail;refine HH.out.mono ?_;rintro r V2 ⟨rfl,hx2⟩;have HW:=zH (HW.out.on hx2);clear e0 e1 e2 e3 e4 e5 e6 hx2 HH;go_wp2_with fail;refine HK.out _ _ ?_;clear HK K;have HCP:=zH (zgc (HE.out.ext HW.out.ext) (Nat.le_trans sm.seen (by decide)) (Nat.le_trans sm.counts (by decide)) (Nat.le_trans sm.items (by decide)) (fun it hit=>Nat.le_trans (sm.dots it hit) (by omega)));obtain⟨e0,e1,e2,e3,e4,e5,e6⟩:=HW.out.e.c7;go_wp2_with fail;refine HCP.out.mono ?_;rintro r V4 ⟨u1,u2,u3,rfl,hu,hx4⟩;have hzb:=hx4.size;have hz2:=HW.out.size;have HW:=zH (HW.out.on hx4);obtain⟨B1,m1,rfl,-,-⟩:=hu.seen.form;obtain⟨B2,m2,rfl,-,-⟩:=hu.counts.form;obtain⟨B3,m3,rfl,-,-⟩:=hu.items.form;have HU:=zH (show EntAt V4 (fun b=>V2.heap.size<=b/\b < V4.heap.size) ⟨k,es,ec,ei,(x1,x2,x3)⟩ (.slice B1 es.length m1) (.slice B2 ec.length m2) (.slice B3 ei.length m3) from (show EntAt V4 (fun b=>V2.heap.size<=b) ⟨k,es,ec,ei,(x1,x2,x3)⟩ _ _ _ from ⟨hu.at.seen,hu.at.counts,hu.at.items⟩).mono fun b hb h=>⟨h,hb⟩);obtain⟨q0,q1,q2,q3⟩:=HW.out.o.c4;obtain⟨hx1,hzz,rE,rO,rD,rR⟩:=HW.out;obtain rfl:=HJ2.out;clear hx4 hu HCP HW HJ2 e0 e1 e2 e3 e4 e5 e6;have hlt1:w.heap.size+1 < V4.heap.size:=(by omega);go_wp2_with fail;have rN:=zai V4 46 [St k,.slice B1 es.length m1,.slice B2 ec.length m2,.slice B3 ei.length m3,U x1,St x2,.bool x3];have hxa:=(Ext.refl V4).alloc (.cells #[St k,.slice B1 es.length m1,.slice B2 ec.length m2,.slice B3 ei.length m3,U x1,St x2,.bool x3] 46);have rO4:=rO.ext hxa;have rD4:=rD.ext hxa;have rR4:=rR.ext hxa;have HU4:=zH (HU.out.ext hxa);have hx4:=hx1.trans hxa;have hzn:=rN.lt;generalize hW4:V4.alloc (.cells #[St k,.slice B1 es.length m1,.slice B2 ec.length m2,.slice B3 ei.length m3,U x1,St x2,.bool x3] 46)=W4 at *;have hv4:=hxa.size;clear hW4 rO rD rR rE hx1 hxa HU q0 q1 q2 q3
    refine zao [fun v _=>v=opV (dO,k,n,tx),
  fun v _=>v=dotV (d1,dn),
  fun v W2=>∃ B m,W4.heap.size<=B/\B+6<=W2.heap.size/\UpdAt W2 B V4.heap.size n tx (d1,dn) m/\v=.map (some m),
  fun v _=>v=.pointer (some ⟨w.heap.size+1,1,none⟩),
  fun v _=>v=St k,
  fun v _=>v=K8 (zaq k),
  fun v W2=>∃ B m,W4.heap.size<=B/\B+6<=W2.heap.size/\UpdAt W2 B V4.heap.size n tx (d1,dn) m/\InnerIs W2 B (zaq k) v,
  fun v _=>v=.pointer (some ⟨w.heap.size+1,0,none⟩),
  fun v _=>v=K8 dO,
  fun v W2=>∃ B m,W4.heap.size<=B/\B+6<=W2.heap.size/\UpdAt W2 B V4.heap.size n tx (d1,dn) m/\v=.tuple #[(zbw B (zaq k) dO).getD .nilFunc,.bool (zbw B (zaq k) dO).isSome],
  fun v W2=>∃ B m,W4.heap.size<=B/\B+6<=W2.heap.size/\UpdAt W2 B V4.heap.size n tx (d1,dn) m/\v=.tuple #[(zbw B (zaq k) dO).getD .nilFunc,.bool (zbw B (zaq k) dO).isSome],
  fun v W2=>∃ B m,W4.heap.size<=B/\B+6<=W2.heap.size/\UpdAt W2 B V4.heap.size n tx (d1,dn) m/\v=(zbw B (zaq k) dO).getD .nilFunc,
  fun v _=>v=.bool (doE (zaq k) ⟨k,es,ec,ei,(x1,x2,x3)⟩ (dO,k,n,tx) (d1,dn)).isSome,
  fun v W2=>∃ B m,W4.heap.size<=B/\B+6<=W2.heap.size/\UpdAt W2 B V4.heap.size n tx (d1,dn) m/\v=(zbw B (zaq k) dO).getD .nilFunc] rfl (by kernel_rfl) ?hR ?hstep ?hend
    case hR=>simp only [List.mem_cons,List.not_mem_nil,or_false,forall_eq_or_imp,forall_eq];exact⟨kP,kP,fun v _ _ h he=>by obtain⟨B,m,h1,h2,h3,h4⟩:=h;exact⟨B,m,h1,Nat.le_trans h2 he.size,h3.ext he,h4⟩,kP,kP,kP,fun v _ _ h he=>by obtain⟨B,m,h1,h2,h3,h4⟩:=h;exact⟨B,m,h1,Nat.le_trans h2 he.size,h3.ext he,h4.ext he⟩,kP,kP,fun v _ _ h he=>by obtain⟨B,m,h1,h2,h3,h4⟩:=h;exact⟨B,m,h1,Nat.le_trans h2 he.size,h3.ext he,h4⟩,fun v _ _ h he=>by obtain⟨B,m,h1,h2,h3,h4⟩:=h;exact⟨B,m,h1,Nat.le_trans h2 he.size,h3.ext he,h4⟩,fun v _ _ h he=>by obtain⟨B,m,h1,h2,h3,h4⟩:=h;exact⟨B,m,h1,Nat.le_trans h2 he.size,h3.ext he,h4⟩,kP,fun v _ _ h he=>by obtain⟨B,m,h1,h2,h3,h4⟩:=h;exact⟨B,m,h1,Nat.le_trans h2 he.size,h3.ext he,h4⟩⟩
    case hstep =>
     simp only [List.length_cons,List.length_nil,Nat.reduceAdd,List.take_succ_cons,List.take_zero,za6,and_true];refine ⟨?_,?_,?_,?_,?_,?_,?_,?_,?_,?_,?_,?_,?_,?_⟩
     ·intro x W he f;have h:x 4=.pointer (some ⟨w.heap.size+1,0,none⟩):=f.1;have q0:=(rO4.ext he).cell (j:=0) rfl;have q1:=(rO4.ext he).cell (j:=1) rfl;have q2:=(rO4.ext he).cell (j:=2) rfl;have q3:=(rO4.ext he).cell (j:=3) rfl;go_wp;exact sQ
     ·intro x W he f;have h:x 5=.pointer (some ⟨w.heap.size+1+1,0,none⟩):=f.1;have q0:=(rD4.ext he).cell (j:=0) rfl;have q1:=(rD4.ext he).cell (j:=1) rfl;go_wp;exact sQ
     ·intro x W he f;have h8:x 8=.pointer (some ⟨V4.heap.size,0,none⟩):=f.1;have h54:x 54=opV (dO,k,n,tx):=f.2.1;have h55:x 55=dotV (d1,dn):=f.2.2.1;have hs:=he.size;have HC:=zH (zp9 (W:=W) (E:=V4.heap.size) k dO n tx (d1,dn));go_wp;refine HC.out.mono ?_;rintro r W2 ⟨m,rfl,hU,hz,hx2⟩;dsimp only;go_wp;exact zaa (v:=.map (some m)) ⟨W.heap.size,m,hs,hz,hU,rfl⟩ hx2
     ·intro x W he f;have h:x 4=.pointer (some ⟨w.heap.size+1,0,none⟩):=f.1;go_wp;exact sQ
     ·intro x W he f;have h:x 57=.pointer (some ⟨w.heap.size+1,1,none⟩):=f.1;have q1:=(rO4.ext he).cell (j:=1) rfl;go_wp;exact sQ
     ·intro x W he f;have h:x 58=St k:=f.1;have HC:=zH (zis k W);go_wp;refine HC.out.mono ?_;rintro r W2 ⟨rfl,hx2⟩;dsimp only;go_wp;exact zaa rfl hx2
     ·intro x W he f;obtain⟨B,m,b1,b2,hU,h⟩:∃ B m,W4.heap.size<=B/\B+6<=W.heap.size/\UpdAt W B V4.heap.size n tx (d1,dn) m/\x 56=.map (some m):=f.1;have h59:x 59=K8 (zaq k):=f.2.1;obtain⟨u,hu1,hu2⟩:=zwx hU (zaq k);have hl:=hu1 W (Ext.refl _);go_wp;exact zaa (v:=u) ⟨B,m,b1,b2,hU,hu2⟩ (Ext.refl _)
     ·intro x W he f;have h:x 4=.pointer (some ⟨w.heap.size+1,0,none⟩):=f.1;go_wp;exact sQ
     ·intro x W he f;have h:x 61=.pointer (some ⟨w.heap.size+1,0,none⟩):=f.1;have q0:=(rO4.ext he).cell (j:=0) rfl;go_wp;exact sQ
     ·intro x W he f;obtain⟨B,m,b1,b2,hU,hI⟩:∃ B m,W4.heap.size<=B/\B+6<=W.heap.size/\UpdAt W B V4.heap.size n tx (d1,dn) m/\InnerIs W B (zaq k) (x 60):=f.1;have h62:x 62=K8 dO:=f.2.1;have hl:=hI W (Ext.refl _) dO;go_wp;exact zaa ⟨B,m,b1,b2,hU,rfl⟩ (Ext.refl _)
     ·intro x W he f;obtain⟨B,m,b1,b2,hU,h⟩:∃ B m,W4.heap.size<=B/\B+6<=W.heap.size/\UpdAt W B V4.heap.size n tx (d1,dn) m/\x 63=.tuple #[(zbw B (zaq k) dO).getD .nilFunc,.bool (zbw B (zaq k) dO).isSome]:=f.1;go_wp;exact zaa ⟨B,m,b1,b2,hU,rfl⟩ (Ext.refl _)
     ·intro x W he f;obtain⟨B,m,b1,b2,hU,h⟩:∃ B m,W4.heap.size<=B/\B+6<=W.heap.size/\UpdAt W B V4.heap.size n tx (d1,dn) m/\x 53=.tuple #[(zbw B (zaq k) dO).getD .nilFunc,.bool (zbw B (zaq k) dO).isSome]:=f.1;go_wp;exact zaa ⟨B,m,b1,b2,hU,rfl⟩ (Ext.refl _)
     ·intro x W he f;obtain⟨B,m,b1,b2,hU,h⟩:∃ B m,W4.heap.size<=B/\B+6<=W.heap.size/\UpdAt W B V4.heap.size n tx (d1,dn) m/\x 53=.tuple #[(zbw B (zaq k) dO).getD .nilFunc,.bool (zbw B (zaq k) dO).isSome]:=f.1;rw [zsk B (zaq k) ⟨k,es,ec,ei,(x1,x2,x3)⟩ (dO,k,n,tx) (d1,dn)] at h;go_wp;exact sQ
     ·intro x W he f;obtain⟨B,m,b1,b2,hU,h⟩:∃ B m,W4.heap.size<=B/\B+6<=W.heap.size/\UpdAt W B V4.heap.size n tx (d1,dn) m/\x 64=(zbw B (zaq k) dO).getD .nilFunc:=f.1;go_wp
      first | exact zaa ⟨B,m,b1,b2,hU,rfl⟩ (Ext.refl _) | exact zaa ⟨B,m,b1,b2,hU,h⟩ (Ext.refl _)
    case hend =>
     intro x W he f;obtain⟨B,m,hB1,hB2,hU,h9⟩:∃ B m,W4.heap.size<=B/\B+6<=W.heap.size/\UpdAt W B V4.heap.size n tx (d1,dn) m/\x 9=(zbw B (zaq k) dO).getD .nilFunc:=f.2.2.2.2.2.2.2.2.2.2.2.2.2.1;have h65:x 65=.bool (doE (zaq k) ⟨k,es,ec,ei,(x1,x2,x3)⟩ (dO,k,n,tx) (d1,dn)).isSome:=f.2.2.2.2.2.2.2.2.2.2.2.2.1;clear f;have hx5:=hx4.trans he;have rN5:=rN.ext he;have rD5:=rD4.ext he;have rR:=rR4.ext he;have HU5:=zH (HU4.out.ext he);have HRE:=zH (show zht ⟨k,es,ec,ei,(x1,x2,x3)⟩ (dO,k,n,tx) (d1,dn)=match (doE (zaq k) ⟨k,es,ec,ei,(x1,x2,x3)⟩ (dO,k,n,tx) (d1,dn)) with | none=>(zam,150) | some p=>if p.2=0 then ({ p.1 with seen:=setM p.1.seen d1 dn },0) else (zam,p.2) from rfl);have HDO:=zyc (kk:=zaq k) (o:=(dO,k,n,tx)) (d:=(d1,dn)) (e:=⟨k,es,ec,ei,(x1,x2,x3)⟩) hU hn1 hn2 (Nat.lt_of_le_of_lt sm.counts (by decide)) (Nat.lt_of_le_of_lt sm.places (by decide)) rN5 HU5.out (fun b hb=>⟨by omega,by omega⟩) (by omega);have hse:=@zwy (zaq k) ⟨k,es,ec,ei,(x1,x2,x3)⟩ (dO,k,n,tx) (d1,dn);generalize doE (zaq k) ⟨k,es,ec,ei,(x1,x2,x3)⟩ (dO,k,n,tx) (d1,dn)=Dd at *;clear hU he rO4 rD4 rR4 HU4 rN hx4
     cases Dd with
     | none =>
      clear HDO h9 hse;have HRE2:=zH HRE.out;obtain⟨r0,r1,r2,r3,r4,r5,r6⟩:=rR.p7;obtain⟨f0,f1,f2,f3,f4,f5,f6⟩:=rR.q7;have HX:=zH hx5;simp only [Option.isSome_none] at h65;clear rN5 rD5 HU5 HRE;simp only [List.length_cons,List.length_nil,Nat.reduceAdd,List.take_succ_cons,List.take_zero,List.filterMap_cons,List.filterMap_nil,List.drop_succ_cons,List.drop_zero,zav,Act.put,List.setIfInBounds_toArray,List.set_cons_succ,List.set_cons_zero,h65];go_wp;go_wp2_with fail
      (try simp only [Exit.inBlock,Exit.then])
      refine bodyPost_ret (v:=.tuple #[entV zam (.slice none 0 0) (.slice none 0 0) (.slice none 0 0),I 150]) (by simp [results,Tryz.f84,go_sem,entV,entC,zam,r0,r1,r2,r3,r4,r5,r6]) rfl ?_;have hp:=zdv (q:=w.heap.size+1+1+1) HX.out (by omega) zam (.slice none 0 0) (.slice none 0 0) (.slice none 0 0);refine ⟨.slice none 0 0,.slice none 0 0,.slice none 0 0,by (rw [HRE2.out];try rfl),?_⟩;rw [HRE2.out];exact⟨EntAt.none _ _ _ _ _,hp⟩
     | some p =>
      obtain⟨e1,err⟩:=p;have HS1:=zH (hse rfl);simp only [Option.isSome_some] at h65
      cases hc:zbw B (zaq k) dO with
      | none=>rw [hc] at HDO;exact HDO.elim
      | some c =>
       rw [hc] at HDO h9;obtain⟨fn,cap,rfl,hen,HCC⟩:=HDO;simp only [Option.getD_some] at h9;have HC:=zH HCC;clear HCC hc hse;simp only [List.length_cons,List.length_nil,Nat.reduceAdd,List.take_succ_cons,List.take_zero,List.filterMap_cons,List.filterMap_nil,List.drop_succ_cons,List.drop_zero,zav,Act.put,List.setIfInBounds_toArray,List.set_cons_succ,List.set_cons_zero,h65,h9];go_wp;go_wp2_with fail;refine HC.out.mono ?_;rintro r W6 ⟨rfl,hD⟩;obtain⟨t2,t3,hE6,hA6,hk6⟩:=hD;have hx6:=hx5.kept2 hk6 (by omega) (by omega);have rR6:=rR.keep (hk6.other _ rR.lt (by omega) (by omega));have rD6:=rD5.keep (hk6.other _ rD5.lt (by omega) (by omega));have hz6:=hk6.size;clear HC rR rD5 rN5 HU5 hx5 hk6 hen
       by_cases herr:err=0
       ·subst herr;have HRE2:=zH (show zht ⟨k,es,ec,ei,(x1,x2,x3)⟩ (dO,k,n,tx) (d1,dn)=({ e1 with seen:=setM e1.seen d1 dn },0) from HRE.out);have HS:=zH (zh8 d1 dn hA6.seen (by rw [HS1.out.1];exact Nat.le_trans sm.seen (by decide)));obtain⟨T2,t2n,rfl,-,-⟩:=hA6.counts.form;obtain⟨T3,t3n,rfl,-,-⟩:=hA6.items.form;have k1:=hE6.cell (j:=1) rfl;have dd0:=rD6.cell (j:=0) rfl;have dd1:=rD6.cell (j:=1) rfl;have HA6:=zH hA6;clear hA6 HRE;go_wp2_with fail;refine HS.out.mono ?_;rintro r W7 ⟨u,rfl,ho,hx7⟩;obtain⟨U1,un,rfl,-,-⟩:=ho.form;have hE7:=hE6.ext hx7;have rR7:=rR6.ext hx7;have hf7:=hE7.frozen 1;have hc7:=hE7.cell (j:=1) rfl;have hsz7:=hx7.size;have hE8:=hE7.set (j:=1) (by simp) (.slice U1 (setM e1.seen d1 dn).length un);have rR8:=rR7.other (p:=⟨V4.heap.size,1,none⟩) (by simp;omega) (.slice U1 (setM e1.seen d1 dn).length un);simp only [List.set_cons_succ,List.set_cons_zero] at hE8;obtain⟨y0,y1,y2,y3,y4,y5,y6⟩:=hE7.p7;obtain⟨rr0,rr1,rr2,rr3,rr4,rr5,rr6⟩:=rR7.p7;obtain⟨ff0,ff1,ff2,ff3,ff4,ff5,ff6⟩:=rR7.q7;obtain⟨z0,z1,z2,z3,z4,z5,z6⟩:=hE8.p7;obtain⟨r0,r1,r2,r3,r4,r5,r6⟩:=rR8.p7;obtain⟨f0,f1,f2,f3,f4,f5,f6⟩:=rR8.q7;have HX:=zH (((hx6.trans hx7).set (p:=⟨V4.heap.size,1,none⟩) (by simp;omega) (.slice U1 (setM e1.seen d1 dn).length un)));have HO:=zH ho;have HX7:=zH hx7;clear hE6 hE7 hE8 rR6 rR7 rR8 rD6 ho hx7 hx6 HS k1 dd0 dd1;go_wp2_with fail
        (try simp only [Exit.inBlock,Exit.then])
        refine bodyPost_ret (v:=.tuple #[entV { e1 with seen:=setM e1.seen d1 dn } (.slice U1 (setM e1.seen d1 dn).length un) (.slice T2 e1.counts.length t2n) (.slice T3 e1.items.length t3n),I 0]) (by simp [results,Tryz.f84,go_sem,entV,entC,r0,r1,r2,r3,r4,r5,r6,rr0,rr1,rr2,rr3,rr4,rr5,rr6]) rfl ?_;have hp:=zdv (q:=w.heap.size+1+1+1) HX.out (by omega) { e1 with seen:=setM e1.seen d1 dn } (.slice U1 (setM e1.seen d1 dn).length un) (.slice T2 e1.counts.length t2n) (.slice T3 e1.items.length t3n);refine ⟨.slice U1 (setM e1.seen d1 dn).length un,.slice T2 e1.counts.length t2n,.slice T3 e1.items.length t3n,by (rw [HRE2.out];try rfl),?_⟩;rw [HRE2.out];refine ⟨?_,hp⟩
        have hkp:∀ b,b ≠ V4.heap.size->b ≠ w.heap.size+1+1+1->(put7 (W7.setCell ⟨V4.heap.size,1,none⟩ (.slice U1 (setM e1.seen d1 dn).length un)) (w.heap.size+1+1+1) { e1 with seen:=setM e1.seen d1 dn } (.slice U1 (setM e1.seen d1 dn).length un) (.slice T2 e1.counts.length t2n) (.slice T3 e1.items.length t3n)).heap[b]? = W7.heap[b]?:=fun b h1 h2=>(zge _ _ _ _ _ _ b h2).trans (Below.heap_setCell _ _ _ _ h1)
        have hA7:=HA6.out.ext HX7.out;refine ⟨?_,?_,?_⟩
        ·exact (zay (HO.out.keep fun b hb _=>hkp b (by have:=(HO.out.base_le hb).1;omega) (by have:=(HO.out.base_le hb).1;omega))).mono (by decide) fun b _ h=>by omega
        ·exact (hA7.counts.keep (by decide) fun b hb _=>hkp b (by rcases hb with hb | hb <;> omega) (by rcases hb with hb | hb <;> omega)).mono (by decide) fun b _ hb=>by rcases hb with hb | hb <;> omega
        ·exact (hA7.items.keep (by decide) fun b hb _=>hkp b (by rcases hb with hb | hb <;> omega) (by rcases hb with hb | hb <;> omega)).mono (by decide) fun b _ hb=>by rcases hb with hb | hb <;> omega
       ·have HRE2:=zH (show zht ⟨k,es,ec,ei,(x1,x2,x3)⟩ (dO,k,n,tx) (d1,dn)=(zam,err) by rw [HRE.out];exact if_neg herr);have hne2:((err:Int) == 0)=false:=neI (by omega);obtain⟨r0,r1,r2,r3,r4,r5,r6⟩:=rR6.p7;obtain⟨f0,f1,f2,f3,f4,f5,f6⟩:=rR6.q7;have HX:=zH hx6;clear hE6 hA6 rD6 HRE hx6 rR6;go_wp2_with fail
        (try simp only [Exit.inBlock,Exit.then])
        refine bodyPost_ret (v:=.tuple #[entV zam (.slice none 0 0) (.slice none 0 0) (.slice none 0 0),I err]) (by simp [results,Tryz.f84,go_sem,entV,entC,zam,r0,r1,r2,r3,r4,r5,r6]) rfl ?_;have hp:=zdv (q:=w.heap.size+1+1+1) HX.out (by omega) zam (.slice none 0 0) (.slice none 0 0) (.slice none 0 0);refine ⟨.slice none 0 0,.slice none 0 0,.slice none 0 0,by (rw [HRE2.out];try rfl),?_⟩;rw [HRE2.out];exact⟨EntAt.none _ _ _ _ _,hp⟩
   ·rw [hh] at HH;go_wp2_with fail;refine HH.out.mono ?_;rintro r V2 ⟨rfl,hx2⟩;have HW:=zH (HW.out.on hx2);clear e0 e1 e2 e3 e4 e5 e6 hx2 HH;have HJ2:=zH (show J=(zam,2) by rw [HJ.out,if_pos (.inr (.inr (.inr hh)))]);have HX:=zH (HW.out).ext;obtain⟨r0,r1,r2,r3,r4,r5,r6⟩:=(HW.out).r.c7;obtain⟨f0,f1,f2,f3,f4,f5,f6⟩:=(HW.out).r.z7;clear HJ;go_wp2_with fail
    (try simp only [Exit.inBlock,Exit.then])
    exact bodyPost_ret (v:=.tuple #[entV zam (.slice none 0 0) (.slice none 0 0) (.slice none 0 0),I 2]) (by simp [results,Tryz.f84,go_sem,entV,entC,zam,r0,r1,r2,r3,r4,r5,r6]) rfl (HNO.out 2 _ HX.out HJ2.out)
  have HRS:=zH REST;clear REST hK;have HN:=zH (zuv (HE.out.ext HW.out.ext));obtain⟨e0,e1,e2,e3,e4,e5,e6⟩:=HW.out.e.c7;obtain⟨o0,o1,o2,o3⟩:=HW.out.o.c4
  by_cases he:ek=k
  ·subst he;clear HN;go_wp2_with fail;exact HRS.out _ _ _ _ _ _ _ _ _ _ _ _ _ _ _ HW.out (HJ2.out.trans (if_neg fun h=>h.1 rfl))
  have hne:(ek == k)=false:=by simpa using he
  cases hs:zbb ⟨ek,es,ec,ei,x1,x2,x3⟩ zam
  ·clear HRS;rw [hs] at HN;go_wp2_with fail;refine HN.out.mono ?_;rintro r V2 ⟨rfl,hx2⟩;have HW:=zH (HW.out.on hx2);clear e0 e1 e2 e3 e4 e5 e6 o0 o1 o2 o3 hx2 HN;have HJ:=HJ2;have HJ2:=zH (show J=(zam,2) by rw [HJ.out,if_pos ⟨he,hs⟩]);have HX:=zH (HW.out).ext;obtain⟨r0,r1,r2,r3,r4,r5,r6⟩:=(HW.out).r.c7;obtain⟨f0,f1,f2,f3,f4,f5,f6⟩:=(HW.out).r.z7;clear HJ;go_wp2_with fail
   (try simp only [Exit.inBlock,Exit.then])
   exact bodyPost_ret (v:=.tuple #[entV zam (.slice none 0 0) (.slice none 0 0) (.slice none 0 0),I 2]) (by simp [results,Tryz.f84,go_sem,entV,entC,zam,r0,r1,r2,r3,r4,r5,r6]) rfl (HNO.out 2 _ HX.out HJ2.out)
  ·rw [hs] at HN;go_wp2_with fail;refine HN.out.mono ?_;rintro r V2 ⟨rfl,hx2⟩;go_wp2_with fail;exact HRS.out _ _ _ _ _ _ _ _ _ _ _ _ _ _ _ (HW.out.on hx2) (HJ2.out.trans (if_neg fun h=>by rw [hs] at h;cases h.2))
end
end Go.Proofs.YtaabaflgeljbjaaGreat
