/- Contracts and plain laws. -/
import Derived.Test.YtaabaflgeljbjaaGreatPo47
import Derived.Test.YtaabaflgeljbjaaGreatPo43
import Derived.Test.YtaabaflgeljbjaaGreatPo39
import Derived.Test.YtaabaflgeljbjaaGreatPo23
import Derived.Test.YtaabaflgeljbjaaGreatPo37
set_option linter.unusedVariables false
set_option linter.unusedSimpArgs false
set_option maxRecDepth 100000
set_option maxHeartbeats 40000000
namespace Go.Proofs.YtaabaflgeljbjaaGreat
section
open Go.RowKit Go.Shelf
theorem zte {r:Nat} (h:zbn ((r:Nat):Int)=false):¬ ((r:Int) < 32)/\(¬ ((r:Int) ≥ 127) ∨ ¬ ((r:Int)<=159)):=by
 unfold zbn at h;simp only [Bool.or_eq_false_iff,decide_eq_false_iff_not,Bool.and_eq_false_iff] at h;exact h
theorem ztf {r:Nat} {K:Nat} (h:zd9 ((r:Nat):Int)=K) (hK:K ≠ 0):((r:Int)=35/\K=1) ∨ ((r:Int)=64/\K=2) ∨ ((r:Int)=61/\K=3):=by
 unfold zd9 at h
 by_cases h1:(r:Int)=35
 ·rw [if_pos h1] at h;exact .inl ⟨h1,h.symm⟩
 ·rw [if_neg h1] at h
  by_cases h2:(r:Int)=64
  ·rw [if_pos h2] at h;exact .inr (.inl ⟨h2,h.symm⟩)
  ·rw [if_neg h2] at h
   by_cases h3:(r:Int)=61
   ·rw [if_pos h3] at h;exact .inr (.inr ⟨h3,h.symm⟩)
   ·rw [if_neg h3] at h;exact absurd h.symm hK
theorem zpl (s:Str) {K:Nat} (hk:zaq s=K) (hK:K ≠ 0) (w:World) (hs:s.length<=1000000):Calls Tryz.prog 51 #[St s] w fun e w'=>e=.returned (.int .u8 (K:Int))/\Ext w w':=by
 obtain⟨r0,R,hR,hlen,hcon,hsig⟩:=zvn hk hK;have HR:=zH (zn0 s _ w hR hs);have HS:=zH (ztf hsig hK);have HC:=zH hcon;clear hR hcon hsig hk;go_enter Tryz.func51,Tryz.ntmps51;go_wp2_with fail;refine HR.out.mono ?_;rintro e W ⟨⟨v,rfl,hsl⟩,hx⟩;obtain⟨L,hL⟩:∃ L,iR (r0 :: R)=L:=⟨_,rfl⟩
 rw [hL] at hsl;have hsl':=hsl;obtain⟨A,c,rfl,h1,h2⟩:=hsl.form;have HX:=zH hx;have HAT:=zH (fun (pre post:List Int) (x:Int) (hl:L=pre++x :: post)=>zyv hsl' (Ext.refl _) hl);have hll:L.length=R.length+1:=by rw [<- hL];simp
 have HCX:=zH (fun (x:Int) (hx:x ∈ L)=>show ¬ (x < 32)/\(¬ (x ≥ 127) ∨ ¬ (x<=159)) by rw [<- hL] at hx;obtain⟨r,hr,rfl⟩:=List.mem_map.1 hx;exact zte (HC.out r hr))
 have HL0:=zH (show L=(r0:Int) :: iR R from hL.symm);have l1:¬ ((L.length:Int) < 1):=by omega
 have l2:¬ ((L.length:Int) > 64):=by omega
 have l3:decide ((L.length:Int) < 1)=false:=decide_eq_false l1;clear hx hsl hsl' HR hL HC;go_wp2_with fail
 go_loopw [5] (fun i wr=>∃ (pre post:List Int),L=pre++post/\i=I pre.length/\wr=W) (fun i _=>L.length - (intOf i).toNat)
 case atStart=>exact⟨[],L,rfl,rfl,rfl⟩
 case round =>
  obtain⟨pre,post,hl,rfl,rfl⟩:=hrel
  cases post with
  | cons x post =>
   obtain⟨b,o,rfl,e0⟩:=HAT.out pre post x hl;have hlt:pre.length < L.length:=(by rw [hl];simp);obtain⟨x1,x23⟩:=HCX.out x (by rw [hl];simp);have HL:=zH hl;clear hl
   by_cases x2:x ≥ 127
   ·have x3:¬ x<=159:=(by omega);clear x23;go_wp2_with fail;go_roundw
    case rel=>exact⟨pre++[x],post,by rw [HL.out];simp,by simp,trivial⟩
    case measure=>simp [intOf];omega
   ·clear x23;go_wp2_with fail;go_roundw
    case rel=>exact⟨pre++[x],post,by rw [HL.out];simp,by simp,trivial⟩
    case measure=>simp [intOf];omega
  | nil =>
   rw [List.append_nil] at hl;subst hl;obtain⟨b,o,rfl,e0⟩:=HAT.out [] _ _ HL0.out;simp only [List.length_nil,Nat.add_zero] at e0;have hlt:0 < L.length:=(by omega);rcases HS.out with ⟨y,rfl⟩ | ⟨y,rfl⟩ | ⟨y,rfl⟩
   ·rw [y] at e0;go_wp2_with fail
    (try simp only [Exit.inBlock,Exit.then])
    refine bodyPost_ret (v:=.int .u8 1) (by simp [results,Tryz.f51,go_sem]) rfl ?_;exact⟨rfl,HX.out⟩
   ·rw [y] at e0;go_wp2_with fail
    (try simp only [Exit.inBlock,Exit.then])
    refine bodyPost_ret (v:=.int .u8 2) (by simp [results,Tryz.f51,go_sem]) rfl ?_;exact⟨rfl,HX.out⟩
   ·rw [y] at e0;go_wp2_with fail
    (try simp only [Exit.inBlock,Exit.then])
    refine bodyPost_ret (v:=.int .u8 3) (by simp [results,Tryz.f51,go_sem]) rfl ?_;exact⟨rfl,HX.out⟩
abbrev put5 (w:World) (q:Nat) (v1 v2 v3 v4 v5:Value):World:=((((w.setCell ⟨q,0,none⟩ v1).setCell ⟨q,1,none⟩ v2).setCell ⟨q,2,none⟩ v3).setCell ⟨q,3,none⟩ v4).setCell ⟨q,4,none⟩ v5
theorem zli {w wr:World} {q:Nat} (hx:Ext w wr) (hq:w.heap.size<=q) (v1 v2 v3 v4 v5:Value):Ext w (put5 wr q v1 v2 v3 v4 v5) :=
 ((((hx.set (p:=⟨q,0,none⟩) hq v1).set (p:=⟨q,1,none⟩) hq v2).set (p:=⟨q,2,none⟩) hq v3).set (p:=⟨q,3,none⟩) hq v4).set (p:=⟨q,4,none⟩) hq v5
theorem zj3 (w:World) (q:Nat) (v1 v2 v3 v4 v5:Value) (b:Nat) (hb:b ≠ q):(put5 w q v1 v2 v3 v4 v5).heap[b]? = w.heap[b]? :=
 ((((Below.heap_setCell _ _ _ b hb).trans (Below.heap_setCell _ _ _ b hb)).trans (Below.heap_setCell _ _ _ b hb)).trans (Below.heap_setCell _ _ _ b hb)).trans (Below.heap_setCell _ _ _ b hb)
def ValR (W:World) (base:Nat) (e:Entry) (v:Value):Prop :=
 if zaq e.key=1 then v=valC 1 (zba e.counts) (.slice none 0 0) [] false else
 if zaq e.key=2 then (∃ s,v=valC 2 0 s [] false/\Own W base 9 1 s (zbg e.items).length ((zbg e.items).flatMap strC)) else
 v=valC 3 0 (.slice none 0 0) (zbv e.cell).1 (zbv e.cell).2
theorem zkz {S:Nat->Prop} {e:Entry} {v1 v2 v3:Value} {w:World} (h:EntAt w S e v1 v2 v3) (hm:mayE e=true) (hk:e.key.length<=1000000) (hc:e.counts.length<=1000000) (hp:(zac e.items).length<=400000) :
  Calls Tryz.prog 20 #[entV e v1 v2 v3] w fun r w'=>∃ v,r=.returned v/\ValR w' w.heap.size e v/\Ext w w':=by
 have hcl:=zgx hm;obtain⟨kq,hK⟩:∃ K,zaq e.key=K:=⟨_,rfl⟩
 have hcases:=zj2 hm;rw [hK] at hcases;obtain⟨k,es,ec,ei,cs,ct,cg⟩:=e;obtain⟨A1,n1,rfl,-,-⟩:=h.seen.form;obtain⟨A2,n2,rfl,-,-⟩:=h.counts.form;obtain⟨A3,n3,rfl,-,-⟩:=h.items.form;simp only at hK hk hc hp hcl;obtain⟨W0,hW0⟩:∃ X,(w.alloc (.cells #[St k,.slice A1 es.length n1,.slice A2 ec.length n2,.slice A3 ei.length n3,U cs,St ct,.bool cg] 46)).alloc (.cells #[.int .u8 0,I 0,.slice none 0 0,St [],.bool false] 51)=X:=⟨_,rfl⟩
 have hx0:Ext w W0:=by rw [<- hW0];exact ((Ext.refl w).alloc _).alloc _
 have rB0:RowIs W0 w.heap.size 46 [St k,.slice A1 es.length n1,.slice A2 ec.length n2,.slice A3 ei.length n3,U cs,St ct,.bool cg] []:=by rw [<- hW0];exact (zai w _ _).alloc _
 have rR0:RowIs W0 (w.heap.size+1) 51 [.int .u8 0,I 0,.slice none 0 0,St [],.bool false] []:=by rw [<- hW0];have h:=zai (w.alloc (.cells #[St k,.slice A1 es.length n1,.slice A2 ec.length n2,.slice A3 ei.length n3,U cs,St ct,.bool cg] 46)) 51 [.int .u8 0,I 0,.slice none 0 0,St [],.bool false];simp only [World.size_alloc] at h;exact h
 have hz0:w.heap.size+2<=W0.heap.size:=by rw [<- hW0];simp
 have HKX:=zH (zpl k (K:=kq) hK (by omega) W0 hk);have HA:=zH (h.ext hx0);have b0:=rB0.cell (j:=0) rfl;have HKK:=zH hK;clear h hm hK;go_enter Tryz.func20,Tryz.ntmps20;refine wp_seq_k ?_;intro K hK;have HK:=zH hK;clear hK;go_wp2_with fail
 (try rw [hW0])
 clear hW0;refine HK.out _ _ ?_;clear HK K;refine wp_seq_k ?_;intro K hK;have HK:=zH hK;clear hK;go_wp2_with fail;refine HKX.out.mono ?_;rintro r W1 ⟨rfl,hx1⟩;obtain⟨z3,hz3⟩:∃ z,W1.heap.size=z:=⟨_,rfl⟩
 obtain⟨W2,hW2⟩:∃ X,W1.alloc (.cells #[.int .u8 (kq:Int),I 0,.slice none 0 0,St [],.bool false] 51)=X:=⟨_,rfl⟩
 have hx2:Ext W1 W2:=by rw [<- hW2];exact (Ext.refl W1).alloc _
 have r3:RowIs W2 z3 51 [.int .u8 (kq:Int),I 0,.slice none 0 0,St [],.bool false] []:=by rw [<- hW2,<- hz3];exact zai W1 _ _
 have hz32:w.heap.size+2<=z3:=by rw [<- hz3];exact Nat.le_trans hz0 hx1.size
 have rB2:=(rB0.ext hx1).ext hx2;have rR2:=(rR0.ext hx1).ext hx2;have hx02:=(hx0.trans hx1).trans hx2;have HA2:=zH ((HA.out.ext hx1).ext hx2);have y0:=r3.cell (j:=0) rfl;have c2:=rB2.cell (j:=2) rfl;have c3:=rB2.cell (j:=3) rfl;have c4:=rB2.cell (j:=4) rfl;have c5:=rB2.cell (j:=5) rfl;have c6:=rB2.cell (j:=6) rfl;have HW2:=zH hW2;clear hx0 hx1 hx2 rB0 rR0 b0 HKX HA hz0 hW2;go_wp2_with fail
 (try rw [hz3])
 rw [HW2.out];clear hz3 HW2;refine HK.out _ _ ?_;clear HK K;rcases hcases with rfl | rfl | rfl
 ·replace y0:W2.cell? ⟨z3,0,none⟩=some (.int .u8 1):=y0;have HV:=zH (zmq HA2.out.counts hcl.counts hc);have HVR:=zH (fun (W:World)=>show ValR W w.heap.size ⟨k,es,ec,ei,cs,ct,cg⟩ (valC 1 (zba ec) (.slice none 0 0) [] false) by unfold ValR;rw [if_pos HKK.out]);go_wp2_with fail;refine HV.out.mono ?_;rintro r W3 ⟨rfl,hx3⟩;have r33:=r3.ext hx3;have rR3:=rR2.ext hx3;have k1:=r33.cell (j:=1) rfl;have g1':=r33.frozen 1;have r34:=r33.set (j:=1) (by simp) (I (zba ec));simp only [List.set_cons_succ,List.set_cons_zero] at r34;obtain⟨W4,hW4⟩:∃ X,W3.setCell ⟨z3,1,none⟩ (I (zba ec))=X:=⟨_,rfl⟩
  have hk4:∀ b,b ≠ z3->W4.heap[b]? = W3.heap[b]?:=fun b hb=>by rw [<- hW4];exact Below.heap_setCell _ _ _ _ hb
  have rR4:=rR3.keep (hk4 _ (by omega));have hx04:Ext w W4:=by rw [<- hW4];exact (hx02.trans hx3).set (by simp;omega) _
  rw [hW4] at r34;have R3:=zH r33;have RR4:=zH rR4;have HX4:=zH hx04;have q0:W4.cell? ⟨z3,0,none⟩=some (.int .u8 1):=r34.cell (j:=0) rfl;have q1:=r34.cell (j:=1) rfl;have q2:=r34.cell (j:=2) rfl;have q3:=r34.cell (j:=3) rfl;have q4:=r34.cell (j:=4) rfl;obtain⟨s0,s1,s2,s3,s4⟩:=rR4.p5;obtain⟨f0,f1,f2,f3,f4⟩:=rR4.q5;clear r34 rR4 hx04 r3 rR2 rB2 hx3 y0 c2 c3 c4 c5 c6 rR3 r33 HV hx02;go_wp2_with fail
  (try simp only [Exit.inBlock,Exit.then])
  refine bodyPost_ret (v:=.agg #[.int .u8 1,I (zba ec),.slice none 0 0,St [],.bool false]) (by simp [results,Tryz.f20,go_sem,s0,s1,s2,s3,s4]) rfl ?_;have hxf:=zli (q:=w.heap.size+1) HX4.out (by omega) (.int .u8 (1:Nat)) (I (zba ec)) (.slice none 0 0) (St []) (.bool false);have hkf:=zj3 W4 (w.heap.size+1) (.int .u8 (1:Nat)) (I (zba ec)) (.slice none 0 0) (St []) (.bool false);exact⟨_,rfl,HVR.out _,hxf⟩
 ·replace y0:W2.cell? ⟨z3,0,none⟩=some (.int .u8 2):=y0;obtain⟨g1,g2⟩:=zj1 hcl.items.rise;have HV:=zH (zmo HA2.out.items hcl.items.rise hp);have hzw:=hx02.size;go_wp2_with fail;refine HV.out.mono ?_;rintro r W3 ⟨v',rfl,ho,hx3⟩;obtain⟨D,d,rfl,-,-⟩:=ho.form;have HO:=zH ho
  (try simp only at HO)
  clear ho;have r33:=r3.ext hx3;have rR3:=rR2.ext hx3;have k1:=r33.cell (j:=2) rfl;have g1':=r33.frozen 2;have r34:=r33.set (j:=2) (by simp) (.slice D (zbg ei).length d);simp only [List.set_cons_succ,List.set_cons_zero] at r34;obtain⟨W4,hW4⟩:∃ X,W3.setCell ⟨z3,2,none⟩ (.slice D (zbg ei).length d)=X:=⟨_,rfl⟩
  have hk4:∀ b,b ≠ z3->W4.heap[b]? = W3.heap[b]?:=fun b hb=>by rw [<- hW4];exact Below.heap_setCell _ _ _ _ hb
  have rR4:=rR3.keep (hk4 _ (by omega));have hx04:Ext w W4:=by rw [<- hW4];exact (hx02.trans hx3).set (by simp;omega) _
  rw [hW4] at r34;have R3:=zH r33;have RR4:=zH rR4;have HX4:=zH hx04;have q0:W4.cell? ⟨z3,0,none⟩=some (.int .u8 2):=r34.cell (j:=0) rfl;have q1:=r34.cell (j:=1) rfl;have q2:=r34.cell (j:=2) rfl;have q3:=r34.cell (j:=3) rfl;have q4:=r34.cell (j:=4) rfl;obtain⟨s0,s1,s2,s3,s4⟩:=rR4.p5;obtain⟨f0,f1,f2,f3,f4⟩:=rR4.q5;clear r34 rR4 hx04 r3 rR2 rB2 hx3 y0 c2 c3 c4 c5 c6 rR3 r33 HV hx02;go_wp2_with fail
  (try simp only [Exit.inBlock,Exit.then])
  refine bodyPost_ret (v:=.agg #[.int .u8 2,I 0,.slice D (zbg ei).length d,St [],.bool false]) (by simp [results,Tryz.f20,go_sem,s0,s1,s2,s3,s4]) rfl ?_;have hxf:=zli (q:=w.heap.size+1) HX4.out (by omega) (.int .u8 (2:Nat)) (I 0) (.slice D (zbg ei).length d) (St []) (.bool false);have hkf:=zj3 W4 (w.heap.size+1) (.int .u8 (2:Nat)) (I 0) (.slice D (zbg ei).length d) (St []) (.bool false);have ho4:=HO.out.keep (w':=W4) fun b hb _=>hk4 b (fun e=>HO.out.apart R3.out (by decide) (e ▸ hb))
  have ho5:=ho4.keep (w':=put5 W4 (w.heap.size+1) (.int .u8 (2:Nat)) (I 0) (.slice D (zbg ei).length d) (St []) (.bool false)) fun b hb _=>hkf b (fun e=>ho4.apart RR4.out (by decide) (e ▸ hb))
  exact⟨_,rfl,by unfold ValR;rw [if_neg (by rw [HKK.out];decide),if_pos HKK.out];exact⟨_,rfl,ho5.lower hzw⟩,hxf⟩
 ·replace y0:W2.cell? ⟨z3,0,none⟩=some (.int .u8 3):=y0;have HV:=zH (zn3 (cs,ct,cg) W2);have HVR:=zH (fun (W:World)=>show ValR W w.heap.size ⟨k,es,ec,ei,cs,ct,cg⟩ (valC 3 0 (.slice none 0 0) (zbv (cs,ct,cg)).1 (zbv (cs,ct,cg)).2) by unfold ValR;rw [if_neg (by rw [HKK.out];decide),if_neg (by rw [HKK.out];decide)]);go_wp2_with fail;refine HV.out.mono ?_;rintro r W3 ⟨rfl,hx3⟩;obtain⟨tt,htt⟩:∃ t,(zbv (cs,ct,cg)).1=t:=⟨_,rfl⟩
  obtain⟨tz,htz⟩:∃ t,(zbv (cs,ct,cg)).2=t:=⟨_,rfl⟩
  rw [htt,htz] at HVR ⊢;clear htt htz;have r33:=r3.ext hx3;have rR3:=rR2.ext hx3;have k3:=r33.cell (j:=3) rfl;have k4:=r33.cell (j:=4) rfl;have g3:=r33.frozen 3;have g4:=r33.frozen 4;have r34:=(r33.set (j:=3) (by simp) (St tt)).set (j:=4) (by simp) (.bool tz);simp only [List.set_cons_succ,List.set_cons_zero] at r34;obtain⟨W4,hW4⟩:∃ X,(W3.setCell ⟨z3,3,none⟩ (St tt)).setCell ⟨z3,4,none⟩ (.bool tz)=X:=⟨_,rfl⟩
  have hk4:∀ b,b ≠ z3->W4.heap[b]? = W3.heap[b]?:=fun b hb=>by rw [<- hW4];exact (Below.heap_setCell _ _ _ _ hb).trans (Below.heap_setCell _ _ _ _ hb)
  have rR4:=rR3.keep (hk4 _ (by omega));have hx04:Ext w W4:=by rw [<- hW4];exact ((hx02.trans hx3).set (by simp;omega) _).set (by simp;omega) _
  rw [hW4] at r34;have RR4:=zH rR4;have HX4:=zH hx04;have q0:W4.cell? ⟨z3,0,none⟩=some (.int .u8 3):=r34.cell (j:=0) rfl;have q1:=r34.cell (j:=1) rfl;have q2:=r34.cell (j:=2) rfl;have q3:=r34.cell (j:=3) rfl;have q4:=r34.cell (j:=4) rfl;obtain⟨s0,s1,s2,s3,s4⟩:=rR4.p5;obtain⟨f0,f1,f2,f3,f4⟩:=rR4.q5;clear r34 rR4 hx04 r3 rR2 rB2 hx3 y0 c2 c3 c4 c5 c6 rR3 r33 HV hx02;go_wp2_with fail
  (try simp only [Exit.inBlock,Exit.then])
  refine bodyPost_ret (v:=.agg #[.int .u8 3,I 0,.slice none 0 0,St tt,.bool tz]) (by simp [results,Tryz.f20,go_sem,s0,s1,s2,s3,s4]) rfl ?_;have hxf:=zli (q:=w.heap.size+1) HX4.out (by omega) (.int .u8 (3:Nat)) (I 0) (.slice none 0 0) (St tt) (.bool tz);have hkf:=zj3 W4 (w.heap.size+1) (.int .u8 (3:Nat)) (I 0) (.slice none 0 0) (St tt) (.bool tz);exact⟨_,rfl,HVR.out _,hxf⟩
end
section
open Go.RowKit Go.Shelf
def Box2 (N T:Nat) (zs:List Value) (xs:Nat->List Value) (p:Nat) (st:Nat->Option Value) (w:World):Prop :=
 ∃ g:Nat->Nat,(∀ i,i < 2->∀ v,st (p+i)=some v->v=.pointer (some ⟨g i,0,none⟩)/\N<=g i/\g i < w.heap.size/\(st (p+2+i)=none->RowIs w (g i) T zs [])/\(st (p+2+i) ≠ none->RowIs w (g i) T (xs i) [])) /\
  (∀ i j,i < 2->j < 2->i ≠ j->st (p+i) ≠ none->st (p+j) ≠ none->g i ≠ g j)/\∀ i,i < 2->st (p+2+i) ≠ none->st (p+i) ≠ none
section
variable {N T p:Nat} {zs:List Value} {xs:Nat->List Value} {st:Nat->Option Value} {w w':World}
theorem Box2.start (w:World):Box2 N T zs xs p (fun _=>Option.none) w:=⟨fun _=>0,by simp,by simp,by simp⟩
theorem Box2.ext (h:Box2 N T zs xs p st w) (he:Ext w w'):Box2 N T zs xs p st w':=by
 obtain⟨g,h1,h2,h3⟩:=h;refine ⟨g,fun i hi v hv=>?_,h2,h3⟩;obtain⟨k1,k2,k3,k4,k5⟩:=h1 i hi v hv;exact⟨k1,k2,Nat.lt_of_lt_of_le k3 he.size,fun hn=>(k4 hn).ext he,fun hn=>(k5 hn).ext he⟩
theorem Box2.alloc {k:Nat} (hk:k < 2) (h:Box2 N T zs xs p st w) (h0:st (p+k)=Option.none) (hN:N<=w.heap.size):Box2 N T zs xs p (zeb st (p+k) (.pointer (some ⟨w.heap.size,0,Option.none⟩))) (w.alloc (.cells zs.toArray T)):=by
 have hx:=(Ext.refl w).alloc (.cells zs.toArray T);obtain⟨g,h1,h2,h3⟩:=h;have h30:st (p+2+k)=Option.none:=Classical.byContradiction fun hn=>h3 k hk hn h0
 have far:∀ i,i < 2->p+2+i ≠ p+k:=fun i hi=>by omega
 refine ⟨fun i=>if i=k then w.heap.size else g i,fun i hi v hv=>?_,fun i j hi hj hij hni hnj=>?_,fun i hi hn=>?_⟩
 ·rw [zaj st _ (far i hi)]
  by_cases hik:i=k
  ·subst hik;rw [zcb] at hv;cases hv;simp only [if_true];refine ⟨trivial,hN,by simp,fun _=>by unfold RowIs;rw [List.append_nil];exact Go.heap_alloc_new w _,fun hn=>absurd h30 hn⟩
  ·rw [zaj st _ (by omega)] at hv;obtain⟨k1,k2,k3,k4,k5⟩:=h1 i hi v hv;simp only [if_neg hik];exact⟨k1,k2,Nat.lt_of_lt_of_le k3 hx.size,fun hn=>(k4 hn).ext hx,fun hn=>(k5 hn).ext hx⟩
 ·have lt:∀ i,i < 2->i ≠ k->zeb st (p+k) (.pointer (some ⟨w.heap.size,0,Option.none⟩)) (p+i) ≠ Option.none->g i < w.heap.size:=fun i hi hik hn=>by
   rw [zaj st _ (by omega)] at hn;obtain⟨v,hv⟩:=Option.ne_none_iff_exists'.1 hn;exact (h1 i hi v hv).2.2.1
  by_cases hik:i=k
  ·have hjk:j ≠ k:=fun e=>hij (hik.trans e.symm)
   simp only [if_pos hik,if_neg hjk];have:=lt j hj hjk hnj;omega
  ·by_cases hjk:j=k
   ·simp only [if_neg hik,if_pos hjk];have:=lt i hi hik hni;omega
   ·simp only [if_neg hik,if_neg hjk];rw [zaj st _ (by omega)] at hni hnj;exact h2 i j hi hj hij hni hnj
 ·rw [zaj st _ (far i hi)] at hn
  by_cases hik:i=k
  ·subst hik;rw [zcb];simp
  ·rw [zaj st _ (by omega)];exact h3 i hi hn
theorem Box2.store {k:Nat} {v:Value} (hk:k < 2) (h:Box2 N T zs xs p st w) (hv:st (p+k)=some v) (h0:st (p+2+k)=Option.none) :
  ∃ g0,v=.pointer (some ⟨g0,0,Option.none⟩)/\N<=g0/\RowIs w g0 T zs []/\∀ w' u,RowIs w' g0 T (xs k) []->w.heap.size<=w'.heap.size->(∀ b,b ≠ g0->w'.heap[b]? = w.heap[b]?)->Box2 N T zs xs p (zeb st (p+2+k) u) w':=by
 obtain⟨g,h1,h2,h3⟩:=h;obtain⟨k1,k2,k3,k4,-⟩:=h1 k hk v hv;refine ⟨g k,k1,k2,k4 h0,fun w' u hr hz hs=>⟨g,fun i hi z hz2=>?_,fun i j hi hj hij hni hnj=>?_,fun i hi hn=>?_⟩⟩
 ·rw [zaj st _ (by omega)] at hz2;obtain⟨m1,m2,m3,m4,m5⟩:=h1 i hi z hz2
  by_cases hik:i=k
  ·subst hik;rw [zcb];exact⟨m1,m2,Nat.lt_of_lt_of_le m3 hz,fun hn=>(by cases hn),fun _=>hr⟩
  ·rw [zaj st _ (by omega)];have hne:g i ≠ g k:=h2 i k hi hk hik (by rw [hz2];simp) (by rw [hv];simp);exact⟨m1,m2,Nat.lt_of_lt_of_le m3 hz,fun hn=>(m4 hn).keep (hs _ hne),fun hn=>(m5 hn).keep (hs _ hne)⟩
 ·rw [zaj st _ (by omega)] at hni hnj;exact h2 i j hi hj hij hni hnj
 ·rw [zaj st _ (by omega)]
  by_cases hik:i=k
  ·subst hik;rw [hv];simp
  ·rw [zaj st _ (by omega)] at hn;exact h3 i hi hn
theorem Box2.done {v0 v1:Value} (h:Box2 N T zs xs p st w) (e0:st p=some v0) (e1:st (p+1)=some v1) (f0:st (p+2) ≠ Option.none) (f1:st (p+3)=Option.none) :
  ∃ g0 g1,v0=.pointer (some ⟨g0,0,Option.none⟩)/\v1=.pointer (some ⟨g1,0,Option.none⟩)/\RowIs w g0 T (xs 0) []/\RowIs w g1 T zs []/\g1 ≠ g0/\N<=g0/\N<=g1:=by
 obtain⟨g,h1,h2,-⟩:=h;have a0:=h1 0 (by decide) v0 e0;have a1:=h1 1 (by decide) v1 e1;exact⟨g 0,g 1,a0.1,a1.1,a0.2.2.2.2 f0,a1.2.2.2.1 f1,h2 1 0 (by decide) (by decide) (by decide) (by show st (p+1) ≠ _;rw [e1];simp) (by show st p ≠ _;rw [e0];simp),a0.2.1,a1.2.1⟩
end
theorem ValAt.ext {W W':World} {base:Nat} {e:Entry} {v:Value} (h:ValAt W base e v) (he:Ext W W'):ValAt W' base e v:=by
 unfold ValAt at h ⊢
 split
 ·rw [if_pos (by assumption)] at h;exact h
 ·rename_i h1;rw [if_neg h1] at h
  split
  ·rename_i h2;rw [if_pos h2] at h;obtain⟨s,e1,h3⟩:=h;exact⟨s,e1,h3.ext he⟩
  ·rename_i h2;rw [if_neg h2] at h;exact h
theorem ValR.ext {W W':World} {base:Nat} {e:Entry} {v:Value} (h:ValR W base e v) (he:Ext W W'):ValR W' base e v:=by
 unfold ValR at h ⊢
 split
 ·rw [if_pos (by assumption)] at h;exact h
 ·rename_i h1;rw [if_neg h1] at h
  split
  ·rename_i h2;rw [if_pos h2] at h;obtain⟨s,e1,h3⟩:=h;exact⟨s,e1,h3.ext he⟩
  ·rename_i h2;rw [if_neg h2] at h;exact h
theorem ValR.lower {W:World} {base base':Nat} {e:Entry} {v:Value} (h:ValR W base e v) (hb:base'<=base):ValR W base' e v:=by
 unfold ValR at h ⊢
 split
 ·rw [if_pos (by assumption)] at h;exact h
 ·rename_i h1;rw [if_neg h1] at h
  split
  ·rename_i h2;rw [if_pos h2] at h;obtain⟨s,e1,h3⟩:=h;exact⟨s,e1,h3.lower hb⟩
  ·rename_i h2;rw [if_neg h2] at h;exact h
abbrev zyx:List Value:=[St [],.slice none 0 0,.slice none 0 0,.slice none 0 0,U 0,St [],.bool false]
theorem zvu {p:PrD} {x y:Entry} {b1 b2:Nat} {v1 v2:Value} {w:World} (hx:mayE x=true) (ho:OthersE p x y) (h1:ValAt w b1 y v1) (h2:ValR w b2 x v2) :
  Calls Tryz.prog 18 #[v1,v2] w fun r w'=>r=.returned (.bool true)/\Ext w w':=by
 unfold ValAt at h1;unfold ValR at h2;rw [ho.key,ho.value,ho.texts,ho.cell] at h1;rcases zj2 hx with hk | hk | hk
 ·rw [if_pos hk] at h1 h2;subst h1 h2;have:=zyr (zba x.counts) (zba x.counts) none 0 0 [] false w
  rwa [decide_eq_true rfl] at this
 ·rw [if_neg (by omega),if_pos hk] at h1 h2;obtain⟨s1,rfl,o1⟩:=h1;obtain⟨s2,rfl,o2⟩:=h2;have:=zyt (zfd o1) (zfd o2) [] false 0
  rwa [decide_eq_true rfl] at this
 ·rw [if_neg (by omega),if_neg (by omega),if_pos hk] at h1;rw [if_neg (by omega),if_neg (by omega)] at h2;subst h1 h2;exact zx4 x.cell 0 none 0 0 w
theorem ztg {s t:List Entry} {p:PrD} (hr:RiseS (s.map (·.key))) (hl:t.length=s.length) (ho:∀ (i:Nat) (x y:Entry),s[i]? = some x->t[i]? = some y->OthersE p x y) {i:Nat} {x y:Entry} (hx:s[i]? = some x) (hy:t[i]? = some y):atE t x.key=y:=by
 have hm:t.map (·.key)=s.map (·.key):=by
  apply List.ext_getElem?
  intro j;rw [List.getElem?_map,List.getElem?_map]
  cases h:s[j]? with
  | none=>rw [List.getElem?_eq_none (by rw [hl];exact List.getElem?_eq_none_iff.1 h)]
  | some a=>have hj:j < t.length:=(by rw [hl];exact (List.getElem?_eq_some_iff.1 h).1);have h2:t[j]? = some t[j]:=List.getElem?_eq_getElem hj;rw [h2,Option.map_some,Option.map_some,(ho j a _ h h2).key]
 have hf:=zo0 (by rw [hm];exact hr) (List.mem_of_getElem? hy);rw [<- (ho i x y hx hy).key];unfold atE;rw [hf]
 rfl
end
end Go.Proofs.YtaabaflgeljbjaaGreat
