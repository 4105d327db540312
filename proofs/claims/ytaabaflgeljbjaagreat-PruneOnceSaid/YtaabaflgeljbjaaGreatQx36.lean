/- Laws. -/
import Derived.Test.YtaabaflgeljbjaaGreatPr29
import Derived.Test.YtaabaflgeljbjaaGreatPr32
import Derived.Test.YtaabaflgeljbjaaGreatPr30
import Derived.Test.YtaabaflgeljbjaaGreatPr28
import Derived.Test.YtaabaflgeljbjaaGreatPr15
import Derived.Test.YtaabaflgeljbjaaGreatPr26
import Derived.Test.YtaabaflgeljbjaaGreatPr33
import Derived.Test.YtaabaflgeljbjaaGreatPr24
import Derived.Test.YtaabaflgeljbjaaGreatPr34
import Derived.Test.YtaabaflgeljbjaaGreatPr35
import Derived.Test.YtaabaflgeljbjaaGreatPr21
import Derived.Test.YtaabaflgeljbjaaGreatPr01
set_option linter.unusedVariables false
set_option linter.unusedSimpArgs false
set_option maxRecDepth 100000
set_option maxHeartbeats 40000000
namespace Go.Proofs.YtaabaflgeljbjaaGreat
open Go renaming undef→Qd
open List renaming mem_of_getElem?→Qa,getElem?_eq_some_iff→Qb,pairwise_cons→Qf,mem_map→Qg,mem_cons→Qh,mem_singleton→Qi,mem_filter→Qk,map_cons→Ql,mem_append→Qm,length_map→Qn,getElem?_append_left→Qo,length_cons→Qp,getElem?_eq_getElem→Qq,pairwise_map→Qr,getElem?_map→Qs,flatMap_cons→Qt,length_nil→Qu,set_cons_zero→Qv,length_append→Qw,getElem?_append_right→Qy,set_cons_succ→Ya,sum_cons→Yd,cons_append→Yf,nil_append→Yg,mem_append_left→Yh,map_congr_left→Yi,filter_append→Yj,length_set→Yl,getElem?_of_mem→Yn,append_nil→Yp,mem_iff_getElem?→Ys,cons.injEq→Yt,map_nil→Yv,eq_of_mem_replicate→Yx,mem_flatMap→Yz,length_filter_le→Va,mem_cons_of_mem→Vc,filterMap_cons→Ve,find?_eq_none→Vf,getElem?_set→Vj,getElem?_take_of_lt→Vm,all_eq_true→Vn,map_append→Vo,nodup_cons→Vp,filter_eq_nil_iff→Vq,take_append_drop→Vr,mem_append_right→Vs,pairwise_append→Vt,Nodup→Vu,filter_eq_self→Vv,flatMap_append→Vw,getElem?_drop→Vz,not_mem_nil→Jc
open Nat renaming le_trans→Qc,le_refl→Qj,zero_le→Yc,reduceAdd→Yo,lt_of_lt_of_le→Yq,zero_add→Yr,le_antisymm→Vb,le_of_eq→Vd,lt_trichotomy→Vi,lt_or_ge→Vk,eq_or_lt_of_le→Ja
open Go.World renaming size_setCell→Qx,size_alloc→Ye
open Go.RowKit.Below renaming heap_setCell→Qe
open Bool renaming or_eq_true→Qz,and_eq_true→Yb,true_or→Yw,eq_false_iff→Yy,true_and→Vg,and_true→Vh,or_true→Vl,not_eq_true'→Jb,eq_iff_iff→Jg,not_false→Jh
open Option renaming some.inj→Yk,some.injEq→Ym,map_some→Yu,isSome_none→Vx,isSome_some→Vy,getD_none→Jd,getD_some→Je,map_none→Jf
section
open Go.RowKit Go.Shelf
universe u
theorem zN {c:Prop}{h:Decidable c}(n:¬c){α:Sort u}{t e:α}:ite c t e=e:=if_neg n
theorem zP {c:Prop}{h:Decidable c}(n:c){α:Sort u}{t e:α}:ite c t e=t:=if_pos n
theorem zS:(∀ {α:Type} {a:α} {l:List α},(a::l).length=l.length+1)/\(∀ {α:Type},([]:List α).length=0)/\(∀ p:Prop,(p/\True)=p):=⟨Qp,Qu,and_true⟩
theorem zD:(∀ {α:Type} {a:α} {l:List α} {n:Nat},(a::l).take (n+1)=a::l.take n)/\(∀ {α:Type} {l:List α},l.take 0 = [])/\(∀ {α:Type} {a:α} {l:List α} {n:Nat},(a::l).drop (n+1)=l.drop n)/\(∀ {α:Type} {l:List α},l.drop 0=l):=⟨List.take_succ_cons,List.take_zero,List.drop_succ_cons,List.drop_zero⟩
theorem zU:(∀ {α β:Type} {f:α->Option β},List.filterMap f [] = [])/\(∀ {α:Type} {l:List α} {a:α} {i:Nat},l.toArray.setIfInBounds i a=(l.set i a).toArray)/\(∀ {α:Type} {a b:α} {l:List α} {n:Nat},(a::l).set (n+1) b=a::l.set n b)/\(∀ {α:Type} {a b:α} {l:List α},(a::l).set 0 b=b::l):=⟨List.filterMap_nil,List.setIfInBounds_toArray _ _ _,Ya,Qv⟩
theorem zM:(∀ {α:Type} {a b:α} {l:List α},(a ∈ b::l)=(a=b\/a ∈ l))/\(∀ {α:Type} {a:α},(a ∈ ([]:List α))=False)/\(∀ p:Prop,(p\/False)=p)/\(∀ {α:Type} {p q:α->Prop} {a':α},(∀ a,a=a'\/q a->p a)=(p a'/\∀ a,q a->p a))/\(∀ {α:Type} {p:α->Prop} {a':α},(∀ a,a=a'->p a)=p a'):=⟨propext Qh,eq_false Jc,or_false,propext forall_eq_or_imp,propext forall_eq⟩
def za1:State:=⟨[],[],[]⟩
abbrev put3 (w:World) (q:Nat) (v1 v2 v3:Value):World:=((w.setCell ⟨q,0,none⟩ v1).setCell ⟨q,1,none⟩ v2).setCell ⟨q,2,none⟩ v3
theorem zbn {w wr:World} {q:Nat} (hx:Ext w wr) (hq:w.heap.size<=q) (v1 v2 v3:Value):Ext w (put3 wr q v1 v2 v3) :=
 ((hx.set (p:=⟨q,0,none⟩) hq _).set (p:=⟨q,1,none⟩) hq _).set (p:=⟨q,2,none⟩) hq _
theorem zda (w:World) (q:Nat) (v1 v2 v3:Value) (b:Nat) (hb:b ≠ q):(put3 w q v1 v2 v3).heap[b]? = w.heap[b]? :=
 ((Qe _ _ _ b hb).trans (Qe _ _ _ b hb)).trans (Qe _ _ _ b hb)
theorem StAt.none (w:World) (S:Nat->Prop) (A B C:Option Addr):StAt w S za1 (.slice A 0 0) (.slice B 0 0) (.slice C 0 0):=⟨Sl.nil _ _ (by decide),Sl.nil _ _ (by decide),Sl.nil _ _ (by decide)⟩
theorem StAt.keep {W w:World} {S:Nat->Prop} {s:State} {v1 v2 v3:Value} (h:StAt W S s v1 v2 v3) (hs:∀ b,S b->b < W.heap.size->w.heap[b]? = W.heap[b]?):StAt w S s v1 v2 v3 :=
 ⟨h.all.keep (by decide) hs,h.entries.keep (by decide) hs,h.pruned.keep (by decide) hs⟩
def zee (s:State) (p:Str) (n:Nat):State × Nat :=
 if p = [] ∨ mayS s=false then (za1,2) else if 281474976710656 - ofM s.all p < n then (za1,9) else ({ s with all:=setM s.all p (ofM s.all p+n) },0)
theorem zzz {s:State} (h:mayS s=true):mayM s.all=true:=by
 unfold mayS at h;simp only [Yb] at h;exact h.1
theorem ya6 {l:List Mark} (h:mayM l=true) (p:Str):ofM l p<=281474976710656:=ofM_le.2 fun m hm _ _=>(mayM_iff.1 h).2.2 m hm
theorem zl0 {S:Nat->Prop} {s:State} {v1 v2 v3:Value} {w:World} (p:Str) (n:Nat) (hn:n < 18446744073709551616) (h:StAt w S s v1 v2 v3) (sm:SmallS s) :
  Calls Tryz.prog 29 #[stV v1 v2 v3,St p,U n] w fun r w'=>∃ u1 u2 u3,r=.returned (.tuple #[stV u1 u2 u3,I (zee s p n).2])/\StAt w' (fun b=>w.heap.size<=b) (zee s p n).1 u1 u2 u3/\Ext w w':=by
 have HRS:=zH (show zee s p n=if p = [] ∨ mayS s=false then (za1,2) else if 281474976710656 - ofM s.all p < n then (za1,9) else ({ s with all:=setM s.all p (ofM s.all p+n) },0) from rfl);have HMX:=zH (fun (hm:mayS s=true)=>ya6 (zzz hm) p);have SM:=zH sm;obtain⟨sa,se,sp⟩:=s;obtain⟨A1,n1,A2,n2,A3,n3,rfl,rfl,rfl⟩:=h.fm;have hx0:=((Ext.refl w).alloc (.cells #[.slice A1 sa.length n1,.slice A2 se.length n2,.slice A3 sp.length n3] 26)).alloc (.cells #[.slice none 0 0,.slice none 0 0,.slice none 0 0] 26);have rB0:=(zaf w 26 [.slice A1 sa.length n1,.slice A2 se.length n2,.slice A3 sp.length n3]).alloc (.cells #[.slice none 0 0,.slice none 0 0,.slice none 0 0] 26);have rR0:=zaf (w.alloc (.cells #[.slice A1 sa.length n1,.slice A2 se.length n2,.slice A3 sp.length n3] 26)) 26 [.slice none 0 0,.slice none 0 0,.slice none 0 0];rw [Ye] at rR0;have hz0:w.heap.size+2<=((w.alloc (.cells #[.slice A1 sa.length n1,.slice A2 se.length n2,.slice A3 sp.length n3] 26)).alloc (.cells #[.slice none 0 0,.slice none 0 0,.slice none 0 0] 26)).heap.size:=by simp
 have H0:=zH (h.ext hx0);have H1:=zH (zng (h.ext hx0) sm);clear h sm
 by_cases hp:p = []
 ·subst hp;have HR:=zH (show zee ⟨sa,se,sp⟩ [] n=(za1,2) by rw [HRS.out,zP (.inl rfl)]);have HX:=zH hx0;clear hx0 rB0 rR0 H0 H1 HRS HMX;go_enter Tryz.func29,Tryz.ntmps29;go_wp2_with fail
  (try simp only [Exit.inBlock,Exit.then])
  refine bodyPost_ret (v:=.tuple #[stV (.slice none 0 0) (.slice none 0 0) (.slice none 0 0),I 2]) (by simp [results,Tryz.f29,go_sem]) rfl ?_;refine ⟨.slice none 0 0,.slice none 0 0,.slice none 0 0,by (rw [HR.out];try rfl),?_⟩;rw [HR.out];exact⟨StAt.none _ _ _ _ _,HX.out⟩
 ·have hpb:(p == [])=false:=by simpa using hp
  go_enter Tryz.func29,Tryz.ntmps29;go_wp2_with fail;generalize (w.alloc (.cells #[.slice A1 sa.length n1,.slice A2 se.length n2,.slice A3 sp.length n3] 26)).alloc (.cells #[.slice none 0 0,.slice none 0 0,.slice none 0 0] 26)=W0 at *;refine H1.out.mono ?_;rintro r W1 ⟨rfl,hx1⟩;have hx01:=hx0.trans hx1;have rB1:=rB0.ext hx1;have rR1:=rR0.ext hx1;have hz1:=Qc hz0 hx1.size;clear hx0 rB0 rR0 hz0 H1
  cases hm:mayS ⟨sa,se,sp⟩ with
  | false =>
   have HR:=zH (show zee ⟨sa,se,sp⟩ p n=(za1,2) by rw [HRS.out,zP (.inr hm)]);obtain⟨r0,r1,r2⟩:=rR1.p3;obtain⟨f0,f1,f2⟩:=rR1.q3;have HX:=zH hx01;clear hx01 hx1 rB1 rR1 H0 HRS HMX hm hp;go_wp2_with fail
   (try simp only [Exit.inBlock,Exit.then])
   refine bodyPost_ret (v:=.tuple #[stV (.slice none 0 0) (.slice none 0 0) (.slice none 0 0),I 2]) (by simp [results,Tryz.f29,go_sem,r0,r1,r2]) rfl ?_;have hq:=zbn (q:=w.heap.size+1) HX.out (by omega) (.slice none 0 0) (.slice none 0 0) (.slice none 0 0);refine ⟨.slice none 0 0,.slice none 0 0,.slice none 0 0,by (rw [HR.out];try rfl),?_⟩;rw [HR.out];exact⟨StAt.none _ _ _ _ _,hq⟩
  | true =>
   have hmax:ofM sa p<=281474976710656:=HMX.out hm;have HRS2:=zH (show zee ⟨sa,se,sp⟩ p n=if 281474976710656 - ofM sa p < n then (za1,9) else (⟨setM sa p (ofM sa p+n),se,sp⟩,0) by rw [HRS.out,zN (by simp [hp,hm])]);have HO:=zH (ze1 p (H0.out.all.ext (by decide) hx1));have b0:=rB1.cell (j:=0) rfl;have HX1:=zH hx1;clear hm hp HRS HMX hx1;go_wp2_with fail;refine HO.out.mono ?_;rintro r W2 ⟨rfl,hx2⟩;have hx02:=hx01.trans hx2;have rB2:=rB1.ext hx2;have rR2:=rR1.ext hx2;have hz2:=Qc hz1 hx2.size;have H2:=zH ((H0.out.ext HX1.out).ext hx2);clear hx01 rB1 rR1 HO hx2 hz1 b0 HX1 H0;obtain⟨z,hz⟩:∃ z,ofM sa p=z:=⟨_,rfl⟩
   rw [hz] at hmax HRS2;rw [hz];clear hz;have hwr:IntKind.u64.wrap (281474976710656 - (z:Int))=281474976710656 - (z:Int):=by rw [zca];omega
   by_cases hlt:281474976710656 - z < n
   ·have HR:=zH (show zee ⟨sa,se,sp⟩ p n=(za1,9) by rw [HRS2.out,zP hlt]);have hgt:(n:Int) > 281474976710656 - (z:Int):=(by omega);obtain⟨r0,r1,r2⟩:=rR2.p3;obtain⟨f0,f1,f2⟩:=rR2.q3;have HX:=zH hx02;clear hx02 rB2 rR2 H2 HRS2 hlt;go_wp2_with fail
    (try simp only [Exit.inBlock,Exit.then])
    refine bodyPost_ret (v:=.tuple #[stV (.slice none 0 0) (.slice none 0 0) (.slice none 0 0),I 9]) (by simp [results,Tryz.f29,go_sem,r0,r1,r2]) rfl ?_;have hq:=zbn (q:=w.heap.size+1) HX.out (by omega) (.slice none 0 0) (.slice none 0 0) (.slice none 0 0);refine ⟨.slice none 0 0,.slice none 0 0,.slice none 0 0,by (rw [HR.out];try rfl),?_⟩;rw [HR.out];exact⟨StAt.none _ _ _ _ _,hq⟩
   ·have HR:=zH (show zee ⟨sa,se,sp⟩ p n=(⟨setM sa p (z+n),se,sp⟩,0) by rw [HRS2.out,zN hlt]);have hgt:¬ (n:Int) > 281474976710656 - (z:Int):=(by omega);have hwa:IntKind.u64.wrap ((z:Int)+(n:Int))=((z+n:Nat):Int):=(by rw [zca];omega);obtain⟨b0,b1,b2⟩:=rB2.p3;have HC:=zH (zjx H2.out SM.out);clear HRS2 hlt rB2;go_wp2_with fail;refine HC.out.mono ?_;rintro r W3 ⟨u1,u2,u3,rfl,hn3,hx3⟩;obtain⟨B1,m1,B2,m2,B3,m3,rfl,rfl,rfl⟩:=hn3.fm;have hz3:=hx3.size;have hxa:=(Ext.refl W3).alloc (.cells #[.slice B1 sa.length m1,.slice B2 se.length m2,.slice B3 sp.length m3] 26);have rN:=zaf W3 26 [.slice B1 sa.length m1,.slice B2 se.length m2,.slice B3 sp.length m3];have HS3:=zH ((hn3.at.mono (S':=fun b=>W2.heap.size<=b/\b < W3.heap.size) (fun b hb h=>⟨h,hb⟩)).ext hxa);have rR3:=(rR2.ext hx3).ext hxa;have hx03:=(hx02.trans hx3).trans hxa;have HS:=zH (zj9 p (z+n) (HS3.out.all) (Qc SM.out.all (by decide)));have hzN:=rN.lt;clear hn3 hx3 hxa rR2 hx02 HC b0 b1 b2;go_wp2_with fail;generalize W3.alloc (.cells #[.slice B1 sa.length m1,.slice B2 se.length m2,.slice B3 sp.length m3] 26)=W4 at *;refine HS.out.mono ?_;rintro r W5 ⟨u,rfl,ho,hx5⟩;obtain⟨U1,un,rfl,-,-⟩:=ho.form;have rN5:=rN.ext hx5;have rR5:=rR3.ext hx5;have hz5:=hx5.size;obtain⟨y0,y1,y2⟩:=rN5.p3;have yf:=rN5.frozen 0;have hN6:=rN5.set (j:=0) (by simp) (.slice U1 (setM sa p (z+n)).length un);simp only [Qv] at hN6;obtain⟨z0,z1,z2⟩:=hN6.p3;obtain⟨rr0,rr1,rr2⟩:=rR5.p3;obtain⟨ff0,ff1,ff2⟩:=rR5.q3;have rR6:=rR5.other (p:=⟨W3.heap.size,0,none⟩) (by simp;omega) (.slice U1 (setM sa p (z+n)).length un);obtain⟨r0,r1,r2⟩:=rR6.p3;obtain⟨f0,f1,f2⟩:=rR6.q3;have HX:=zH ((hx03.trans hx5).set (p:=⟨W3.heap.size,0,none⟩) (by simp;omega) (.slice U1 (setM sa p (z+n)).length un));have HO:=zH ho;have HA:=zH (HS3.out.ext hx5);clear ho rN rN5 rR3 rR5 hN6 rR6 hx03 hx5 HS HS3 H2;go_wp2_with fail
    (try simp only [Exit.inBlock,Exit.then])
    refine bodyPost_ret (v:=.tuple #[stV (.slice U1 (setM sa p (z+n)).length un) (.slice B2 se.length m2) (.slice B3 sp.length m3),I 0]) (by simp [results,Tryz.f29,go_sem,r0,r1,r2,rr0,rr1,rr2]) rfl ?_;have hq:=zbn (q:=w.heap.size+1) HX.out (by omega) (.slice U1 (setM sa p (z+n)).length un) (.slice B2 se.length m2) (.slice B3 sp.length m3);refine ⟨.slice U1 (setM sa p (z+n)).length un,.slice B2 se.length m2,.slice B3 sp.length m3,by (rw [HR.out];try rfl),?_⟩;rw [HR.out];refine ⟨?_,hq⟩
    have hkp:∀ b,b ≠ W3.heap.size->b ≠ w.heap.size+1->(put3 (W5.setCell ⟨W3.heap.size,0,none⟩ (.slice U1 (setM sa p (z+n)).length un)) (w.heap.size+1) (.slice U1 (setM sa p (z+n)).length un) (.slice B2 se.length m2) (.slice B3 sp.length m3)).heap[b]? = W5.heap[b]?:=fun b h1 h2=>(zda _ _ _ _ _ b h2).trans (Qe _ _ _ _ h1)
    refine ⟨?_,?_,?_⟩
    ·exact (zbb (HO.out.keep fun b hb _=>hkp b (by have:=(HO.out.base_le hb).1;omega) (by have:=(HO.out.base_le hb).1;omega))).mono (by decide) fun b _ h=>by omega
    ·exact (HA.out.entries.keep (by decide) fun b hb _=>hkp b (by omega) (by omega)).mono (by decide) fun b _ hb=>by omega
    ·exact (HA.out.pruned.keep (by decide) fun b hb _=>hkp b (by omega) (by omega)).mono (by decide) fun b _ hb=>by omega
theorem ya8 {α:Type} {T:Shape α} {hk:0 < T.k} {w:World} {S:Nat->Prop} {g:Nat} {v1 v2:Value} {l1 l2:List α} (h1:Sl T w S v1 l1) (h2:Sl T w S v2 l2) (hg:S g)
  (c0:w.cell? ⟨g,0,none⟩=some v1) (c1:w.cell? ⟨g,1,none⟩=some v2):Sl (slT T hk) w S (.slice (some ⟨g,0,none⟩) 2 2) [l1,l2]:=by
 refine ⟨some ⟨g,0,none⟩,2,rfl,by simp,by omega,fun pre x post hl=>?_⟩
 match pre,hl with
 | [],hl =>
  simp only [Yg,Yt] at hl;obtain⟨rfl,-⟩:=hl
  exact⟨g,0,[v1],rfl,hg,⟨v1,rfl,h1⟩,fun j u hj=>by
   match j,hj with
   | 0,hj=>simp at hj;subst hj;simpa using c0
   | j+1,hj=>simp at hj⟩
 | [p],hl =>
  simp only [Yf,Yg,Yt] at hl;obtain⟨-,rfl,-⟩:=hl
  exact⟨g,0,[v2],rfl,hg,⟨v2,rfl,h2⟩,fun j u hj=>by
   match j,hj with
   | 0,hj=>simp at hj;subst hj;simpa [slT] using c1
   | j+1,hj=>simp at hj⟩
 | p :: q :: r,hl=>simp at hl
def CS (w:World) (S:Nat->Prop) (b:Nat):Prop:=S b/\∃ o:Obj,w.heap[b]? = some o/\o.isCells=true
theorem zs6 {w:World} {p:Addr} {v:Value} (h:w.cell? p=some v):∃ o:Obj,w.heap[p.block]? = some o/\o.isCells=true:=by
 unfold World.cell? at h
 cases ho:w.heap[p.block]? with
 | none=>rw [ho] at h;cases h
 | some o=>rw [ho] at h;cases o <;> first | exact⟨_,rfl,rfl⟩ | cases h
theorem Sl.isC {α:Type} {T:Shape α} {w:World} {S:Nat->Prop} {v:Value} {l:List α} (hk:0 < T.k) (hrd:∀ x vs,T.rd w S x vs->T.rd w (CS w S) x vs) (h:Sl T w S v l):Sl T w (CS w S) v l:=by
 obtain⟨A,c,hv,h1,h2,h3⟩:=h;refine ⟨A,c,hv,h1,h2,fun pre x post hl=>?_⟩;obtain⟨b,o,vs,e,hS,hr,hc⟩:=h3 pre x post hl;refine ⟨b,o,vs,e,⟨hS,?_⟩,hrd x vs hr,hc⟩;have hlen:=T.len hr;have h0:vs[0]? = some vs[0]:=by simp
 exact zs6 (hc 0 _ h0)
theorem zxt {w:World} {S:Nat->Prop} {x:Item} {vs:List Value} (h:itemT.rd w S x vs):itemT.rd w (CS w S) x vs:=by
 obtain⟨v,e,h⟩:=h;exact⟨v,e,h.isC (by decide) fun _ _ h=>h⟩
theorem zu4 {w:World} {S:Nat->Prop} {x:Entry} {vs:List Value} (h:entryT.rd w S x vs):entryT.rd w (CS w S) x vs:=by
 obtain⟨v1,v2,v3,e,h1,h2,h3⟩:=h;exact⟨v1,v2,v3,e,h1.isC (by decide) fun _ _ h=>h,h2.isC (by decide) fun _ _ h=>h,h3.isC (by decide) fun _ _ h=>zxt h⟩
theorem RowE.kept {w w':World} {base g:Nat} {v:Value} {l:List Entry} {row:Option Nat} (h:RowE w base g v l) (hg:w.grownBy w' row) (hr:∀ r,row=some r->∃ o:Obj,w.heap[r]? = some o/\o.isCells=false):RowE w' base g v l:=by
 obtain⟨vss,h1,h2,h3⟩:=h;refine ⟨vss,h1,fun i x vs hi hv=>?_,h3.kept hg hr⟩;have a:=zu4 (h2 i x vs hi hv);refine entryT.mono (entryT.keep a fun b hb hlt=>hg.block b hlt fun e=>?_) fun b _ h=>h.1
 obtain⟨o,ho,hc⟩:=hr b e.symm;obtain⟨-,o',ho',hc'⟩:=hb;rw [ho] at ho';cases ho';rw [hc] at hc';cases hc'
theorem RowIs.kept {w w':World} {g T:Nat} {xs tl:List Value} {row:Option Nat} (h:RowIs w g T xs tl) (hg:w.grownBy w' row) (hr:∀ r,row=some r->∃ o:Obj,w.heap[r]? = some o/\o.isCells=false):RowIs w' g T xs tl :=
 h.keep (hg.block g h.lt fun e=>by obtain⟨o,ho,hc⟩:=hr g e.symm;unfold RowIs at h;rw [h] at ho;cases ho;cases hc)
theorem Ext.keepsO {W W':World} (h:Ext W W'):KeepsOthers W W':=⟨h.size,fun b o hb _=>(h.block b (Array.getElem?_eq_some_iff.1 hb).1).trans hb⟩
structure OldK (n g:Nat) (W W':World):Prop where
 os:W'.os=W.os
 tape:W'.tape=W.tape
 output:W'.output=W.output
 size:n<=W'.heap.size
 same:∀ b,b < n->b ≠ g->W'.heap[b]? = W.heap[b]?
theorem OldK.refl {n g:Nat} {W:World} (h:n<=W.heap.size):OldK n g W W:=⟨rfl,rfl,rfl,h,fun _ _ _=>rfl⟩
theorem OldK.ext {n g:Nat} {W W' W'':World} (h:OldK n g W W') (he:Ext W' W''):OldK n g W W'' :=
 ⟨he.os.trans h.os,he.tape.trans h.tape,he.output.trans h.output,Qc h.size he.size,fun b hb hg=>(he.block b (by have:=h.size;omega)).trans (h.same b hb hg)⟩
theorem OldK.set {n g j:Nat} {W W':World} (h:OldK n g W W') (v:Value):OldK n g W (W'.setCell ⟨g,j,none⟩ v) :=
 ⟨h.os,h.tape,h.output,by simpa using h.size,fun b hb hg=>(Qe _ _ _ _ hg).trans (h.same b hb hg)⟩
theorem OldK.grew {n g:Nat} {W W' W'':World} {v v':Value} (h:OldK n g W W') (k:Grew W' W'' v v') (hv:∀ b,zad v b->n<=b):OldK n g W W'' :=
 ⟨k.os.trans h.os,k.tape.trans h.tape,k.output.trans h.output,Qc h.size k.size,fun b hb hg=>(k.same b (by have:=h.size;omega) (fun ho=>by have:=hv b ho;omega)).trans (h.same b hb hg)⟩
theorem OldK.low {n g:Nat} {W W' W'':World} (h:OldK n g W W') (k:Below n W' W''):OldK n g W W'' :=
 ⟨k.os.trans h.os,k.tape.trans h.tape,k.output.trans h.output,Qc h.size k.size,fun b hb hg=>(k.block b hb).trans (h.same b hb hg)⟩
theorem OldK.below {n g:Nat} {w W W':World} (h:OldK n g W W') (he:Ext w W) (hn:w.heap.size<=n) (hg:w.heap.size<=g):Ext w W' :=
 ⟨h.os.trans he.os,h.tape.trans he.tape,h.output.trans he.output,Qc hn h.size,fun b hb=>(h.same b (by omega) (by omega)).trans (he.block b hb)⟩
theorem OldK.kps {n g:Nat} {W0 W W':World} (h:OldK n g W0 W) (h':OldK n g W0 W') (hz:W.heap.size<=W'.heap.size):KpS (fun b=>b < n/\b ≠ g) n W W' :=
 ⟨hz,fun b hb hn=>(h'.same b hn hb.2).trans (h.same b hn hb.2).symm⟩
theorem OldK.from (n g:Nat) (W0:World) {β:Type} (B:Nat) (hB:n<=B):OwnFrom B (fun (_:β) W=>OldK n g W0 W):=fun s W W' row h hg hr =>
 ⟨hg.os.trans h.os,hg.tape.trans h.tape,hg.output.trans h.output,Qc h.size hg.size,fun b hb hne=>(hg.block b (by have:=h.size;omega) (fun e=>by have:=(hr b e.symm).1;omega)).trans (h.same b hb hne)⟩
theorem MapIs.not_row {κ ν:Type} [DecidableEq κ] {K:κ->Value} {V:ν->Value} {w:World} {b T:Nat} {L:List (κ × ν)} {xs tl:List Value} (h:MapIs K V w b L) (hr:RowIs w b T xs tl):False:=by
 obtain⟨_,_,h,_⟩:=h;unfold RowIs at hr;rw [hr] at h;cases h
theorem zl3 {w:World} {q T:Nat} {e0 e:Entry} {a1 a2 a3 v1 v2 v3:Value} (h:RowIs w q T (entL e0 a1 a2 a3) []):RowIs (put7 w q e v1 v2 v3) q T (entL e v1 v2 v3) []:=by
 have:=RowIs.set7 (X1:=[]) (X2:=[]) (o:=0) (by simpa using h) rfl (St e.key) v1 v2 v3 (U e.cell.1) (St e.cell.2.1) (.bool e.cell.2.2)
 simpa using this
def getE (l:List Entry) (k:Str):Entry:=(za4 l k).getD zak
def zhd (a b:List Entry):List Entry:=(zb8 a b).map fun k=>zbz (getE a k) (getE b k)
def zb9 (a b:State):State:=⟨za0 a.all b.all,zhd a.entries b.entries,Lib.compact (zbw (a.pruned++b.pruned))⟩
theorem zxu (a b:List Str):(zcf a b).length<=a.length+b.length:=by
 fun_induction zcf a b <;> simp_all <;> omega
theorem zz5 (va vb:Value) (w:World) (ha:va.oneCell'=true) (hb:vb.oneCell'=true) :
  Calls Tryz.prog 59 #[va,vb] w fun e w'=>e=.returned (.func (.func 109) #[] #[.pointer (some ⟨w.heap.size,0,none⟩),.pointer (some ⟨w.heap.size+1,0,none⟩)])/\w'=(w.alloc (.cells #[va] 23)).alloc (.cells #[vb] 23):=by
 go_enter Tryz.func59,Tryz.ntmps59;go_wp2;go_ret;exact⟨rfl,rfl⟩
theorem zu5 (n:Nat) (hn:1<=n) {S:Nat->Prop} {n₀ B1 B2:Nat} {va vb:Value} {A B:List Entry} {w:World} (hn₀:n₀<=w.heap.size) (h1:w.cell? ⟨B1,0,none⟩=some va) (h2:w.cell? ⟨B2,0,none⟩=some vb)
  (hS1:S B1) (hS2:S B2) (hSn:∀ b,S b->b < n₀) (ha:Sl entryT w S va A) (hb:Sl entryT w S vb B) :
  SeqStopsK Fence.wide n Tryz.prog 109 #[.pointer (some ⟨B1,0,none⟩),.pointer (some ⟨B2,0,none⟩)] (fun x=>#[St x]) (KpS S n₀) (fun ys=>ys=zb8 A B) (fun pre=>pre <+: zb8 A B) (zb8 A B).length w :=
 fun l J Jx W hW hJ _ hY h0 =>
  zz4 n l B1 B2 n₀ J Jx hn W hJ (Qc hn₀ hW.size) hY (hW.cell (p:=⟨B1,0,none⟩) (zae h1) |>.trans h1) (hW.cell (p:=⟨B2,0,none⟩) (zae h2) |>.trans h2)
   ⟨hS1,hSn _ hS1⟩ ⟨hS2,hSn _ hS2⟩ (ha.ext (by decide) hW) (hb.ext (by decide) hW) (fun b h _=>hSn b h) h0
attribute [local go_sem] Oper.semAt_some
theorem yc8 (w:World) (a:Obj) (T:Nat) (xs:List Value):RowIs ((w.alloc a).alloc (.cells xs.toArray T)) (w.heap.size+1) T xs []:=by
 have h:=zaf (w.alloc a) T xs
 rwa [Ye] at h
theorem ydt (w:World) (a b:Obj) (T:Nat) (xs:List Value):RowIs (((w.alloc a).alloc b).alloc (.cells xs.toArray T)) (w.heap.size+1+1) T xs []:=by
 have h:=yc8 (w.alloc a) b T xs
 rwa [Ye] at h
theorem zib {S1 S2:Nat->Prop} {s1 s2:State} {a1 a2 a3 b1 b2 b3:Value} {w:World} (h1:StAt w S1 s1 a1 a2 a3) (h2:StAt w S2 s2 b1 b2 b3) (sm1:SmallS s1) (sm2:SmallS s2) :
  Calls Tryz.prog 25 #[stV a1 a2 a3,stV b1 b2 b3] w fun r w'=>∃ u1 u2 u3,r=.returned (stV u1 u2 u3)/\StNew w' w.heap.size (zb9 s1 s2) u1 u2 u3/\Ext w w':=by
 obtain⟨sa,se,sp⟩:=s1;obtain⟨ta,te,tp⟩:=s2;obtain⟨A1,n1,A2,n2,A3,n3,rfl,rfl,rfl⟩:=h1.fm;obtain⟨B1,m1,B2,m2,B3,m3,rfl,rfl,rfl⟩:=h2.fm;obtain⟨W0,hW0⟩:∃ X,Hid ((((w.alloc (.cells #[.slice A1 sa.length n1,.slice A2 se.length n2,.slice A3 sp.length n3] 26)).alloc (.cells #[.slice B1 ta.length m1,.slice B2 te.length m2,.slice B3 tp.length m3] 26)).alloc (.cells #[.slice none 0 0,.slice none 0 0,.slice none 0 0] 26))=X):=⟨_,zH rfl⟩
 have hx0:Ext w W0:=by rw [<- hW0.out];exact (((Ext.refl w).alloc _).alloc _).alloc _
 have rA0:RowIs W0 w.heap.size 26 [.slice A1 sa.length n1,.slice A2 se.length n2,.slice A3 sp.length n3] []:=by rw [<- hW0.out];exact ((zaf w _ _).alloc _).alloc _
 have rB0:RowIs W0 (w.heap.size+1) 26 [.slice B1 ta.length m1,.slice B2 te.length m2,.slice B3 tp.length m3] []:=by rw [<- hW0.out];exact (yc8 w _ _ _).alloc _
 have rR0:RowIs W0 (w.heap.size+1+1) 26 [.slice none 0 0,.slice none 0 0,.slice none 0 0] []:=by rw [<- hW0.out];exact ydt w _ _ _ _
 have hz0:w.heap.size+3<=W0.heap.size:=by rw [<- hW0.out];simp
 have h1':=h1.mono (S':=fun b=>b < w.heap.size) (fun b hb _=>hb);have h2':=h2.mono (S':=fun b=>b < w.heap.size) (fun b hb _=>hb);have H1:=zH (h1'.ext hx0);have H2:=zH (h2'.ext hx0);have SM1:=zH sm1;have SM2:=zH sm2;have HJ:=zH (zjb H1.out.all H2.out.all (Qc SM1.out.all (by decide)) (Qc SM2.out.all (by decide)));clear h1 h2 h1' h2' sm1 sm2;refine (callsIn_wide (n:=9)).1 ?_;refine callsIn_of_wp_marks Tryz.func25 rfl trivial ?_ rfl;simp only [Tryz.ntmps25,List.size_toArray,Qp,Qu,Yo,Nat.reduceSub,Array.replicate_succ,Array.replicate_zero,List.push_toArray,List.append_toArray,Yg,Yf];refine wpIn_wide.2 ?_;go_wp2_with fail;rw [hW0.out];clear hW0;have a00:=rA0.cell (j:=0) rfl;have b00:=rB0.cell (j:=0) rfl;refine HJ.out.mono ?_;rintro r W1 ⟨v1,rfl,hv1,hx1⟩;obtain⟨J1,j1,rfl,-,-⟩:=hv1.form;have hx01:=hx0.trans hx1;obtain⟨W2,hW2'⟩:∃ X,Hid ((W1.alloc (.cells #[(.slice J1 (za0 sa ta).length j1),(.slice none 0 0),(.slice none 0 0)] 26))=X):=⟨_,zH rfl⟩
 have hxg:Ext W1 W2:=by rw [<- hW2'.out];exact (Ext.refl W1).alloc _
 have rG2:RowIs W2 W1.heap.size 26 [(.slice J1 (za0 sa ta).length j1),(.slice none 0 0),(.slice none 0 0)] []:=by rw [<- hW2'.out];exact zaf W1 _ _
 have rA2:RowIs W2 _ _ _ _:=rA0.ext (hx1.trans hxg);have rB2:RowIs W2 _ _ _ _:=rB0.ext (hx1.trans hxg);have rR2:RowIs W2 _ _ _ _:=rR0.ext (hx1.trans hxg);have hz1:=Qc hz0 hx1.size;have HX2:=zH (show Ext w W2 from (hx0.trans hx1).trans hxg);have HA2:=zH (H1.out.ext (hx1.trans hxg));have HB2:=zH (H2.out.ext (hx1.trans hxg));have hz2:W1.heap.size+1<=W2.heap.size:=by rw [<- hW2'.out];simp
 have HV2:=zH ((hv1.ext hxg).lower (base':=w.heap.size+3) hz0);have HG2:=zH rG2;clear hx0 rA0 rB0 rR0 hz0 HJ hv1 hx01 hx1 H1 H2 hxg rG2;go_wp2_with fail;clear a00 b00;rw [hW2'.out];clear hW2';have hW2:=hz2;have hAe:∀ W,Ext W2 W->Sl entryT W (fun b=>b < w.heap.size) (.slice A2 se.length n2) se:=fun W he=>(HA2.out.entries.ext (by decide) he)
 have hBe:∀ W,Ext W2 W->Sl entryT W (fun b=>b < w.heap.size) (.slice B2 te.length m2) te:=fun W he=>(HB2.out.entries.ext (by decide) he)
 have HAE:=zH hAe;have HBE:=zH hBe;clear hAe hBe
 refine zni [fun v _=>v=.pointer (some ⟨w.heap.size,1,none⟩),fun v _=>v=.slice A2 se.length n2,fun v W=>∃ m,v=.map (some m)/\W2.heap.size<=m/\MapIs St I W m (plF 0 [] se),
  fun v _=>v=.pointer (some ⟨w.heap.size+1,1,none⟩),fun v _=>v=.slice B2 te.length m2,fun v W=>∃ m,v=.map (some m)/\W2.heap.size<=m/\MapIs St I W m (plF 0 [] te),
  fun v W=>∃ g,v=.pointer (some ⟨g,0,none⟩)/\W2.heap.size<=g/\RowIs W g 129 [.map none] [],fun v W=>∃ g,v=.pointer (some ⟨g,0,none⟩)/\W2.heap.size<=g/\RowIs W g 129 [.map none] []] [6,7] rfl (by kernel_rfl) (by kernel_rfl) ?hR ?hstep ?hend
 case hR =>
  simp only [zM]
  exact⟨kP,kP,fun v _ _ h he=>by obtain⟨m,e,z,h⟩:=h;exact⟨m,e,z,h.ext he⟩,kP,kP,fun v _ _ h he=>by obtain⟨m,e,z,h⟩:=h;exact⟨m,e,z,h.ext he⟩,
   fun v _ _ h he=>by obtain⟨g,e,z,h⟩:=h;exact⟨g,e,z,h.ext he⟩,fun v _ _ h he=>by obtain⟨g,e,z,h⟩:=h;exact⟨g,e,z,h.ext he⟩⟩
 case hstep =>
  simp only [zS,zD,Yo,zd1]
  and_intros <;> intro x W he f
  ·have h:x 2=.pointer (some ⟨w.heap.size,0,none⟩):=f.1;go_wp;exact zaa (r:=zbg _ _ _ _) ⟨rfl,fun h=>by simp at h⟩ (Ext.refl _)
  ·have h:_=_:=f.1;have hc:=(rA2.ext he).cell (j:=1) rfl;go_wp;exact zaa (r:=zbg _ _ _ _) ⟨rfl,fun h=>by simp at h⟩ (Ext.refl _)
  ·have h:_=_:=f.1;have hs:=he.size;have HC:=zH (zk0 (HAE.out W he));go_wp;refine HC.out.mono ?_;rintro r W3 ⟨m,rfl,hm,hM,hx2⟩;dsimp only;go_wp;exact zaa (v:=.map (some m)) (r:=zbg _ _ _ _) ⟨⟨m,rfl,by omega,hM⟩,fun h=>by simp at h⟩ hx2
  ·have h:x 3=.pointer (some ⟨w.heap.size+1,0,none⟩):=f.1;go_wp;exact zaa (r:=zbg _ _ _ _) ⟨rfl,fun h=>by simp at h⟩ (Ext.refl _)
  ·have h:_=_:=f.1;have hc:=(rB2.ext he).cell (j:=1) rfl;go_wp;exact zaa (r:=zbg _ _ _ _) ⟨rfl,fun h=>by simp at h⟩ (Ext.refl _)
  ·have h:_=_:=f.1;have hs:=he.size;have HC:=zH (zk0 (HBE.out W he));go_wp;refine HC.out.mono ?_;rintro r W3 ⟨m,rfl,hm,hM,hx2⟩;dsimp only;go_wp;exact zaa (v:=.map (some m)) (r:=zbg _ _ _ _) ⟨⟨m,rfl,by omega,hM⟩,fun h=>by simp at h⟩ hx2
  ·have hs:=he.size;have hrow:=zaf W 129 [.map none];go_wp;exact zaa (r:=zbg _ _ _ _) ⟨⟨W.heap.size,rfl,hs,hrow⟩,fun _=>⟨W.heap.size,rfl,Qj _,by simp⟩⟩ ((Ext.refl W).alloc _)
  ·have hs:=he.size;have hrow:=zaf W 129 [.map none];go_wp;exact zaa (r:=zbg _ _ _ _) ⟨⟨W.heap.size,rfl,hs,hrow⟩,fun _=>⟨W.heap.size,rfl,Qj _,by simp⟩⟩ ((Ext.refl W).alloc _)
 case hend =>
  intro yy W he hap f;obtain⟨p1,h23,hp1,hM1⟩:∃ m,yy 23=.map (some m)/\W2.heap.size<=m/\MapIs St I W m (plF 0 [] se):=f.2.2.1;obtain⟨p2,h26,hp2,hM2⟩:∃ m,yy 26=.map (some m)/\W2.heap.size<=m/\MapIs St I W m (plF 0 [] te):=f.2.2.2.2.2.1;obtain⟨g6,h6,hg6,r6⟩:∃ g,yy 6=.pointer (some ⟨g,0,none⟩)/\W2.heap.size<=g/\RowIs W g 129 [.map none] []:=f.2.2.2.2.2.2.1;obtain⟨g7,h7,hg7,r7⟩:∃ g,yy 7=.pointer (some ⟨g,0,none⟩)/\W2.heap.size<=g/\RowIs W g 129 [.map none] []:=f.2.2.2.2.2.2.2.1;have hne:g6 ≠ g7:=fun e=>hap.1 7 (by simp) (by rw [h6,h7,e])
  clear f hap;simp only [zS,zD,zU,Yo,Ve,zav,Act.put,h23,h26,h6,h7];have q6:=r6.cell (j:=0) rfl;have q7:=r7.cell (j:=0) rfl;have qf6:=r6.frozen 0;have qf7:=r7.frozen 0;have hn1:p1 ≠ g6/\p1 ≠ g7:=⟨fun e=>by subst e;exact hM1.not_row r6,fun e=>by subst e;exact hM1.not_row r7⟩
  have hn2:p2 ≠ g6/\p2 ≠ g7:=⟨fun e=>by subst e;exact hM2.not_row r6,fun e=>by subst e;exact hM2.not_row r7⟩
  have hk:∀ b,b ≠ g6->b ≠ g7->((W.setCell ⟨g6,0,none⟩ (.map (some p1))).setCell ⟨g7,0,none⟩ (.map (some p2))).heap[b]? = W.heap[b]?:=fun b h1 h2=>(Qe _ _ _ _ h2).trans (Qe _ _ _ _ h1)
  have r63:RowIs ((W.setCell ⟨g6,0,none⟩ (.map (some p1))).setCell ⟨g7,0,none⟩ (.map (some p2))) g6 129 [.map (some p1)] []:=by have h:=(r6.set (j:=0) (by simp) (.map (some p1))).other (p:=⟨g7,0,none⟩) (by simpa using hne.symm) (.map (some p2));simpa using h
  have r73:RowIs ((W.setCell ⟨g6,0,none⟩ (.map (some p1))).setCell ⟨g7,0,none⟩ (.map (some p2))) g7 129 [.map (some p2)] []:=by have h:=(r7.other (p:=⟨g6,0,none⟩) (by simpa using hne) (.map (some p1))).set (j:=0) (by simp) (.map (some p2));simpa using h
  have hx3:Ext W2 ((W.setCell ⟨g6,0,none⟩ (.map (some p1))).setCell ⟨g7,0,none⟩ (.map (some p2))):=(he.set (p:=⟨g6,0,none⟩) hg6 _).set (p:=⟨g7,0,none⟩) hg7 _;have HM1:=zH (hM1.keep (w':=((W.setCell ⟨g6,0,none⟩ (.map (some p1))).setCell ⟨g7,0,none⟩ (.map (some p2)))) (hk _ hn1.1 hn1.2));have HM2:=zH (hM2.keep (w':=((W.setCell ⟨g6,0,none⟩ (.map (some p1))).setCell ⟨g7,0,none⟩ (.map (some p2)))) (hk _ hn2.1 hn2.2));have hz3:((W.setCell ⟨g6,0,none⟩ (.map (some p1))).setCell ⟨g7,0,none⟩ (.map (some p2))).heap.size<=W.heap.size/\W.heap.size<=((W.setCell ⟨g6,0,none⟩ (.map (some p1))).setCell ⟨g7,0,none⟩ (.map (some p2))).heap.size:=by simp
  have hgl6:=r6.lt;have hgl7:=r7.lt;have hpl1:=hM1.lt;have hpl2:=hM2.lt;have hez:=he.size;clear hM1 hM2 hk r6 r7 he hn1 hn2;have rA3:=rA2.ext hx3;have rB3:=rB2.ext hx3;have rR3:=rR2.ext hx3;have HG3:=zH (HG2.out.ext hx3);have HV3:=zH (HV2.out.ext hx3);have HX3:=zH (HX2.out.trans hx3);have HA3:=zH (HA2.out.ext hx3);have HB3:=zH (HB2.out.ext hx3);clear rA2 rB2 rR2 hx3 HG2 HV2 HX2 HA2 HB2 HAE HBE;have b1:=rB3.cell (j:=1) rfl;have a1:=rA3.cell (j:=1) rfl;go_wp;clear q6 q7 qf6 qf7;go_wp2_with fail;generalize ((W.setCell ⟨g6,0,none⟩ (.map (some p1))).setCell ⟨g7,0,none⟩ (.map (some p2)))=W3 at *;have HK:=zH (zz5 (.slice A2 se.length n2) (.slice B2 te.length m2) W3 rfl rfl);refine HK.out.mono ?_;rintro r w4 ⟨rfl,rfl⟩;have hx4:Ext W3 ((W3.alloc (.cells #[.slice A2 se.length n2] 23)).alloc (.cells #[.slice B2 te.length m2] 23)):=((Ext.refl W3).alloc _).alloc _;have k1:((W3.alloc (.cells #[.slice A2 se.length n2] 23)).alloc (.cells #[.slice B2 te.length m2] 23)).cell? ⟨W3.heap.size,0,none⟩=some (.slice A2 se.length n2):=by simp [go_sem]
  have k2:((W3.alloc (.cells #[.slice A2 se.length n2] 23)).alloc (.cells #[.slice B2 te.length m2] 23)).cell? ⟨W3.heap.size+1,0,none⟩=some (.slice B2 te.length m2):=by simp [go_sem]
  have hz4:((W3.alloc (.cells #[.slice A2 se.length n2] 23)).alloc (.cells #[.slice B2 te.length m2] 23)).heap.size<=W3.heap.size+2/\W3.heap.size+2<=((W3.alloc (.cells #[.slice A2 se.length n2] 23)).alloc (.cells #[.slice B2 te.length m2] 23)).heap.size:=by simp
  clear a1 b1;go_wp2_with fail;generalize (W3.alloc (.cells #[.slice A2 se.length n2] 23)).alloc (.cells #[.slice B2 te.length m2] 23)=W4 at *
  skip
  have rA4:=rA3.ext hx4;have rB4:=rB3.ext hx4;have rR4:=rR3.ext hx4;have HG4:=zH (HG3.out.ext hx4);have HV4:=zH (HV3.out.ext hx4);have HX4:=zH (HX3.out.trans hx4);have HA4:=zH (HA3.out.ext hx4);have HB4:=zH (HB3.out.ext hx4);have HM14:=zH (HM1.out.ext hx4);have HM24:=zH (HM2.out.ext hx4);have r64:=r63.ext hx4;have r74:=r73.ext hx4;have rG4:=HG4.out;clear rA3 rB3 rR3 hx4 HG3 HV3 HX3 HA3 HB3 HM1 HM2 r63 r73;have hkl:=zxu (se.map (·.key)) (te.map (·.key));rw [Qn,Qn] at hkl;have hse:se.length<=549755813888:=SM1.out.entries;have hte:te.length<=549755813888:=SM2.out.entries;refine (wpIn_wide (n:=9)).1 ?_
  refine wpIn_rangeFunc_ownG rfl (by omega) (gf:=109) (lb:=#[.pointer (some ⟨W3.heap.size,0,none⟩),.pointer (some ⟨W3.heap.size+1,0,none⟩)]) rfl trivial (enters_of Tryz.func109 (by kernel_rfl) rfl)
   (zu5 8 (by omega) (w:=W4) (n₀:=W4.heap.size) (S:=fun b=>b < W4.heap.size/\b ≠ W1.heap.size) (Qj _) k1 k2 ⟨by omega,by omega⟩ ⟨by omega,by omega⟩ (fun b h=>h.1)
    (HA4.out.entries.mono (by decide) fun b hb h=>⟨hb,by omega⟩) (HB4.out.entries.mono (by decide) fun b hb h=>⟨hb,by omega⟩))
   (fun h k=>h.trans k) (KpS.put (Qj _)) (Below.refl _ _) (fun _=>rfl)
   (fun pre W=>∃ vE,RowIs W W1.heap.size 26 [(.slice J1 (za0 sa ta).length j1),vE,(.slice none 0 0)] []/\RowE W W4.heap.size W1.heap.size vE (pre.map fun k=>zbz (getE se k) (getE te k))/\OldK W4.heap.size W1.heap.size W4 W)
   (fun _ _ _=>False)
   (fun s W W' row ⟨vE,h1,h2,h3⟩ hg hr=>⟨vE,h1.kept hg (fun r e=>(hr r e).2),h2.kept hg (fun r e=>(hr r e).2),OldK.from _ _ _ _ (Qj _) () W W' row h3 hg hr⟩)
   (fun _ _ _ _ _ hs _ _=>hs)
   ⟨_,HG4.out,RowE.nil _ _ _ _,OldK.refl (Qj _)⟩
   ?a1 ?assign ?body ?done ?stop
  case stop=>rintro D c pre W _ _ h _;exact h.elim
  case assign =>
   intro l x W K hK
   gi_wp2
   exact hK
  case body =>
   rintro l pre x W ⟨vE,hS,hE,hO⟩ hlt;have hOs:=hO.size;have hgl1:W1.heap.size < W4.heap.size:=(by omega);have rA:=rA4.keep (hO.same w.heap.size (by omega) (by omega));have rB:=rB4.keep (hO.same (w.heap.size+1) (by omega) (by omega));have r6:=r64.keep (hO.same g6 (by omega) (by omega));have r7:=r74.keep (hO.same g7 (by omega) (by omega));have M1:=HM14.out.keep (hO.same p1 (by omega) (by omega));have M2:=HM24.out.keep (hO.same p2 (by omega) (by omega));have EA:=HA4.out.entries.keep (by decide) (w':=W) (fun b hb h2=>hO.same b (by omega) (by omega));have EB:=HB4.out.entries.keep (by decide) (w':=W) (fun b hb h2=>hO.same b (by omega) (by omega));have hEf:=hE.form;rw [Qn] at hEf;obtain⟨AE,cE,rfl,-,-⟩:=hEf;have hlt2:pre.length<=1099511627776:=Qc (Nat.le_of_lt hlt) (Qc hkl (by omega));obtain⟨Wb,hWb⟩:∃ X,Hid (((W.alloc (.cells #[St [],.slice none 0 0,.slice none 0 0,.slice none 0 0,.int .u64 0,St [],.bool false] 46)).alloc (.cells #[St [],.slice none 0 0,.slice none 0 0,.slice none 0 0,.int .u64 0,St [],.bool false] 46))=X):=⟨_,zH rfl⟩
   have hxb:Ext W Wb:=(by rw [<- hWb.out];exact ((Ext.refl W).alloc _).alloc _);have r9:RowIs Wb W.heap.size 46 [St [],.slice none 0 0,.slice none 0 0,.slice none 0 0,.int .u64 0,St [],.bool false] []:=(by rw [<- hWb.out];exact (zaf W _ _).alloc _);have r10:RowIs Wb (W.heap.size+1) 46 [St [],.slice none 0 0,.slice none 0 0,.slice none 0 0,.int .u64 0,St [],.bool false] []:=(by rw [<- hWb.out];exact yc8 W _ _ _);have hzb:Wb.heap.size<=W.heap.size+2/\W.heap.size+2<=Wb.heap.size:=by rw [<- hWb.out];simp
   skip
   have hspa:=zh1 se x;have hspb:=zh1 te x;have HSx:=zH hS;have HEx:=zH hE;have HOx:=zH hO;have HR:=zH (show _/\_/\_/\_/\_/\_ from ⟨r6,r7,rA,rB,M1,M2⟩);clear hS hE hO r6 r7 rA rB M1 M2;refine wpIn_block (wpIn_seq_k ?_);intro K5 hK5;have HK5:=zH hK5;clear hK5
   gi_wp2_with fail
   refine HK5.out _ _ ?_;clear HK5 K5;rw [hWb.out];clear hWb;have q6:=(HR.out.1.ext hxb).cell (j:=0) rfl;have qa:=(HR.out.2.2.1.ext hxb).cell (j:=1) rfl;have hlk1:=(zbi (P:=Tryz.prog) (z:=0) Tryz.underlying129 zd8 zmf (HR.out.2.2.2.2.1.ext hxb) x).2;rw [zgv,show ∀ L:List (Str × Int),getL 0 L x=(zdd L x).getD 0 from fun _=>rfl,zhc se 0 [] x] at hlk1;simp only [show zdd ([]:List (Str × Int)) x=none from rfl,Yr] at hlk1;have HEA:=zH (fun (pre post:List Entry) (m:Entry) (hl:se=pre++m :: post)=>zea EA hxb hl);clear EA;refine wpIn_seq_k ?_;intro K6 hK6;have HK6:=zH hK6;clear hK6
   have REST1:∀ ⦃u11 u12 u33 u34 u35 u36 u37 u38 u39 u40 u41 u42 u43 u44:Value⦄ (ea:Entry) (va1 va2 va3:Value) (Wc:World),RowIs Wc W.heap.size 46 (entL ea va1 va2 va3) []->RowIs Wc (W.heap.size+1) 46 (entL zak (.slice none 0 0) (.slice none 0 0) (.slice none 0 0)) []->Ext W Wc->EntAt W (fun b=>b < w.heap.size) ea va1 va2 va3->getE se x=ea->SmallE ea->K6 ⟨#[stV (.slice A1 sa.length n1) (.slice A2 se.length n2) (.slice A3 sp.length n3),stV (.slice B1 ta.length m1) (.slice B2 te.length m2) (.slice B3 tp.length m3),.pointer (some ⟨w.heap.size,0,none⟩),.pointer (some ⟨w.heap.size+1,0,none⟩),.pointer (some ⟨w.heap.size+1+1,0,none⟩),.pointer (some ⟨W1.heap.size,0,none⟩),.pointer (some ⟨g6,0,none⟩),.pointer (some ⟨g7,0,none⟩),St x,.pointer (some ⟨W.heap.size,0,none⟩),.pointer (some ⟨W.heap.size+1,0,none⟩),u11,u12,Qd,Qd,.pointer (some ⟨w.heap.size,0,none⟩),.slice A1 sa.length n1,.pointer (some ⟨w.heap.size+1,0,none⟩),.slice B1 ta.length m1,.slice J1 (za0 sa ta).length j1,.agg #[.slice J1 (za0 sa ta).length j1,.slice none 0 0,.slice none 0 0],yy 21,yy 22,.map (some p1),yy 24,yy 25,.map (some p2),.pointer (some ⟨w.heap.size,1,none⟩),.slice A2 se.length n2,.pointer (some ⟨w.heap.size+1,1,none⟩),.slice B2 te.length m2,.func (.func 109) #[] #[.pointer (some ⟨W3.heap.size,0,none⟩),.pointer (some ⟨W3.heap.size+1,0,none⟩)],St x,u33,u34,u35,u36,u37,u38,u39,u40,u41,u42,u43,u44,Qd,Qd,Qd,Qd,Qd,Qd,Qd,Qd,Qd,Qd,Qd,Qd,Qd,Qd,Qd,Qd,Qd,Qd,Qd,Qd,Qd,Qd,Qd,Qd,Qd,Qd,Qd,Qd,Qd,Qd,Qd,Qd,Qd,Qd,Qd],[]⟩ Wc:=by
    intro u11 u12 u33 u34 u35 u36 u37 u38 u39 u40 u41 u42 u43 u44 ea va1 va2 va3 Wc r9c r10c hxc hac hed1 hsm1;obtain⟨Ca1,ca1,Ca2,ca2,Ca3,ca3,rfl,rfl,rfl⟩:=hac.fm;have HAc:=zH hac;have HEd1:=zH hed1;clear hac hed1;refine HK6.out _ _ ?_;clear HK6 K6;refine wpIn_seq_k ?_;intro K9 hK9;have HK9:=zH hK9;clear hK9;have q7:=(HR.out.2.1.ext hxc).cell (j:=0) rfl;have qb:=(HR.out.2.2.2.1.ext hxc).cell (j:=1) rfl;have hlk2:=(zbi (P:=Tryz.prog) (z:=0) Tryz.underlying129 zd8 zmf (HR.out.2.2.2.2.2.ext hxc) x).2;rw [zgv,show ∀ L:List (Str × Int),getL 0 L x=(zdd L x).getD 0 from fun _=>rfl,zhc te 0 [] x] at hlk2;simp only [show zdd ([]:List (Str × Int)) x=none from rfl,Yr] at hlk2;have HEB:=zH (fun (pre post:List Entry) (m:Entry) (hl:te=pre++m :: post)=>zea EB hxc hl);clear EB
    have REST2:∀ ⦃u11 u12 u13 u14 u33 u34 u35 u36 u37 u38 u39 u40 u41 u42 u43 u44 u45 u46 u47 u48 u49 u50 u51 u52 u53 u54 u55 u56:Value⦄ (eb:Entry) (vb1 vb2 vb3:Value) (Wd:World),RowIs Wd W.heap.size 46 (entL ea (.slice Ca1 ea.seen.length ca1) (.slice Ca2 ea.counts.length ca2) (.slice Ca3 ea.items.length ca3)) []->RowIs Wd (W.heap.size+1) 46 (entL eb vb1 vb2 vb3) []->Ext W Wd->EntAt W (fun b=>b < w.heap.size) eb vb1 vb2 vb3->getE te x=eb->SmallE eb->K9 ⟨#[stV (.slice A1 sa.length n1) (.slice A2 se.length n2) (.slice A3 sp.length n3),stV (.slice B1 ta.length m1) (.slice B2 te.length m2) (.slice B3 tp.length m3),.pointer (some ⟨w.heap.size,0,none⟩),.pointer (some ⟨w.heap.size+1,0,none⟩),.pointer (some ⟨w.heap.size+1+1,0,none⟩),.pointer (some ⟨W1.heap.size,0,none⟩),.pointer (some ⟨g6,0,none⟩),.pointer (some ⟨g7,0,none⟩),St x,.pointer (some ⟨W.heap.size,0,none⟩),.pointer (some ⟨W.heap.size+1,0,none⟩),u11,u12,u13,u14,.pointer (some ⟨w.heap.size,0,none⟩),.slice A1 sa.length n1,.pointer (some ⟨w.heap.size+1,0,none⟩),.slice B1 ta.length m1,.slice J1 (za0 sa ta).length j1,.agg #[.slice J1 (za0 sa ta).length j1,.slice none 0 0,.slice none 0 0],yy 21,yy 22,.map (some p1),yy 24,yy 25,.map (some p2),.pointer (some ⟨w.heap.size,1,none⟩),.slice A2 se.length n2,.pointer (some ⟨w.heap.size+1,1,none⟩),.slice B2 te.length m2,.func (.func 109) #[] #[.pointer (some ⟨W3.heap.size,0,none⟩),.pointer (some ⟨W3.heap.size+1,0,none⟩)],St x,u33,u34,u35,u36,u37,u38,u39,u40,u41,u42,u43,u44,u45,u46,u47,u48,u49,u50,u51,u52,u53,u54,u55,u56,Qd,Qd,Qd,Qd,Qd,Qd,Qd,Qd,Qd,Qd,Qd,Qd,Qd,Qd,Qd,Qd,Qd,Qd,Qd,Qd,Qd,Qd,Qd],[]⟩ Wd:=by
     intro u11 u12 u13 u14 u33 u34 u35 u36 u37 u38 u39 u40 u41 u42 u43 u44 u45 u46 u47 u48 u49 u50 u51 u52 u53 u54 u55 u56 eb vb1 vb2 vb3 Wd r9d r10d hxd hbd hed2 hsm2;obtain⟨Cb1,cb1,Cb2,cb2,Cb3,cb3,rfl,rfl,rfl⟩:=hbd.fm;have HBd:=zH hbd;have HEd2:=zH hed2;clear hbd hed2 r9c r10c hxc q7 qb hlk2 HEB hspb;refine HK9.out _ _ ?_;clear HK9 K9;have rS:=HSx.out.ext hxd;have hEd:=HEx.out.ext hxd;have HAd:=zH (HAc.out.ext hxd);have HBd2:=zH (HBd.out.ext hxd);have hgl:=rS.lt;have hxz:=hxd.size;obtain⟨J,hJ⟩:∃ J,J=zbz ea eb:=⟨_,rfl⟩
     have HJe:=zH hJ
     refine zet [fun v _=>v=.pointer (some ⟨W1.heap.size,1,none⟩),fun v _=>v=.slice AE pre.length cE,fun v _=>v=entV ea (.slice Ca1 ea.seen.length ca1) (.slice Ca2 ea.counts.length ca2) (.slice Ca3 ea.items.length ca3),fun v _=>v=entV eb (.slice Cb1 eb.seen.length cb1) (.slice Cb2 eb.counts.length cb2) (.slice Cb3 eb.items.length cb3),
      fun v W'=>∃ u1 u2 u3,v=entV J u1 u2 u3/\EntNew W' Wd.heap.size J u1 u2 u3,fun v W'=>∃ h u1 u2 u3,v=.slice (some ⟨h,0,none⟩) 1 1/\Wd.heap.size<=h/\RowIs W' h 46 (entL J u1 u2 u3) []/\EntNew W' Wd.heap.size J u1 u2 u3] []
      rfl (by rintro⟨a,w,h⟩;exact h) (by intro o ho c;simp only [Qh,Jc,or_false] at ho;rcases ho with rfl | rfl | rfl | rfl | rfl | rfl | rfl | rfl | rfl <;> (intro h;cases h)) (by kernel_rfl) (by kernel_rfl) ?hR ?hstep ?hend
     case hR=>simp only [zM];exact⟨kP,kP,kP,kP,fun v _ _ h he=>by obtain⟨u1,u2,u3,e,z⟩:=h;exact⟨u1,u2,u3,e,z.ext he⟩,fun v _ _ h he=>by obtain⟨k,u1,u2,u3,e,z,b,c⟩:=h;exact⟨k,u1,u2,u3,e,z,b.ext he,c.ext he⟩⟩
     case hstep =>
      simp only [zS,zD,Yo,zd1]
      and_intros <;> intro x' W' he f
      ·have h:x' 5=.pointer (some ⟨W1.heap.size,0,none⟩):=f.1;go_wp;exact zaa (r:=zbg _ _ _ _) ⟨rfl,fun h=>by simp at h⟩ (Ext.refl _)
      ·have h:_=_:=f.1;have hc:=(rS.ext he).cell (j:=1) rfl;go_wp;exact zaa (r:=zbg _ _ _ _) ⟨rfl,fun h=>by simp at h⟩ (Ext.refl _)
      ·have h:x' 9=.pointer (some ⟨W.heap.size,0,none⟩):=f.1;obtain⟨c0,c1,c2,c3,c4,c5,c6⟩:=(r9d.ext he).p7;go_wp;exact zaa (r:=zbg _ _ _ _) ⟨rfl,fun h=>by simp at h⟩ (Ext.refl _)
      ·have h:x' 10=.pointer (some ⟨W.heap.size+1,0,none⟩):=f.1;obtain⟨c0,c1,c2,c3,c4,c5,c6⟩:=(r10d.ext he).p7;go_wp;exact zaa (r:=zbg _ _ _ _) ⟨rfl,fun h=>by simp at h⟩ (Ext.refl _)
      ·have h59:_=_:=f.1;have h60:_=_:=f.2.1;have hs:=he.size;have HC:=zH (zjv (HAd.out.ext he) (HBd2.out.ext he) hsm1 hsm2);rw [<- hJ] at HC;clear hJ;go_wp;refine HC.out.mono ?_;rintro r W6 ⟨u1,u2,u3,rfl,hn,hx2⟩;dsimp only;go_wp;exact zaa (v:=entV J u1 u2 u3) (r:=zbg _ _ _ _) ⟨⟨u1,u2,u3,rfl,hn.lower hs⟩,fun h=>by simp at h⟩ hx2
      ·obtain⟨u1,u2,u3,h,hn⟩:∃ u1 u2 u3,x' 61=entV J u1 u2 u3/\EntNew W' Wd.heap.size J u1 u2 u3:=f.1;have hs:=he.size;obtain⟨D1,d1,D2,d2,D3,d3,rfl,rfl,rfl⟩:=hn.fm;have hrow:=zaf W' 46 (entL J (.slice D1 J.seen.length d1) (.slice D2 J.counts.length d2) (.slice D3 J.items.length d3));have hxa:=(Ext.refl W').alloc (.cells (entL J (.slice D1 J.seen.length d1) (.slice D2 J.counts.length d2) (.slice D3 J.items.length d3)).toArray 46);clear hJ;go_wp;exact zaa (v:=.slice (some ⟨W'.heap.size,0,none⟩) 1 1) (r:=zbg _ _ _ _) ⟨⟨W'.heap.size,_,_,_,rfl,hs,hrow,hn.ext hxa⟩,fun h=>by simp at h⟩ hxa
     case hend =>
      intro x' W' he hap f;have h58:x' 58=.slice AE pre.length cE:=f.2.1;obtain⟨k,u1,u2,u3,h62,hk,hrow,hn⟩:∃ h u1 u2 u3,x' 62=.slice (some ⟨h,0,none⟩) 1 1/\Wd.heap.size<=h/\RowIs W' h 46 (entL J u1 u2 u3) []/\EntNew W' Wd.heap.size J u1 u2 u3:=f.2.2.2.2.2.1;clear f hap hJ;have hs:=he.size;simp only [zS,zD,zU,Yo,Ve,zav,Act.put,h58,h62];have hone:=zgm (hn.rd (S:=fun _=>True) (fun _ _ _=>trivial));have hEl:∀ b,zad (.slice AE pre.length cE) b->b < Wd.heap.size:=fun b hb=>(hEd.base_le hb).2
      have hEb:∀ b,zad (.slice AE pre.length cE) b->W4.heap.size<=b:=fun b hb=>(hEd.base_le hb).1
      obtain⟨L0,hL0⟩:∃ L0,L0=pre.map (fun k=>zbz (getE se k) (getE te k)):=⟨_,rfl⟩
      have hlen:L0.length=pre.length:=(by rw [hL0,Qn]);have hEd2:=hEd.ext he;rw [<- hL0] at hEd2;obtain⟨vss,y1,y2,y3⟩:=hEd2;rw [hlen] at y3;have rSe:=rS.ext he;have hnS:¬ zad (.slice AE pre.length cE) W1.heap.size:=fun hb=>by have:=hEb _ hb;omega
      have HL:=zH (show (pre++[x]).map (fun k=>zbz (getE se k) (getE te k))=L0++[J] from by rw [Vo,<- hL0];simp only [Ql,Yv,HEd1.out,HEd2.out,HJe.out]);have HS2:=zH (show _/\_ from ⟨y1,y2⟩);have HNN:=zH hn;clear y1 y2 hL0 HEd1 HEd2
      refine zal rfl (.tmp 58) (.tmp 62) 23 rfl W4.heap.size 46 7 120 zeroEnt Tryz.underlying23 zc0 rfl (by omega) (.slice AE pre.length cE) pre.length vss.flatten (by simp [go_sem]) y3 (some ⟨k,0,none⟩) 1 1 (entL J u1 u2 u3) (by simp [go_sem])
       ⟨by simp,hone,fun _=>⟨k,0,rfl,fun j u hj=>by rw [Yr];exact hrow.cell hj⟩⟩ (by omega) (by omega) (by omega) ?_
      intro v' w' hown hgr;have hE2:RowE w' W4.heap.size W1.heap.size v' (L0++[J]):=RowE.snoc HS2.out.1 HS2.out.2 HNN.out hEl hgl (by omega) (by rw [hlen];exact hown) hgr;have hF:=hE2.form;rw [show (L0++[J]).length=pre.length+1 by rw [Qw,hlen];rfl] at hF;obtain⟨AF,cF,rfl,-,-⟩:=hF;have rSw:=rSe.keep (hgr.same _ rSe.lt hnS);have hc:=rSw.cell (j:=1) rfl;have hf:=rSw.frozen 1;have rS2:=rSw.set (j:=1) (by simp) (.slice AF (pre.length+1) cF);simp only [Ya,Qv] at rS2;have hO2:=((HOx.out.ext (hxd.trans he)).grew hgr hEb).set (j:=1) (.slice AF (pre.length+1) cF);have hko:=((hxd.trans he).keepsO.trans (hgr.keeps y3)).trans (KeepsOthers.setCell w' ⟨W1.heap.size,1,none⟩ (.slice AF (pre.length+1) cF));have hE3:=hE2.set (j:=1) (u:=.slice AF (pre.length+1) cF) rSw (by decide);have HF:=zH (show _/\_/\_/\_ from ⟨rS2,hO2,hko,hE3⟩);clear rS2 hO2 hko hE3 hE2 hgr hown HS2 HNN hn hrow y3 rSe rSw hEd rS hone r9d r10d HAd HBd2;go_wp;obtain⟨rS2,hO2,hko,hE3⟩:=HF.out;exact⟨hko.from _,HOx.out.kps hO2 hko.size,_,rS2,by rw [HL.out];exact hE3,hO2⟩
    clear HK9
    cases hfb0:te.findIdx? (fun e=>decide (e.key=x)) with
    | none =>
     rw [hfb0] at hlk2 hspb;simp only at hspb;simp only [Jf,Jd,Vx] at hlk2;have hed2:getE te x=zak:=(by unfold getE;rw [hspb];rfl);clear hspb hfb0
     gi_wp2_with fail
     exact REST2 zak _ _ _ _ r9c r10c hxc (EntAt.none W _ none none none) hed2 zir
    | some jb =>
     rw [hfb0] at hlk2 hspb;obtain⟨preb,mb,postb,hlb,hjb,hkb,hfb⟩:=hspb;simp only [Yu,Je,Vy] at hlk2;obtain⟨bb,ob,wb1,wb2,wb3,e,eb0,eb1,eb2,eb3,eb4,eb5,eb6,hEBb⟩:=HEB.out preb postb mb hlb;subst e;obtain⟨Cb1,cb1,Cb2,cb2,Cb3,cb3,rfl,rfl,rfl⟩:=hEBb.fm;have hltb:preb.length < te.length:=(by rw [hlb];simp);have hmb:mb ∈ te:=(by rw [hlb];simp);subst hjb;have hed2:=(show getE te x=mb from by unfold getE;rw [hfb];rfl)
     have hsm2:=SM2.out.each mb hmb;obtain⟨sb0,sb1,sb2,sb3,sb4,sb5,sb6⟩:=r10c.p7;obtain⟨fb0,fb1,fb2,fb3,fb4,fb5,fb6⟩:=r10c.q7;have r10d:=zl3 (e0:=zak) (a1:=.slice none 0 0) (a2:=.slice none 0 0) (a3:=.slice none 0 0) (e:=mb) (v1:=.slice Cb1 mb.seen.length cb1) (v2:=.slice Cb2 mb.counts.length cb2) (v3:=.slice Cb3 mb.items.length cb3) r10c;have r9d:=r9c.keep (zgw Wc (W.heap.size+1) mb (.slice Cb1 mb.seen.length cb1) (.slice Cb2 mb.counts.length cb2) (.slice Cb3 mb.items.length cb3) W.heap.size (by omega));have hxd:=zeb hxc (q:=W.heap.size+1) (by omega) mb (.slice Cb1 mb.seen.length cb1) (.slice Cb2 mb.counts.length cb2) (.slice Cb3 mb.items.length cb3);have HRD:=zH (show _/\_/\_/\_/\_ from ⟨r9d,r10d,hxd,hEBb,hed2⟩);clear hlb hkb hfb0 hfb hEBb r9c r10c hxc r9d r10d hxd HEB hed2
     gi_wp2_with fail
     exact REST2 mb _ _ _ _ HRD.out.1 HRD.out.2.1 HRD.out.2.2.1 HRD.out.2.2.2.1 HRD.out.2.2.2.2 hsm2
   clear HK6
   cases hfa0:se.findIdx? (fun e=>decide (e.key=x)) with
   | none =>
    rw [hfa0] at hlk1 hspa;simp only at hspa;simp only [Jf,Jd,Vx] at hlk1;have hed1:getE se x=zak:=(by unfold getE;rw [hspa];rfl);clear hspa hfa0
    gi_wp2_with fail
    exact REST1 zak _ _ _ _ r9 r10 hxb (EntAt.none W _ none none none) hed1 zir
   | some ja =>
    rw [hfa0] at hlk1 hspa;obtain⟨prea,ma,posta,hla,hja,hka,hfa⟩:=hspa;simp only [Yu,Je,Vy] at hlk1;obtain⟨ba,oa,wa1,wa2,wa3,e,ea0,ea1,ea2,ea3,ea4,ea5,ea6,hEAa⟩:=HEA.out prea posta ma hla;subst e;obtain⟨Ca1,ca1,Ca2,ca2,Ca3,ca3,rfl,rfl,rfl⟩:=hEAa.fm;have hlta:prea.length < se.length:=(by rw [hla];simp);have hma:ma ∈ se:=(by rw [hla];simp);subst hja;have hed1:=(show getE se x=ma from by unfold getE;rw [hfa];rfl)
    have hsm1:=SM1.out.each ma hma;obtain⟨sa0,sa1,sa2,sa3,sa4,sa5,sa6⟩:=r9.p7;obtain⟨fa0,fa1,fa2,fa3,fa4,fa5,fa6⟩:=r9.q7;have r9c:=zl3 (e0:=zak) (a1:=.slice none 0 0) (a2:=.slice none 0 0) (a3:=.slice none 0 0) (e:=ma) (v1:=.slice Ca1 ma.seen.length ca1) (v2:=.slice Ca2 ma.counts.length ca2) (v3:=.slice Ca3 ma.items.length ca3) r9;have r10c:=r10.keep (zgw Wb W.heap.size ma (.slice Ca1 ma.seen.length ca1) (.slice Ca2 ma.counts.length ca2) (.slice Ca3 ma.items.length ca3) (W.heap.size+1) (by omega));have hxc:=zeb hxb (q:=W.heap.size) (Qj _) ma (.slice Ca1 ma.seen.length ca1) (.slice Ca2 ma.counts.length ca2) (.slice Ca3 ma.items.length ca3);have HRD:=zH (show _/\_/\_/\_/\_ from ⟨r9c,r10c,hxc,hEAa,hed1⟩);clear hla hka hfa0 hfa hEAa r9c r10c hxc r9 r10 HEA hed1
    gi_wp2_with fail
    exact REST1 ma _ _ _ _ HRD.out.1 HRD.out.2.1 HRD.out.2.2.1 HRD.out.2.2.2.1 HRD.out.2.2.2.2 hsm1
  case done =>
   rintro D ys W hD rfl ⟨vE,hS,hE,hO⟩ hK;have hOs:=hO.size;have hEf:=hE.form;rw [Qn] at hEf;obtain⟨AE,cE,rfl,-,-⟩:=hEf;have rA:=rA4.keep (hO.same w.heap.size (by omega) (by omega));have rB:=rB4.keep (hO.same (w.heap.size+1) (by omega) (by omega));have rR:=rR4.keep (hO.same (w.heap.size+1+1) (by omega) (by omega));have hV:=HV4.out.keep (w':=W) (fun b hb hlt=>hO.same b hlt (fun e=>HV4.out.apart rG4 (by decide) (by rw [<- e];exact hb)));have PA:=HA4.out.pruned.keep (by decide) (w':=W) (fun b hb h2=>hO.same b (by omega) (by omega));have PB:=HB4.out.pruned.keep (by decide) (w':=W) (fun b hb h2=>hO.same b (by omega) (by omega));have hXw:Ext w W:=hO.below HX4.out (by omega) (by omega);have HKD:=zH hK;clear hK;have qa:=rA.cell (j:=2) rfl;have qb:=rB.cell (j:=2) rfl;have hxc:Ext W (W.alloc (.cells #[.slice A3 sp.length n3,.slice B3 tp.length m3] 24)):=(Ext.refl W).alloc _;have rC:=zaf W 24 [.slice A3 sp.length n3,.slice B3 tp.length m3];have hlen:[sp,tp].flatten.length<=1099511627776:=(by have:=SM1.out.pruned;have:=SM2.out.pruned;simp at *;omega);have HC:=zH (zs5 (ya8 (hk:=by decide) (S:=fun b=>b<=W.heap.size) ((PA.mono (by decide) fun b _ h=>by omega).ext (by decide) hxc) ((PB.mono (by decide) fun b _ h=>by omega).ext (by decide) hxc) (Qj _) (rC.cell (j:=0) rfl) (rC.cell (j:=1) rfl)) hlen);have HSx:=zH hS;have HEx:=zH hE;have HOx:=zH hO;have HXw:=zH hXw;have HVx:=zH hV;clear hS hE hO hXw hV PA PB rC;dsimp only [Exit.inBlock,Exit.then];go_wp2_with fail;refine HC.out.mono ?_;rintro r W5 ⟨vP,rfl,hP,hx5⟩;obtain⟨P1,pn,rfl,-,-⟩:=hP.form;have hx05:=hxc.trans hx5;have hg5:W1.heap.size < W.heap.size:=(by omega);have hP5:=hP.lower (base':=W.heap.size) (by simp);obtain⟨LP,hLP⟩:∃ LP,LP = [sp,tp].flatten:=⟨_,rfl⟩
   have HLP:=zH hLP;rw [<- hLP] at hP5 hlen ⊢;clear hLP hP HC hx5 hxc;have rS5:=HSx.out.ext hx05;have s52:=rS5.cell (j:=2) rfl;have sf52:=rS5.frozen 2;have rS6:=rS5.set (j:=2) (by simp) (.slice P1 LP.length pn);simp only [Ya,Qv] at rS6;have hP6:=hP5.keep (w':=W5.setCell ⟨W1.heap.size,2,none⟩ (.slice P1 LP.length pn)) (fun b hb _=>Qe _ _ _ _ (fun e=>hP5.apart rS5 (by decide) (by have e2:b=W1.heap.size:=e;rw [<- e2];exact hb)));have HK6:=zH (((OldK.refl (n:=W.heap.size) (g:=W1.heap.size) (Qj _)).ext hx05).set (j:=2) (.slice P1 LP.length pn));have HSO:=zH (zo7 hP6 hlen);have c62:=rS6.cell (j:=2) rfl;have hz6:=HK6.out.size;have HS6:=zH rS6;clear rS5 rS6 hP5 hP6 hx05 qa qb;go_wp2_with fail;clear s52 sf52;generalize W5.setCell ⟨W1.heap.size,2,none⟩ (.slice P1 LP.length pn)=W6 at *;refine HSO.out.mono ?_;rintro r W7 ⟨rfl,hP7,hb7⟩;have hlS:=zh2 LP;have rS7:=HS6.out.keep (hb7.block _ hg5);have HK7:=zH (HK6.out.low hb7);have HCO:=zrk hP7 (by omega);have HCP:=zH HCO;have c72:=rS7.cell (j:=2) rfl;have cf72:=rS7.frozen 2;have HS7:=zH rS7;clear HS6 HK6 HSO hP7 hb7 c62 rS7 hlS HCO;go_wp2_with fail;refine HCP.out.mono ?_;rintro r W8 ⟨vC,rfl,hP8,hb8⟩;obtain⟨LC,hLC⟩:∃ LC,LC=Lib.compact (zbw LP):=⟨_,rfl⟩
   have HLC:=zH hLC;rw [<- hLC] at hP8;obtain⟨C1,cn,rfl,-,-⟩:=hP8.form;have rS8:=HS7.out.keep (hb8.block _ hg5);have HK8:=HK7.out.low hb8;have s82:=rS8.cell (j:=2) rfl;have s80:=rS8.cell (j:=0) rfl;have s81:=rS8.cell (j:=1) rfl;have sf82:=rS8.frozen 2;have hkr:=HK8.same (w.heap.size+1+1) (by omega) (by omega);have rR8:=rR.keep hkr;obtain⟨t0,t1,t2⟩:=rR8.p3;obtain⟨tf0,tf1,tf2⟩:=rR8.q3;have rS9:=rS8.set (j:=2) (by simp) (.slice C1 LC.length cn);simp only [Ya,Qv] at rS9;have hP9:=hP8.keep (w':=W8.setCell ⟨W1.heap.size,2,none⟩ (.slice C1 LC.length cn)) (fun b hb _=>Qe _ _ _ _ (fun e=>hP8.apart rS8 (by decide) (by have e2:b=W1.heap.size:=e;rw [<- e2];exact hb)));have HK9:=zH (HK8.set (j:=2) (.slice C1 LC.length cn));have HP9:=zH hP9;have hneR:¬ (w.heap.size+1+1=W1.heap.size):=(by omega);have hneR2:¬ (W1.heap.size=w.heap.size+1+1):=(by omega);clear hLC hP8 hb8 rS8 HK8 hkr rR8 rS9 hP9 HCP HS7 HK7 c72;go_wp2_with fail;generalize W8.setCell ⟨W1.heap.size,2,none⟩ (.slice C1 LC.length cn)=W9 at *;have hDl:D < W.heap.size:=(Array.getElem?_eq_some_iff.1 HKD.out).1;obtain⟨vG,hvG⟩:∃ v,v=Value.slice J1 (za0 sa ta).length j1:=⟨_,rfl⟩
   obtain⟨vE,hvE⟩:∃ v,v=Value.slice AE (zb8 se te).length cE:=⟨_,rfl⟩
   obtain⟨vC,hvC⟩:∃ v,v=Value.slice C1 LC.length cn:=⟨_,rfl⟩
   have hK2:(put3 W9 (w.heap.size+1+1) vG vE vC).heap[D]? = some (.deferred (some [])):=(zda _ _ _ _ _ _ (by omega)).trans ((HK9.out.same D hDl (by omega)).trans HKD.out);have hsame:∀ b,b < W.heap.size->b ≠ W1.heap.size->b ≠ w.heap.size+1+1->(put3 W9 (w.heap.size+1+1) vG vE vC).heap[b]? = W.heap[b]?:=fun b h1 h2 h3=>(zda _ _ _ _ _ _ h3).trans (HK9.out.same b h1 h2)
   have hxP:Ext w (put3 W9 (w.heap.size+1+1) vG vE vC):=zbn (HK9.out.below HXw.out (by omega) (by omega)) (by omega) _ _ _;have rRP:RowIs (put3 W9 (w.heap.size+1+1) vG vE vC) (w.heap.size+1+1) 26 [vG,vE,vC] []:=(by have h:=(((rR.keep (HK9.out.same (w.heap.size+1+1) (by omega) (by omega))).set (j:=0) (by simp) vG).set (j:=1) (by simp) vE).set (j:=2) (by simp) vC;simpa using h);have hg:=grownBy_putObj' (put3 W9 (w.heap.size+1+1) vG vE vC) D (.deferred none);have hr:∀ r,(some D:Option Nat)=some r->∃ o:Obj,(put3 W9 (w.heap.size+1+1) vG vE vC).heap[r]? = some o/\o.isCells=false:=fun r e=>by cases e;exact⟨_,hK2,rfl⟩
   have rRF:=rRP.kept hg hr;have o1:=(HVx.out.keep (w':=put3 W9 (w.heap.size+1+1) vG vE vC) (fun b hb hlt=>hsame b hlt (fun e=>HVx.out.apart HSx.out (by decide) (by rw [<- e];exact hb)) (by have:=(HVx.out.base_le hb).1;omega))).kept hg hr;have o2:=(HEx.out.keep (w':=put3 W9 (w.heap.size+1+1) vG vE vC) (fun b hb hlt hor=>hsame b hlt (by omega) (by omega))).kept hg hr;have o3:=(HP9.out.keep (w':=put3 W9 (w.heap.size+1+1) vG vE vC) (fun b hb hlt=>zda _ _ _ _ _ _ (by have:=(HP9.out.base_le hb).1;omega))).kept hg hr;have o4:Ext w ((put3 W9 (w.heap.size+1+1) vG vE vC).putObj D (.deferred none)):=Below.trans hxP (belowK_b (w:=w) (Qj _) _ D _ _ (by omega) hK2 rfl rfl);have hpr:Lib.compact (zbw (sp++tp))=LC:=(by rw [HLC.out,HLP.out];simp);obtain⟨q0,q1,q2⟩:=rRF.p3;have hwW4:w.heap.size<=W4.heap.size:=(by omega);have hwW:w.heap.size<=W.heap.size:=(by omega);rw [<- hvG] at o1;rw [<- hvE] at o2;rw [<- hvC] at o3;rw [<- hvG,<- hvE,<- hvC];clear hvG hvE hvC hsame hxP rRP hg hr;refine ⟨by simp,.inl ⟨_,_,rfl,run_takeDeferred hK2,?_⟩⟩;refine ⟨stV vG vE vC,?_,vG,vE,vC,rfl,⟨?_,?_,?_⟩,o4⟩
   ·simp [results,Tryz.f25,go_sem,q0,q1,q2]
   ·exact o1.lower (base':=w.heap.size) (Nat.le_add_right _ _)
   ·exact OwnL.lower (OwnL.mono o2 (S':=fun b=>w.heap.size<=b/\¬ zad vE b) fun b _ hb=>⟨Qc hwW4 hb.1,hb.2.2⟩) hwW4
   ·show Own _ _ _ _ _ (Lib.compact (zbw (sp++tp))).length ((Lib.compact (zbw (sp++tp))).flatMap strC);rw [hpr];exact o3.lower (base':=w.heap.size) hwW
end
section
open Go.RowKit
structure Ev where
 key:Str
 n:Int
 op:Nat
 tx:Str
 kn:List Bool
 path:Str
 num:Nat
abbrev Vec:=Str->Nat
def zao (V:Vec) (e:Ev):Bool:=decide (e.num<=V e.path)
def TopIs (E:List Ev) (P:Ev->Prop) (n:Nat):Prop:=(∀ e ∈ E,P e->e.num<=n)/\(n=0 ∨ ∃ e ∈ E,P e/\e.num=n)
theorem TopIs.uniq {E:List Ev} {P:Ev->Prop} {n m:Nat} (h:TopIs E P n) (k:TopIs E P m):n=m:=by
 refine Vb ?_ ?_
 ·rcases h.2 with rfl | ⟨e,he,hp,rfl⟩
  ·exact Yc _
  ·exact k.1 e he hp
 ·rcases k.2 with rfl | ⟨e,he,hp,rfl⟩
  ·exact Yc _
  ·exact h.1 e he hp
theorem TopIs.congr {E:List Ev} {P Q:Ev->Prop} {n:Nat} (h:TopIs E P n) (hpq:∀ e ∈ E,P e↔Q e):TopIs E Q n :=
 ⟨fun e he hq=>h.1 e he ((hpq e he).2 hq),h.2.imp id fun ⟨e,he,hp,hn⟩=>⟨e,he,(hpq e he).1 hp,hn⟩⟩
def sumE (E:List Ev) (f:Ev->Nat):Nat:=(E.map f).sum
theorem zeu {E:List Ev} {f g:Ev->Nat} (h:∀ e ∈ E,f e=g e):sumE E f=sumE E g:=by
 unfold sumE;rw [Yi h]
theorem ztz {E:List Ev} {f g:Ev->Nat} (h:∀ e ∈ E,f e<=g e):sumE E f<=sumE E g:=by
 unfold sumE
 induction E with
 | nil=>simp
 | cons e r ih =>
  simp only [Ql,Yd];have h1:=h e (by simp);have h2:=ih fun x hx=>h x (by simp [hx])
  omega
theorem zjz (E:List Ev) (e:Ev) (f:Ev->Nat):sumE (E++[e]) f=sumE E f+f e:=by simp [sumE]
def topZ:List Nat->List Bool->Nat
 | s :: st,b :: kn=>max (if b then s else 0) (topZ st kn)
 | _,_=>0
def zxv (st:List Nat) (e:Ev):List Nat:=st++[if e.op=4 then topZ st e.kn+1 else 0]
def zdj (E:List Ev):List Nat:=E.foldl zxv []
def zc6 (E:List Ev) (i:Nat):Nat:=(zdj E)[i]?.getD 0
theorem zge (E:List Ev) (e:Ev):zdj (E++[e])=zdj E++[if e.op=4 then topZ (zdj E) e.kn+1 else 0]:=by simp [zdj,zxv]
theorem zfx (E:List Ev):(zdj E).length=E.length:=by
 induction E using zhq with
 | h0=>rfl
 | h1 E e ih=>rw [zge];simp [ih]
theorem zey {E:List Ev} {e:Ev} {i:Nat} (h:i < E.length):zc6 (E++[e]) i=zc6 E i:=by
 unfold zc6;rw [zge,Qo (by rw [zfx];exact h)]
theorem zj5 (E:List Ev) (e:Ev):zc6 (E++[e]) E.length=if e.op=4 then topZ (zdj E) e.kn+1 else 0:=by
 unfold zc6;rw [zge,Qy (by rw [zfx];exact Qj _),zfx,Nat.sub_self]
 rfl
def Alive (E:List Ev) (V:Vec) (k:Str) (q:zan):Prop :=
 ∃ (i:Nat) (e:Ev),E[i]? = some e/\zao V e=true/\e.key=k/\e.op=2/\q=(e.tx,e.path,e.num)/\∀ x ∈ E,zao V x=true->x.key=k->x.tx=e.tx->x.kn[i]? ≠ some true
def IsCell (E:List Ev) (V:Vec) (k:Str) (c:Cell):Prop :=
 (∀ (i:Nat) (e:Ev),E[i]? = some e->zao V e=true->e.key=k->e.op=4->ltOf cmpC c (zc6 E i,e.tx,false)=false) /\
  (c=zgd ∨ ∃ (i:Nat) (e:Ev),E[i]? = some e/\zao V e=true/\e.key=k/\e.op=4/\c=(zc6 E i,e.tx,false))
def upK (V:Vec) (k p:Str) (e:Ev):Nat:=if zao V e=true/\e.key=k/\e.op=1/\e.path=p then upOf e.n else 0
def zb1 (V:Vec) (k p:Str) (e:Ev):Nat:=if zao V e=true/\e.key=k/\e.op=1/\e.path=p then zcb e.n else 0
structure IsE (E:List Ev) (V:Vec) (k:Str) (x:Entry):Prop where
 key:x.key=k
 seenG:GoodM x.seen
 seen:∀ p,TopIs E (fun e=>zao V e=true/\e.key=k/\e.path=p) (ofM x.seen p)
 cntG:GoodC x.counts
 plus:∀ p,zbr x.counts p=sumE E (upK V k p)
 minus:∀ p,zbf x.counts p=sumE E (zb1 V k p)
 itG:GoodB x.items
 items:∀ q,q ∈ zab x.items↔Alive E V k q
 cell:IsCell E V k x.cell
structure Hist (E:List Ev):Prop where
 path:∀ e ∈ E,e.path ≠ []
 num:∀ e ∈ E,1<=e.num
 rise:∀ (i j:Nat) (a b:Ev),E[i]? = some a->E[j]? = some b->a.path=b.path->i < j->a.num < b.num
 len:∀ (i:Nat) (e:Ev),E[i]? = some e->e.kn.length=i
 own:∀ (i j:Nat) (a b:Ev),E[i]? = some a->E[j]? = some b->a.path=b.path->i < j->b.kn[i]? = some true
 trans:∀ (i j:Nat) (a b:Ev),E[i]? = some a->E[j]? = some b->b.kn[i]? = some true->∀ h:Nat,a.kn[h]? = some true->b.kn[h]? = some true
 text:∀ e ∈ E,e.tx.length<=4096
def Closed (E:List Ev) (V:Vec):Prop:=∀ (i j:Nat) (a b:Ev),E[i]? = some a->E[j]? = some b->zao V b=true->b.kn[i]? = some true->zao V a=true
theorem zxw {E:List Ev} {e:Ev} (h:e ∈ E):∃ i:Nat,E[i]? = some e:=Ys.1 h
theorem Hist.same {E:List Ev} (H:Hist E) {i j:Nat} {a b:Ev} (ha:E[i]? = some a) (hb:E[j]? = some b) (hp:a.path=b.path) (hn:a.num=b.num):i=j:=by
 rcases Vi i j with h | h | h
 ·have:=H.rise i j a b ha hb hp h;omega
 ·exact h
 ·have:=H.rise j i b a hb ha hp.symm h;omega
theorem cmpC_lt {a b:Cell}:ltOf cmpC a b=true↔a.1 < b.1 ∨ (a.1=b.1/\(zbv a < zbv b ∨ (zbv a=zbv b/\ltS a.2.1 b.2.1=true))):=by
 obtain⟨n,s,g⟩:=a;obtain⟨m,t,h⟩:=b;unfold ltOf cmpC orI;have h1:=@zot n m;have h2:=@ya1 n m;have h3:=@cmpS_lt s t;have h4:cmpI (zbv (n,s,g)) (zbv (m,t,h))=0↔zbv (n,s,g)=zbv (m,t,h):=by unfold cmpI;split <;> (try split) <;> omega
 have h5:cmpI (zbv (n,s,g)) (zbv (m,t,h)) < 0↔zbv (n,s,g) < zbv (m,t,h):=by unfold cmpI;split <;> (try split) <;> omega
 simp only [decide_eq_true_eq]
 by_cases e1:cmpN n m=0
 ·have e1':=h2.1 e1;rw [zN (by simpa using e1)]
  by_cases e2:cmpI (zbv (n,s,g)) (zbv (m,t,h))=0
  ·have e2':=h4.1 e2;rw [zN (by simpa using e2),h3]
   constructor
   ·intro k;exact .inr ⟨e1',.inr ⟨e2',k⟩⟩
   ·rintro (k | ⟨-,k | ⟨-,k⟩⟩)
    ·omega
    ·omega
    ·exact k
  ·rw [zP e2,h5];have e2':=mt h4.2 e2
   constructor
   ·intro k;exact .inr ⟨e1',.inl k⟩
   ·rintro (k | ⟨-,k | ⟨k,-⟩⟩)
    ·omega
    ·exact k
    ·exact absurd k e2'
 ·rw [zP e1,h1];have e1':=mt h2.2 e1
  constructor
  ·exact .inl
  ·rintro (k | ⟨k,-⟩)
   ·exact k
   ·exact absurd k e1'
theorem zmz (a:Cell):ltOf cmpC a a=false:=zbt fun h=>by
 rcases cmpC_lt.1 h with h | ⟨-,h | ⟨-,h⟩⟩
 ·omega
 ·omega
 ·rw [zap] at h;cases h
theorem zoc {a b c:Cell} (h:ltOf cmpC a b=true) (k:ltOf cmpC b c=true):ltOf cmpC a c=true:=by
 rw [cmpC_lt] at h k ⊢;rcases h with h | ⟨h1,h2⟩
 ·rcases k with k | ⟨k1,-⟩
  ·exact .inl (Nat.lt_trans h k)
  ·exact .inl (by omega)
 ·rcases k with k | ⟨k1,k2⟩
  ·exact .inl (by omega)
  ·refine .inr ⟨h1.trans k1,?_⟩;rcases h2 with h2 | ⟨h2,h3⟩
   ·rcases k2 with k2 | ⟨k2,-⟩
    ·exact .inl (by omega)
    ·exact .inl (by omega)
   ·rcases k2 with k2 | ⟨k2,k3⟩
    ·exact .inl (by omega)
    ·exact .inr ⟨h2.trans k2,zay h3 k3⟩
theorem zxx {a b:Cell} (h:zbv a=zbv b):a.2.2=b.2.2:=by
 obtain⟨n,s,g⟩:=a;obtain⟨m,t,g'⟩:=b;cases g <;> cases g'
 ·rfl
 ·exact absurd h (by show ¬ ((1:Int)=0);decide)
 ·exact absurd h (by show ¬ ((0:Int)=1);decide)
 ·rfl
theorem zrl (a b:Cell):ltOf cmpC a b=true ∨ a=b ∨ ltOf cmpC b a=true:=by
 rw [cmpC_lt,cmpC_lt];rcases Vi a.1 b.1 with h | h | h
 ·exact .inl (.inl h)
 ·rcases Int.lt_trichotomy (zbv a) (zbv b) with k | k | k
  ·exact .inl (.inr ⟨h,.inl k⟩)
  ·rcases zcj a.2.1 b.2.1 with l | l | l
   ·exact .inl (.inr ⟨h,.inr ⟨k,l⟩⟩)
   ·refine .inr (.inl ?_);obtain⟨n,s,g⟩:=a;obtain⟨m,t,g'⟩:=b;have:=zxx k;simp only at h l this;rw [h,l,this]
   ·exact .inr (.inr (.inr ⟨h.symm,.inr ⟨k.symm,l⟩⟩))
  ·exact .inr (.inr (.inr ⟨h.symm,.inl k⟩))
 ·exact .inr (.inr (.inl h))
theorem zqo {a b c:Cell} (h:ltOf cmpC b a=false) (k:ltOf cmpC c b=false):ltOf cmpC c a=false:=zbt fun hc=>by
 rcases zrl a b with e | e | e
 ·rw [zoc hc e] at k;cases k
 ·subst e;rw [hc] at k;cases k
 ·rw [e] at h;cases h
theorem zz6 (a b:Cell):ze0 a b=if ltOf cmpC a b=true then b else a:=by
 unfold ze0 ltOf
 by_cases h:cmpC a b < 0 <;> simp [h]
theorem cell_zero {i:Nat} {E:List Ev} {e:Ev} (h:E[i]? = some e) (ho:e.op=4):1<=zc6 E i:=by
 induction E using zhq with
 | h0=>simp at h
 | h1 E x ih =>
  rcases Vk i E.length with hi | hi
  ·rw [Qo hi] at h;rw [zey hi];exact ih h
  ·rw [Qy hi] at h
   have hi2:i=E.length:=by have:=(Qb.1 h).1;simp at this;omega
   subst hi2;rw [Nat.sub_self] at h;simp only [List.getElem?_cons_zero,Ym] at h;subst h;rw [zj5,zP ho];omega
theorem IsCell.uniq {E:List Ev} {V:Vec} {k:Str} {c d:Cell} (h:IsCell E V k c) (h':IsCell E V k d):c=d:=by
 have key:∀ c d,IsCell E V k c->IsCell E V k d->ltOf cmpC c d=false:=by
  intro c d h h';rcases h'.2 with rfl | ⟨i,e,h1,h2,h3,h4,rfl⟩
  ·refine zbt fun hl=>?_
   rcases h.2 with rfl | ⟨i,e,h1,h2,h3,h4,rfl⟩
   ·rw [zmz] at hl;cases hl
   ·have:=cell_zero h1 h4;rcases cmpC_lt.1 hl with k | ⟨k,-⟩
    ·simp [zgd] at k
    ·simp only [zgd] at k;omega
  ·exact h.1 i e h1 h2 h3 h4
 rcases zrl c d with e | e | e
 ·rw [key c d h h'] at e;cases e
 ·exact e
 ·rw [key d c h' h] at e;cases e
theorem zrm (it:Item) (r:List Item):zab (it :: r)=it.2.map (fun d=>(it.1,d))++zab r:=rfl
theorem zs7 {l:List Item} {q:zan} (h:q ∈ zab l):∃ it ∈ l,q.1=it.1/\q.2 ∈ it.2:=by
 obtain⟨it,hit,h⟩:=Yz.1 h;obtain⟨d,hd,he⟩:=Qg.1 h;exact⟨it,hit,by rw [<- he],by rw [<- he];exact hd⟩
theorem zxy (s:Str) {a b:Dot} (h:ltOf cmpD a b=true):ltOf cmpP (s,a) (s,b)=true:=cmpP_lt.2 (Or.inr (And.intro (Eq.refl s) h))
theorem zl4 {l:List Item} (h1:l.Pairwise fun a b=>ltS a.1 b.1=true) (h2:∀ it ∈ l,it.2.Pairwise fun a b=>ltOf cmpD a b=true):(zab l).Pairwise fun a b=>ltOf cmpP a b=true:=by
 induction l with
 | nil=>exact .nil
 | cons it r ih =>
  obtain⟨g1,g2⟩:=Qf.1 h1;rw [zrm];refine Vt.2 ⟨?_,ih g2 fun x hx=>h2 x (Vc _ hx),fun a ha b hb=>?_⟩
  ·rw [Qr];refine List.Pairwise.imp (fun {a b} hd=>?_) (h2 it List.mem_cons_self);exact zxy it.1 hd
  ·obtain⟨d,-,he⟩:=Qg.1 ha;obtain⟨x,hx,hb1,-⟩:=zs7 hb;refine cmpP_lt.2 (.inl ?_);rw [<- he,hb1];exact g1 x hx
theorem zj6 {l:List Item} (h1:l.Pairwise fun a b=>ltS a.1 b.1=true) (h2:∀ it ∈ l,it.2 ≠ []/\it.2.Pairwise fun a b=>ltOf cmpD a b=true):za7 (zab l)=l:=by
 have hp:=zl4 h1 fun it hit=>(h2 it hit).2
 have hs:zco (ltOf cmpP) (zab l)=zab l:=by refine zej zjs (zbq _) (zdn zhm _) (hp.imp fun {a b} hab=>zbt fun hba=>?_);have hk:=znw _ _ _ hab hba;rw [zj1] at hk;cases hk
 unfold za7;rw [hs];have hg:=zf8 _ hp;have hpl:=zdw (zab l);generalize zep (zab l)=m at *;obtain⟨g1,g2⟩:=hg;have h2':∀ it ∈ l,it.2 ≠ []:=fun it hit=>(h2 it hit).1
 have g2':∀ it ∈ m,it.2 ≠ []:=fun it hit=>(g2 it hit).1
 clear h2 g2 hs hp
 have first:∀ {l:List Item},(l.Pairwise fun a b=>ltS a.1 b.1=true)->∀ {it:Item},it ∈ l->∀ d,(it.1,d) ∈ zab l↔d ∈ it.2:=by
  intro l hl it hit d;refine ⟨fun h=>?_,fun h=>ze4 hit h⟩;obtain⟨x,hx,hm⟩:=Yz.1 h;obtain⟨d',hd',he⟩:=Qg.1 hm;injection he with e1 e2
  subst e2
  have:x=it:=by
   clear h hm hd'
   induction l with
   | nil=>cases hx
   | cons y r ih =>
    obtain⟨k1,k2⟩:=Qf.1 hl;rcases Qh.1 hx with rfl | hx'
    ·rcases Qh.1 hit with rfl | hi'
     ·rfl
     ·exact absurd e1 (zck (k1 it hi'))
    ·rcases Qh.1 hit with rfl | hi'
     ·exact absurd e1.symm (zck (k1 x hx'))
     ·exact ih k2 hi' hx'
  rw [<- this];exact hd'
 clear first
 induction l generalizing m with
 | nil =>
  cases m with
  | nil=>rfl
  | cons it r =>
   cases hd:it.2 with
   | nil=>exact absurd hd (g2' it (by simp))
   | cons d ds=>simp [zab,hd] at hpl
 | cons it r ih =>
  cases m with
  | nil =>
   cases hd:it.2 with
   | nil=>exact absurd hd (h2' it (by simp))
   | cons d ds=>simp [zab,hd] at hpl
  | cons jt s =>
   obtain⟨k1,k2⟩:=Qf.1 h1;obtain⟨k3,k4⟩:=Qf.1 g1
   have cut:∀ (t:Str) (ds es:List Dot) (a b:List zan),(∀ p ∈ a,p.1 ≠ t)->(∀ p ∈ b,p.1 ≠ t)->ds.map (fun d=>(t,d))++a=es.map (fun d=>(t,d))++b->ds=es/\a=b:=by
    intro t ds
    induction ds with
    | nil =>
     intro es a b ha hb h
     cases es with
     | nil=>exact⟨rfl,h⟩
     | cons e es=>simp only [Yv,Yg,Ql,Yf] at h;exact absurd rfl (ha (t,e) (by rw [h];simp))
    | cons d ds ihd =>
     intro es a b ha hb h
     cases es with
     | nil=>simp only [Yv,Yg,Ql,Yf] at h;exact absurd rfl (hb (t,d) (by rw [<- h];simp))
     | cons e es=>simp only [Ql,Yf,Yt,Prod.mk.injEq,true_and] at h;obtain⟨r1,r2⟩:=ihd es a b ha hb h.2;exact⟨by rw [h.1,r1],r2⟩
   have hpl':jt.2.map (fun d=>(jt.1,d))++zab s=it.2.map (fun d=>(it.1,d))++zab r:=by simpa [zab] using hpl
   have ht:jt.1=it.1:=by
    cases hd:jt.2 with
    | nil=>exact absurd hd (g2' jt (by simp))
    | cons d ds =>
     cases he:it.2 with
     | nil=>exact absurd he (h2' it (by simp))
     | cons e es=>rw [hd,he] at hpl';simp only [Ql,Yf,Yt,Prod.mk.injEq] at hpl';exact hpl'.1.1
   have ne:∀ {l:List Item} {t:Str},(∀ x ∈ l,ltS t x.1=true)->∀ p ∈ zab l,p.1 ≠ t:=by intro l t hl p hp;obtain⟨x,hx,hm⟩:=Yz.1 hp;obtain⟨d',-,rfl⟩:=Qg.1 hm;exact (zck (hl x hx)).symm
   rw [ht] at hpl';obtain⟨r1,r2⟩:=cut it.1 _ _ _ _ (ne (ht ▸ k3)) (ne k1) hpl';have:=ih k2 s r2 k4 (fun x hx=>h2' x (Vc _ hx)) (fun x hx=>g2' x (Vc _ hx));rw [this]
   congr 1
   exact Prod.ext ht r1
theorem zm0 {l:List Item} (h:GoodB l):za7 (zab l)=l:=zj6 h.1 fun it hit=>(h.2.1 it hit).2
theorem itemsL_places {ks:List zan} {q:zan}:q ∈ zab (za7 ks)↔q ∈ ks:=by
 unfold za7;rw [zdw,(zbq ks).mem_iff]
theorem GoodB.nodup {l:List Item} (h:GoodB l):(zab l).Nodup:=by
 have:=h.2.2.2;rw [zcn] at this;exact (Qr.1 this).imp fun h e=>h (by rw [e])
theorem GoodB.ext {a b:List Item} (ha:GoodB a) (hb:GoodB b) (h:∀ q,q ∈ zab a↔q ∈ zab b):a=b:=by
 rw [<- zm0 ha,<- zm0 hb];exact zfe (zdl ha.nodup hb.nodup h)
theorem IsE.uniq {E:List Ev} {V:Vec} {k:Str} {x y:Entry} (h:IsE E V k x) (h':IsE E V k y):x=y:=by
 have e1:=h.seenG.ext h'.seenG fun p=>(h.seen p).uniq (h'.seen p)
 have e2:=h.cntG.ext h'.cntG fun p=>⟨by rw [h.plus,h'.plus],by rw [h.minus,h'.minus]⟩
 have e3:=h.itG.ext h'.itG fun q=>(h.items q).trans (h'.items q).symm
 have e4:=h.cell.uniq h'.cell;have e5:=h.key.trans h'.key.symm;obtain⟨a,b,c,d,e⟩:=x;obtain⟨a',b',c',d',e'⟩:=y;simp only at e1 e2 e3 e4 e5;rw [e1,e2,e3,e4,e5]
theorem Alive.congr {E:List Ev} {V V':Vec} {k:Str} (h:∀ e ∈ E,e.key=k->zao V e=zao V' e) {q:zan}:Alive E V k q↔Alive E V' k q:=by
 have key:∀ V V':Vec,(∀ e ∈ E,e.key=k->zao V e=zao V' e)->Alive E V k q->Alive E V' k q:=by rintro V V' h ⟨i,e,h1,h2,h3,h4,h5,h6⟩;have he:=Qa h1;exact⟨i,e,h1,by rw [<- h e he h3];exact h2,h3,h4,h5,fun x hx k1 k2 k3=>h6 x hx (by rw [h x hx k2];exact k1) k2 k3⟩
 exact⟨key V V' h,key V' V fun e he hk=>(h e he hk).symm⟩
theorem IsCell.congr {E:List Ev} {V V':Vec} {k:Str} (h:∀ e ∈ E,e.key=k->zao V e=zao V' e) {c:Cell} (hc:IsCell E V k c):IsCell E V' k c :=
 ⟨fun i e h1 h2 h3 h4=>hc.1 i e h1 (by rw [h e (Qa h1) h3];exact h2) h3 h4,hc.2.imp id fun ⟨i,e,h1,h2,h3,h4,h5⟩=>⟨i,e,h1,by rw [<- h e (Qa h1) h3];exact h2,h3,h4,h5⟩⟩
theorem zxz {E:List Ev} {V V':Vec} {k:Str} (h:∀ e ∈ E,e.key=k->zao V e=zao V' e) (p:Str):sumE E (upK V k p)=sumE E (upK V' k p):=zeu fun e he=>by
 unfold upK
 by_cases hk:e.key=k
 ·rw [h e he hk]
 ·simp [hk]
theorem zs8 {E:List Ev} {V V':Vec} {k:Str} (h:∀ e ∈ E,e.key=k->zao V e=zao V' e) (p:Str):sumE E (zb1 V k p)=sumE E (zb1 V' k p):=zeu fun e he=>by
 unfold zb1
 by_cases hk:e.key=k
 ·rw [h e he hk]
 ·simp [hk]
theorem IsE.congr {E:List Ev} {V V':Vec} {k:Str} {x:Entry} (hx:IsE E V k x) (h:∀ e ∈ E,e.key=k->zao V e=zao V' e):IsE E V' k x where
 key:=hx.key
 seenG:=hx.seenG
 seen p:=(hx.seen p).congr fun e he=>⟨fun ⟨h1,h2,h3⟩=>⟨by rw [<- h e he h2];exact h1,h2,h3⟩,fun ⟨h1,h2,h3⟩=>⟨by rw [h e he h2];exact h1,h2,h3⟩⟩
 cntG:=hx.cntG
 plus p:=(hx.plus p).trans (zxz h p)
 minus p:=(hx.minus p).trans (zs8 h p)
 itG:=hx.itG
 items q:=(hx.items q).trans (Alive.congr h)
 cell:=hx.cell.congr h
theorem IsE.none {E:List Ev} {V:Vec} {k:Str} (h:∀ e ∈ E,e.key=k->zao V e=false):IsE E V k ⟨k,[],[],[],0,[],false⟩ where
 key:=rfl
 seenG:=zln
 seen p:=⟨fun e he ⟨h1,h2,_⟩=>(by rw [h e he h2] at h1;cases h1),.inl (zff p)⟩
 cntG:=⟨.nil,by simp⟩
 plus p:=by
  rw [show sumE E (upK V k p)=sumE E (fun _=>0) from zeu fun e he=>by
   unfold upK;refine zN fun ⟨h1,h2,_⟩=>?_
   rw [h e he h2] at h1;cases h1]
  have:∀ E:List Ev,sumE E (fun _=>0)=0:=fun E=>by unfold sumE;induction E <;> simp_all
  rw [this]
  rfl
 minus p:=by
  rw [show sumE E (zb1 V k p)=sumE E (fun _=>0) from zeu fun e he=>by
   unfold zb1;refine zN fun ⟨h1,h2,_⟩=>?_
   rw [h e he h2] at h1;cases h1]
  have:∀ E:List Ev,sumE E (fun _=>0)=0:=fun E=>by unfold sumE;induction E <;> simp_all
  rw [this]
  rfl
 itG:=zjw
 items q:=by refine ⟨fun hq=>by simp [zab] at hq,fun ⟨i,e,h1,h2,h3,_⟩=>?_⟩;rw [h e (Qa h1) h3] at h2;cases h2
 cell:=⟨fun i e h1 h2 h3 h4=>(by rw [h e (Qa h1) h3] at h2;cases h2),.inl rfl⟩
theorem IsE.other {E:List Ev} {V:Vec} {k:Str} {x:Entry} {e:Ev} (hx:IsE E V k x) (h:zao V e=true->e.key ≠ k):IsE (E++[e]) V k x where
 key:=hx.key
 seenG:=hx.seenG
 seen p:=by
  obtain⟨h1,h2⟩:=hx.seen p;refine ⟨fun y hy hp=>?_,h2.imp id fun ⟨y,hy,hp⟩=>⟨y,Yh _ hy,hp⟩⟩;rcases Qm.1 hy with hy | hy
  ·exact h1 y hy hp
  ·simp only [Qi] at hy;subst hy;exact absurd hp.2.1 (h hp.1)
 cntG:=hx.cntG
 plus p:=by rw [zjz,hx.plus p,show upK V k p e=0 from zN fun ⟨h1,h2,_⟩=>h h1 h2];rfl
 minus p:=by rw [zjz,hx.minus p,show zb1 V k p e=0 from zN fun ⟨h1,h2,_⟩=>h h1 h2];rfl
 itG:=hx.itG
 items q:=by
  rw [hx.items q]
  constructor
  ·rintro⟨i,y,h1,h2,h3,h4,h5,h6⟩;refine ⟨i,y,?_,h2,h3,h4,h5,fun z hz k1 k2 k3=>?_⟩
   ·rw [Qo (Qb.1 h1).1];exact h1
   ·rcases Qm.1 hz with hz | hz
    ·exact h6 z hz k1 k2 k3
    ·simp only [Qi] at hz;subst hz;exact absurd k2 (h k1)
  ·rintro⟨i,y,h1,h2,h3,h4,h5,h6⟩;rcases Vk i E.length with hi | hi
   ·rw [Qo hi] at h1;exact⟨i,y,h1,h2,h3,h4,h5,fun z hz=>h6 z (Yh _ hz)⟩
   ·rw [Qy hi] at h1
    have:y=e:=by
     have:=Qa h1
     simpa using this
    subst this;exact absurd h3 (h h2)
 cell:=by
  obtain⟨h1,h2⟩:=hx.cell;refine ⟨fun i y k1 k2 k3 k4=>?_,h2.imp id fun ⟨i,y,k1,k2,k3,k4,k5⟩=>⟨i,y,?_,k2,k3,k4,?_⟩⟩
  ·rcases Vk i E.length with hi | hi
   ·rw [Qo hi] at k1;rw [zey hi];exact h1 i y k1 k2 k3 k4
   ·rw [Qy hi] at k1
    have:y=e:=by
     have:=Qa k1
     simpa using this
    subst this;exact absurd k3 (h k2)
  ·rw [Qo (Qb.1 k1).1];exact k1
  ·rw [zey (Qb.1 k1).1];exact k5
abbrev maxV (V V':Vec):Vec:=fun p=>max (V p) (V' p)
theorem zba {V V':Vec} {e:Ev}:zao (maxV V V') e=(zao V e || zao V' e):=by
 unfold zao maxV;rw [Jg];simp only [Qz,decide_eq_true_eq];omega
theorem Closed.max {E:List Ev} {V V':Vec} (h:Closed E V) (h':Closed E V'):Closed E (maxV V V'):=fun i j a b h1 h2 h3 h4=>by
 rw [zba,Qz] at h3 ⊢;exact h3.imp (fun k=>h i j a b h1 h2 k h4) fun k=>h' i j a b h1 h2 k h4
theorem IsE.hasM {E:List Ev} {V:Vec} {k:Str} {x:Entry} (H:Hist E) (hx:IsE E V k x) {i:Nat} {e:Ev} (hi:E[i]? = some e) (hk:e.key=k):hasM x.seen (e.path,e.num)=true↔zao V e=true:=by
 obtain⟨h1,h2⟩:=hx.seen e.path;have he:=Qa hi;simp only [Go.Proofs.YtaabaflgeljbjaaGreat.hasM,Yb,decide_eq_true_eq]
 constructor
 ·rintro⟨-,hle⟩;rcases h2 with h2 | ⟨y,hy,⟨h3,h4,h5⟩,h6⟩
  ·have:=H.num e he;omega
  ·rw [<- h6] at hle;unfold zao at h3 ⊢;simp only [decide_eq_true_eq] at h3 ⊢;rw [h5] at h3;omega
 ·intro hkn;exact⟨H.num e he,h1 e he ⟨hkn,hk,rfl⟩⟩
theorem zrn {a b:List Item} {sa sb:List Mark} (ha:GoodM sa) (hb:GoodM sb) {q:zan}:q ∈ zab (ze8 a sa b sb)↔(q ∈ zab a/\(q ∈ zab b ∨ hasM sb q.2=false)) ∨ (q ∈ zab b/\(q ∈ zab a ∨ hasM sa q.2=false)):=by
 unfold ze8;rw [itemsL_places,zd6];unfold zgb zh9;rw [Qk,Qk,zpi ha,zpi hb];simp only [mem_setL,Qz,decide_eq_true_eq,Jb]
theorem zx0 {E:List Ev} {V:Vec} (H:Hist E) {k:Str} {p q:zan} (hp:Alive E V k p) (V':Vec) (hq:Alive E V' k q) (h:p.2=q.2):p=q:=by
 obtain⟨i,e,h1,h2,h3,h4,rfl,-⟩:=hp;obtain⟨j,f,k1,k2,k3,k4,rfl,-⟩:=hq;injection h with e1 e2
 have:=H.same h1 k1 e1 e2;subst this;rw [h1] at k1;injection k1 with k1
 rw [k1]
theorem zu6 {a b:List Item} {sa sb:List Mark} (ha:GoodB a) (hb:GoodB b) (hu:∀ p ∈ zab a,∀ q ∈ zab b,p.2=q.2->p=q):GoodB (ze8 a sa b sb):=by
 have key:∀ {ks:List zan},ks.Nodup->(∀ p ∈ ks,p ∈ zab a ∨ p ∈ zab b)->GoodB (za7 ks):=by
  intro ks hn hks
  have uniq:∀ {l:List Item},GoodB l->∀ p ∈ zab l,∀ q ∈ zab l,p.2=q.2->p=q:=by
   intro l hl p hp q hq e;have hn:=hl.2.2.2;rw [zcn] at hn
   exact Classical.byContradiction fun hne=>by obtain⟨i,hi⟩:=Ys.1 hp;obtain⟨j,hj⟩:=Ys.1 hq;have:=zo5 hn (i:=i) (j:=j) (x:=p.2) (by rw [Qs,hi];rfl) (by rw [Qs,hj,e];rfl);subst this;rw [hi] at hj;exact hne (Yk hj)
  refine zh0 ?_ (fun p hp=>?_) (fun p hp=>?_)
  ·unfold Vu;rw [Qr];refine List.Pairwise.imp_of_mem (fun {p q} hp hq hne e=>hne ?_) hn;rcases hks p hp with h1 | h1 <;> rcases hks q hq with h2 | h2
   ·exact uniq ha p h1 q h2 e
   ·exact hu p h1 q h2 e
   ·exact (hu q h2 p h1 e.symm).symm
   ·exact uniq hb p h1 q h2 e
  ·rcases hks p hp with h | h
   ·exact (zc2 ha h).1
   ·exact (zc2 hb h).1
  ·rcases hks p hp with h | h
   ·exact (zc2 ha h).2.1
   ·exact (zc2 hb h).2.1
 refine key (zd9 _ _ (zms _ _ _)) fun p hp=>?_
 rw [zd6] at hp;unfold zgb at hp;rw [Qk,Qk,mem_setL,mem_setL] at hp;exact hp.imp (·.1) (·.1)
theorem zpw (V V':Vec) (p:Str):((maxV V V' p=V p/\V' p<=V p) ∨ (maxV V V' p=V' p/\V p<=V' p)):=by simp only [maxV];omega
theorem ya9 (E:List Ev) (V V':Vec) (k p:Str):sumE E (upK (maxV V V') k p)=max (sumE E (upK V k p)) (sumE E (upK V' k p)):=by
 have mono:∀ {V V':Vec},V p<=V' p->sumE E (upK V k p)<=sumE E (upK V' k p):=fun {V V'} h=>ztz fun e _=>by
  unfold upK zao
  by_cases hc:e.key=k/\e.op=1/\e.path=p
  ·obtain⟨c1,c2,rfl⟩:=hc;simp only [c1,c2,true_and,and_true,decide_eq_true_eq]
   by_cases h1:e.num<=V e.path
   ·rw [zP h1,zP (Qc h1 h)];exact Qj _
   ·rw [zN h1];exact Yc _
  ·rw [zN fun h=>hc h.2];exact Yc _
 have same:∀ {V V':Vec},V p=V' p->sumE E (upK V k p)=sumE E (upK V' k p):=fun h=>Vb (mono (Vd h)) (mono (Vd h.symm))
 rcases zpw V V' p with ⟨h1,h2⟩ | ⟨h1,h2⟩
 ·rw [same h1];have:=mono h2;omega
 ·rw [same h1];have:=mono h2;omega
theorem zx1 (E:List Ev) (V V':Vec) (k p:Str):sumE E (zb1 (maxV V V') k p)=max (sumE E (zb1 V k p)) (sumE E (zb1 V' k p)):=by
 have mono:∀ {V V':Vec},V p<=V' p->sumE E (zb1 V k p)<=sumE E (zb1 V' k p):=fun {V V'} h=>ztz fun e _=>by
  unfold zb1 zao
  by_cases hc:e.key=k/\e.op=1/\e.path=p
  ·obtain⟨c1,c2,rfl⟩:=hc;simp only [c1,c2,true_and,and_true,decide_eq_true_eq]
   by_cases h1:e.num<=V e.path
   ·rw [zP h1,zP (Qc h1 h)];exact Qj _
   ·rw [zN h1];exact Yc _
  ·rw [zN fun h=>hc h.2];exact Yc _
 have same:∀ {V V':Vec},V p=V' p->sumE E (zb1 V k p)=sumE E (zb1 V' k p):=fun h=>Vb (mono (Vd h)) (mono (Vd h.symm))
 rcases zpw V V' p with ⟨h1,h2⟩ | ⟨h1,h2⟩
 ·rw [same h1];have:=mono h2;omega
 ·rw [same h1];have:=mono h2;omega
theorem IsCell.join {E:List Ev} {V V':Vec} {k:Str} {c d:Cell} (h:IsCell E V k c) (h':IsCell E V' k d):IsCell E (maxV V V') k (ze0 c d):=by
 rw [zz6]
 by_cases hl:ltOf cmpC c d=true
 ·rw [zP hl];refine ⟨fun i e h1 h2 h3 h4=>?_,h'.2.imp id fun ⟨i,e,h1,h2,r⟩=>⟨i,e,h1,by rw [zba,h2,Vl],r⟩⟩;rw [zba,Qz] at h2;rcases h2 with h2 | h2
  ·refine zbt fun k=>?_
   have:=h.1 i e h1 h2 h3 h4;rw [zoc hl k] at this;cases this
  ·exact h'.1 i e h1 h2 h3 h4
 ·rw [zN hl];refine ⟨fun i e h1 h2 h3 h4=>?_,h.2.imp id fun ⟨i,e,h1,h2,r⟩=>⟨i,e,h1,by rw [zba,h2,Yw],r⟩⟩;rw [zba,Qz] at h2;rcases h2 with h2 | h2
  ·exact h.1 i e h1 h2 h3 h4
  ·exact zqo (h'.1 i e h1 h2 h3 h4) (Yy.2 hl)
theorem IsE.join {E:List Ev} {V V':Vec} {k:Str} {x y:Entry} (H:Hist E) (hV:Closed E V) (hV':Closed E V') (hx:IsE E V k x) (hy:IsE E V' k y):IsE E (maxV V V') k ⟨x.key,za0 x.seen y.seen,zef x.counts y.counts,ze8 x.items x.seen y.items y.seen,ze0 x.cell y.cell⟩ where
 key:=hx.key
 seenG:=zcp _ _
 seen p:=by
  rw [zfs];obtain⟨a1,a2⟩:=hx.seen p;obtain⟨b1,b2⟩:=hy.seen p
  constructor
  ·rintro e he ⟨h1,h2,h3⟩;rw [zba,Qz] at h1;rcases h1 with h1 | h1
   ·have:=a1 e he ⟨h1,h2,h3⟩;omega
   ·have:=b1 e he ⟨h1,h2,h3⟩;omega
  ·rcases Nat.le_total (ofM x.seen p) (ofM y.seen p) with hle | hle
   ·rw [Nat.max_eq_right hle];exact b2.imp id fun ⟨e,he,⟨h1,h2⟩,h3⟩=>⟨e,he,⟨by rw [zba,h1,Vl],h2⟩,h3⟩
   ·rw [Nat.max_eq_left hle];exact a2.imp id fun ⟨e,he,⟨h1,h2⟩,h3⟩=>⟨e,he,⟨by rw [zba,h1,Yw],h2⟩,h3⟩
 cntG:=zuu _ _
 plus p:=by rw [(zpr _ _ _).1,hx.plus,hy.plus,ya9]
 minus p:=by rw [(zpr _ _ _).2,hx.minus,hy.minus,zx1]
 itG:=zu6 hx.itG hy.itG fun p hp q hq e=>zx0 H ((hx.items p).1 hp) V' ((hy.items q).1 hq) e
 items q:=by
  rw [zrn hx.seenG hy.seenG];have hasX:=fun {i:Nat} {e:Ev} (h:E[i]? = some e) (hk:e.key=k)=>hx.hasM H h hk
  have hasY:=fun {i:Nat} {e:Ev} (h:E[i]? = some e) (hk:e.key=k)=>hy.hasM H h hk
  constructor
  ·intro h
   have fwd:∀ {V V':Vec} {x y:Entry},Closed E V->Closed E V'->IsE E V k x->IsE E V' k y->(∀ {i:Nat} {e:Ev},E[i]? = some e->e.key=k->(Go.Proofs.YtaabaflgeljbjaaGreat.hasM y.seen (e.path,e.num)=true↔zao V' e=true))->q ∈ zab x.items->(q ∈ zab y.items ∨ Go.Proofs.YtaabaflgeljbjaaGreat.hasM y.seen q.2=false)->Alive E (maxV V V') k q:=by
    intro V V' x y hV hV' hx hy hasY h1 h2;obtain⟨i,e,k1,k2,k3,k4,rfl,k6⟩:=(hx.items q).1 h1;refine ⟨i,e,k1,by rw [zba,k2,Yw],k3,k4,rfl,fun z hz z1 z2 z3 z4=>?_⟩;rw [zba,Qz] at z1;rcases z1 with z1 | z1
    ·exact k6 z hz z1 z2 z3 z4
    ·rcases h2 with h2 | h2
     ·obtain⟨j,f,j1,j2,j3,j4,j5,j6⟩:=(hy.items _).1 h2;simp only [Prod.mk.injEq] at j5;have:=H.same k1 j1 j5.2.1 j5.2.2;subst this;exact j6 z hz z1 z2 (z3.trans j5.1) z4
     ·obtain⟨j,hj⟩:=zxw hz;have:=hV' i j e z k1 hj z1 z4;rw [(hasY k1 k3).2 this] at h2;cases h2
   rcases h with ⟨h1,h2⟩ | ⟨h1,h2⟩
   ·exact fwd hV hV' hx hy hasY h1 h2
   ·have:=fwd hV' hV hy hx hasX h1 h2;refine (Alive.congr fun e _ _=>?_).1 this;rw [zba,zba,Bool.or_comm]
  ·rintro⟨i,e,k1,k2,k3,k4,rfl,k6⟩;have onX:zao V e=true->(e.tx,e.path,e.num) ∈ zab x.items:=fun h=>(hx.items _).2 ⟨i,e,k1,h,k3,k4,rfl,fun z hz z1=>k6 z hz (by rw [zba,z1,Yw])⟩
   have onY:zao V' e=true->(e.tx,e.path,e.num) ∈ zab y.items:=fun h=>(hy.items _).2 ⟨i,e,k1,h,k3,k4,rfl,fun z hz z1=>k6 z hz (by rw [zba,z1,Vl])⟩
   rw [zba,Qz] at k2
   by_cases c1:zao V e=true
   ·refine .inl ⟨onX c1,?_⟩
    by_cases c2:zao V' e=true
    ·exact .inl (onY c2)
    ·exact .inr (Yy.2 fun h=>c2 ((hasY k1 k3).1 h))
   ·have c2:=k2.resolve_left c1;exact .inr ⟨onY c2,.inr (Yy.2 fun h=>c1 ((hasX k1 k3).1 h))⟩
 cell:=hx.cell.join hy.cell
end
section
def zcg (l:List Entry) (k:Str) (e:Entry):List Entry:=(l.filter fun x=>ltS x.key k)++e :: (l.filter fun x=>ltS k x.key)
theorem zj7 {α:Type} {P:α->Bool} {l:List α} {i:Nat} (h1:∀ j x,j < i->l[j]? = some x->P x=true) (h2:∀ j x,i<=j->l[j]? = some x->P x=false):l.filter P=l.take i:=by
 conv=>lhs;rw [<- Vr i l]
 rw [Yj]
 have a:(l.take i).filter P=l.take i:=Vv.2 fun x hx=>by
  obtain⟨j,hj⟩:=Yn hx;have hji:j < i:=by have:=(Qb.1 hj).1;simp at this;omega
  rw [Vm hji] at hj;exact h1 j x hji hj
 have b:(l.drop i).filter P = []:=Vq.2 fun x hx=>by obtain⟨j,hj⟩:=Yn hx;rw [Vz] at hj;simp [h2 (i+j) x (by omega) hj]
 rw [a,b,Yp]
theorem zj8 {α:Type} {P:α->Bool} {l:List α} {i:Nat} (h1:∀ j x,j < i->l[j]? = some x->P x=false) (h2:∀ j x,i<=j->l[j]? = some x->P x=true):l.filter P=l.drop i:=by
 conv=>lhs;rw [<- Vr i l]
 rw [Yj]
 have a:(l.take i).filter P = []:=Vq.2 fun x hx=>by
  obtain⟨j,hj⟩:=Yn hx;have hji:j < i:=by have:=(Qb.1 hj).1;simp at this;omega
  rw [Vm hji] at hj;simp [h1 j x hji hj]
 have b:(l.drop i).filter P=l.drop i:=Vv.2 fun x hx=>by obtain⟨j,hj⟩:=Yn hx;rw [Vz] at hj;exact h2 (i+j) x (by omega) hj
 rw [a,b,Yg]
theorem zx2 {l : List Entry} {k : Str} {i : Nat} {is : Bool} {m e : Entry} (hR : RiseS (l.map (·.key))) (hF : Found (l.map (·.key)) k i is) (hf : za4 l k = some m) : i < l.length /\ l.set i e = zcg l k e := by
 have hk := zpt hf
 obtain ⟨h, hh⟩ := Yn (zjy hf)
 have hx : (l.map (·.key))[h]? = some k := by rw [Qs, hh]; simp [hk]
 have hi : h = i := by
   rcases Vi h i with h1 | h1 | h1
   · have := hF.2.1.1 h k h1 hx; rw [zap] at this; cases this
   · exact h1
   · have hil : i < (l.map (·.key)).length := Nat.lt_trans h1 (Qb.1 hx).1
     have hxi : (l.map (·.key))[i]? = some (l.map (·.key))[i] := Qq hil
     have h2 := hF.2.1.2 i _ (Qj _) hxi
     rw [hR.lt h1 hxi hx] at h2
     cases h2
 subst hi
 have hil := (Qb.1 hh).1
 have key : ∀ {j : Nat} {x : Entry}, l[j]? = some x -> (l.map (·.key))[j]? = some x.key := fun h => by rw [Qs, h]; rfl
 refine ⟨hil, ?_⟩
 unfold zcg
 rw [zj7 (i := h) (fun j x hj hx' => hR.lt hj (key hx') hx) (fun j x hj hx' => by
     rcases Ja hj with rfl | h1
     · have := Yk (hx.symm.trans (key hx'))
       rw [<- this]; exact zap _
     · exact zc8 (hR.lt h1 hx (key hx'))),
   zj8 (i := h + 1) (fun j x hj hx' => by
     rcases Ja (Nat.le_of_lt_succ hj) with rfl | h1
     · have := Yk (hx.symm.trans (key hx'))
       rw [<- this]; exact zap _
     · exact zc8 (hR.lt h1 (key hx') hx)) (fun j x hj hx' => hR.lt (by omega) hx (key hx')),
   List.set_eq_take_append_cons_drop, zP hil]
theorem yba {l:List Entry} {k:Str} {i:Nat} {is:Bool} {e:Entry} (hR:RiseS (l.map (·.key))) (hF:Found (l.map (·.key)) k i is) (hf:za4 l k=none):i<=l.length/\l.take i++e :: l.drop i=zcg l k e:=by
 have hno:∀ x ∈ l,x.key ≠ k:=fun x hx he=>by have:=Vf.1 hf x hx;simp [he] at this
 have key:∀ {j:Nat} {x:Entry},l[j]? = some x->(l.map (·.key))[j]? = some x.key:=fun h=>by rw [Qs,h];rfl
 have gt:∀ (j:Nat) (x:Entry),i<=j->l[j]? = some x->ltS k x.key=true:=fun j x hj hx=>by
  rcases zcj k x.key with h | h | h
  ·exact h
  ·exact absurd h.symm (hno x (Qa hx))
  ·rw [hF.2.1.2 j _ hj (key hx)] at h;cases h
 refine ⟨by have:=hF.1;simpa using this,?_⟩;unfold zcg;rw [zj7 (i:=i) (fun j x hj hx=>hF.2.1.1 j _ hj (key hx)) (fun j x hj hx=>hF.2.1.2 j _ hj (key hx)),zj8 (i:=i) (fun j x hj hx=>zc8 (hF.2.1.1 j _ hj (key hx))) gt]
structure MayS (s:State):Prop where
 all:mayM s.all=true
 each:∀ e ∈ s.entries,mayE e=true/\zbm s.all e.seen=true
 rise:RiseS (s.entries.map (·.key))
 pruned:∀ p ∈ s.pruned,p ≠ []/\ofM s.all p=0
 risep:RiseS s.pruned
theorem zpx (all:List Mark):∀ (l:List Entry) (prev:Option Str),zeh all prev l=true↔(∀ e ∈ l,mayE e=true/\zbm all e.seen=true)/\RiseS (l.map (·.key))/\∀ k,prev=some k->∀ e ∈ l,ltS k e.key=true
 | [],prev=>by simp [zeh,RiseS]
 | e :: r,prev=>by
  have ih:=zpx all r (some e.key);unfold RiseS at ih ⊢;simp only [zeh,Yb,ih,Ql,Qf,Qh,forall_eq_or_imp,Qg,forall_exists_index,and_imp,forall_apply_eq_imp_iff₂,Ym,forall_eq']
  constructor
  ·rintro⟨h1,h2,h3,h4,h5,h6⟩;refine ⟨⟨⟨h1,h3⟩,h4⟩,⟨h6,h5⟩,fun k hk=>?_⟩;subst hk;exact⟨h2,fun x hx=>zay h2 (h6 x hx)⟩
  ·rintro⟨⟨⟨h1,h3⟩,h4⟩,⟨h6,h5⟩,h7⟩;refine ⟨h1,?_,h3,h4,h5,h6⟩
   cases prev with
   | none=>rfl
   | some k=>exact (h7 k rfl).1
theorem zpy (all:List Mark):∀ (l:List Str) (prev:Option Str),zdt all prev l=true↔(∀ p ∈ l,p ≠ []/\ofM all p=0)/\RiseS l/\∀ k,prev=some k->∀ p ∈ l,ltS k p=true
 | [],prev=>by simp [zdt,RiseS]
 | p :: r,prev=>by
  have ih:=zpy all r (some p);have hpe:(!p.isEmpty)=true↔p ≠ []:=by cases p <;> simp
  unfold RiseS at ih ⊢;simp only [zdt,Yb,ih,hpe,decide_eq_true_eq,Qf,Qh,forall_eq_or_imp,Ym,forall_eq']
  constructor
  ·rintro⟨h1,h2,h3,h4,h5,h6⟩;refine ⟨⟨⟨h1,h3⟩,h4⟩,⟨h6,h5⟩,fun k hk=>?_⟩;subst hk;exact⟨h2,fun x hx=>zay h2 (h6 x hx)⟩
  ·rintro⟨⟨⟨h1,h3⟩,h4⟩,⟨h6,h5⟩,h7⟩;refine ⟨h1,?_,h3,h4,h5,h6⟩
   cases prev with
   | none=>rfl
   | some k=>exact (h7 k rfl).1
theorem mayS_iff {s:State}:mayS s=true↔MayS s:=by
 unfold mayS;simp only [Yb,zpx,zpy]
 constructor
 ·rintro⟨h1,⟨h2,h3,-⟩,h4,h5,-⟩;exact⟨h1,h2,h3,h4,h5⟩
 ·rintro⟨h1,h2,h3,h4,h5⟩;exact⟨h1,⟨h2,h3,by simp⟩,h4,h5,by simp⟩
def updS (s:State) (p:Str) (o:OpD):State × Nat :=
 if p = [] ∨ mayS s=false then (za1,2) else if 281474976710656<=ofM s.all p then (za1,9) else if za4 s.entries o.2.1=none/\256<=s.entries.length then (za1,6) else
 if (updE ((za4 s.entries o.2.1).getD zak) o (p,ofM s.all p+1)).2=0 then (⟨setM s.all p (ofM s.all p+1),zcg s.entries o.2.1 (updE ((za4 s.entries o.2.1).getD zak) o (p,ofM s.all p+1)).1,s.pruned⟩,0)
 else (za1,(updE ((za4 s.entries o.2.1).getD zak) o (p,ofM s.all p+1)).2)
theorem zdx {κ:Type} [DecidableEq κ]:∀ (a b:List κ),a.Nodup->(∀ x ∈ a,x ∈ b)->a.length<=b.length
 | [],b,_,_=>Yc _
 | x :: r,b,hn,hs=>by
  obtain⟨h1,h2⟩:=Vp.1 hn;have hx:=hs x (by simp);have ih:=zdx r (b.erase x) h2 fun y hy=>(List.mem_erase_of_ne (by rintro rfl;exact h1 hy)).2 (hs y (by simp [hy]))
  rw [List.length_erase_of_mem hx] at ih;have:0 < b.length:=List.length_pos_of_mem hx;rw [Qp];omega
theorem zz7 {l:List Mark} (hg:GoodM l) {s:Str}:s ∈ l.map (·.1)↔ofM l s ≠ 0:=by
 constructor
 ·intro h;obtain⟨m,hm,rfl⟩:=Qg.1 h;have:=hg.2 m hm;rw [hg.1.of hm this.1];omega
 ·intro h;obtain⟨m,hm,h1,-,-⟩:=ziz h;exact Qg.2 ⟨m,hm,h1⟩
theorem zs9 {l:List Mark} (hg:GoodM l):(l.map (·.1)).Nodup:=by
 unfold Vu;rw [Qr];exact hg.1.imp fun h=>zck h
theorem putEnts_mem {l:List Entry} {k:Str} {e x:Entry}:x ∈ zcg l k e↔x=e ∨ (x ∈ l/\x.key ≠ k):=by
 unfold zcg;rw [Qm,Qh,Qk,Qk]
 constructor
 ·rintro (⟨h1,h2⟩ | rfl | ⟨h1,h2⟩)
  ·exact .inr ⟨h1,zck h2⟩
  ·exact .inl rfl
  ·exact .inr ⟨h1,(zck h2).symm⟩
 ·rintro (rfl | ⟨h1,h2⟩)
  ·exact .inr (.inl rfl)
  ·rcases zcj x.key k with h | h | h
   ·exact .inl ⟨h1,h⟩
   ·exact absurd h h2
   ·exact .inr (.inr ⟨h1,h⟩)
theorem zro {l:List Entry} {k:Str} {e:Entry} (hR:RiseS (l.map (·.key))) (hk:e.key=k):RiseS ((zcg l k e).map (·.key)):=by
 unfold RiseS at hR ⊢;rw [Qr] at hR ⊢;unfold zcg;refine Vt.2 ⟨hR.filter _,Qf.2 ⟨fun x hx=>?_,hR.filter _⟩,fun x hx y hy=>?_⟩
 ·rw [hk];exact (Qk.1 hx).2
 ·have h1:=(Qk.1 hx).2;rcases Qh.1 hy with rfl | hy
  ·rw [hk];exact h1
  ·exact zay h1 (Qk.1 hy).2
theorem zpz {l:List Entry} (hR:RiseS (l.map (·.key))) {a b:Entry} (ha:a ∈ l) (hb:b ∈ l) (e:a.key=b.key):a=b:=by
 unfold RiseS at hR;rw [Qr] at hR
 induction l with
 | nil=>cases ha
 | cons x r ih =>
  obtain⟨h1,h2⟩:=Qf.1 hR;rcases Qh.1 ha with e1 | ha'
  ·rcases Qh.1 hb with e2 | hb'
   ·rw [e1,e2]
   ·rw [e1] at e;exact absurd e (zck (h1 b hb'))
  ·rcases Qh.1 hb with e2 | hb'
   ·rw [e2] at e;exact absurd e.symm (zck (h1 a ha'))
   ·exact ih h2 ha' hb'
theorem zrp {l:List Entry} (hR:RiseS (l.map (·.key))) {x:Entry} (hx:x ∈ l):za4 l x.key=some x:=by
 cases h:za4 l x.key with
 | none=>unfold za4 at h;have:=Vf.1 h x hx;simp at this
 | some y=>rw [zpz hR (zjy h) hx (zpt h)]
end
section
open Go.RowKit Go.Shelf
abbrev dltV (v0 v1 v2 v3:Value):Value:=.agg #[v0,v1,v2,v3]
def zde (base:List Mark) (e:Entry):Bool:=!zbm base e.seen
def zic (s:State) (base:List Mark):State:=⟨s.all,s.entries.filter (zde base),s.pruned⟩
abbrev put4 (w:World) (q:Nat) (v0 v1 v2 v3:Value):World:=(((w.setCell ⟨q,0,none⟩ v0).setCell ⟨q,1,none⟩ v1).setCell ⟨q,2,none⟩ v2).setCell ⟨q,3,none⟩ v3
theorem zz8 {w wr:World} {q:Nat} (hx:Ext w wr) (hq:w.heap.size<=q) (v0 v1 v2 v3:Value):Ext w (put4 wr q v0 v1 v2 v3) :=
 (((hx.set (p:=⟨q,0,none⟩) hq _).set (p:=⟨q,1,none⟩) hq _).set (p:=⟨q,2,none⟩) hq _).set (p:=⟨q,3,none⟩) hq _
theorem zx3 (w:World) (q:Nat) (v0 v1 v2 v3:Value) (b:Nat) (hb:b ≠ q):(put4 w q v0 v1 v2 v3).heap[b]? = w.heap[b]? :=
 (((Qe _ _ _ b hb).trans (Qe _ _ _ b hb)).trans (Qe _ _ _ b hb)).trans (Qe _ _ _ b hb)
theorem zod {S S0:Nat->Prop} {s:State} {v1 v2 v3 vb:Value} {base:List Mark} {w:World} (h:StAt w S s v1 v2 v3) (hb:Sl markT w S0 vb base) (sm:SmallS s) (hbl:base.length<=549755813888) :
  Calls Tryz.prog 27 #[stV v1 v2 v3,vb] w fun r w'=>∃ u0 u1 u2 u3,r=.returned (dltV u0 u1 u2 u3)/\Own w' w.heap.size 97 2 u0 (za0 base []).length ((za0 base []).flatMap zaj)/\StNew w' w.heap.size (zic s base) u1 u2 u3/\Ext w w':=by
 obtain⟨sa,se,sp⟩:=s;obtain⟨A1,n1,A2,n2,A3,n3,rfl,rfl,rfl⟩:=h.fm;obtain⟨A0,n0,rfl,-,-⟩:=hb.form;have h':=h.entries;have HAT:=zH (fun (pre post:List Entry) (m:Entry) (wr:World) (hx:Ext w wr) (hl:se=pre++m :: post)=>zea h' hx hl);have H:=zH h;have HB0:=zH hb;have SM:=zH sm;have HSI:=zH (show zic ⟨sa,se,sp⟩ base=⟨sa,se.filter (zde base),sp⟩ from rfl);have hx0:Ext w ((w.alloc (.cells #[.slice A1 sa.length n1,.slice A2 se.length n2,.slice A3 sp.length n3] 26)).alloc (.cells #[.slice none 0 0,.slice none 0 0,.slice none 0 0,.slice none 0 0] 83)):=((Ext.refl w).alloc _).alloc _;have rB0:RowIs ((w.alloc (.cells #[.slice A1 sa.length n1,.slice A2 se.length n2,.slice A3 sp.length n3] 26)).alloc (.cells #[.slice none 0 0,.slice none 0 0,.slice none 0 0,.slice none 0 0] 83)) w.heap.size 26 [.slice A1 sa.length n1,.slice A2 se.length n2,.slice A3 sp.length n3] []:=(zaf w 26 [.slice A1 sa.length n1,.slice A2 se.length n2,.slice A3 sp.length n3]).alloc _;have rR0:RowIs ((w.alloc (.cells #[.slice A1 sa.length n1,.slice A2 se.length n2,.slice A3 sp.length n3] 26)).alloc (.cells #[.slice none 0 0,.slice none 0 0,.slice none 0 0,.slice none 0 0] 83)) (w.heap.size+1) 83 [.slice none 0 0,.slice none 0 0,.slice none 0 0,.slice none 0 0] []:=by have h:=zaf (w.alloc (.cells #[.slice A1 sa.length n1,.slice A2 se.length n2,.slice A3 sp.length n3] 26)) 83 [.slice none 0 0,.slice none 0 0,.slice none 0 0,.slice none 0 0];simp only [Ye] at h;exact h
 have hz0:w.heap.size+2<=((w.alloc (.cells #[.slice A1 sa.length n1,.slice A2 se.length n2,.slice A3 sp.length n3] 26)).alloc (.cells #[.slice none 0 0,.slice none 0 0,.slice none 0 0,.slice none 0 0] 83)).heap.size:=by simp
 have HJ:=zH (zjb (hb.ext (by decide) hx0) (Sl.nil (S:=fun _=>True) (T:=markT) none 0 (by decide)) (Qc hbl (by decide)) (by decide));clear h h' sm hb;go_enter Tryz.func27,Tryz.ntmps27;go_wp2_with fail;generalize ((w.alloc (.cells #[.slice A1 sa.length n1,.slice A2 se.length n2,.slice A3 sp.length n3] 26)).alloc (.cells #[.slice none 0 0,.slice none 0 0,.slice none 0 0,.slice none 0 0] 83))=W0 at *;refine HJ.out.mono ?_;rintro r W1 ⟨v0,rfl,ho0,hx1⟩;generalize hJB:za0 base []=JB at *;have HJB:=zH hJB;clear hJB HJ;obtain⟨B0,m0,rfl,-,-⟩:=ho0.form;have hz1:=Qc hz0 hx1.size;have hx2:=(Ext.refl W1).alloc (.cells #[.slice B0 JB.length m0,.slice none 0 0,.slice none 0 0,.slice none 0 0] 83);have rG0:=zaf W1 83 [.slice B0 JB.length m0,.slice none 0 0,.slice none 0 0,.slice none 0 0];have rB1:=(rB0.ext hx1).ext hx2;have rR1:=(rR0.ext hx1).ext hx2;have ho01:=(ho0.ext hx2).lower hz0;have hxw1:=(hx0.trans hx1).trans hx2;have b0:=rB1.cell (j:=0) rfl;have HC:=zH (zik ((H.out.all.ext (by decide) hxw1)) (Qc SM.out.all (by decide)));have hzz:(W1.alloc (.cells #[.slice B0 JB.length m0,.slice none 0 0,.slice none 0 0,.slice none 0 0] 83)).heap.size=W1.heap.size+1:=by simp
 clear ho0 hx0 hx1 hx2 rB0 rR0 hz0;go_wp2_with fail;generalize W1.alloc (.cells #[.slice B0 JB.length m0,.slice none 0 0,.slice none 0 0,.slice none 0 0] 83)=W2 at *;refine HC.out.mono ?_;rintro r W3 ⟨vc1,rfl,hc1,hx3⟩;have ho1:=(own_markT.1 hc1).lower (base':=w.heap.size+2) (by omega);obtain⟨B1,m1,rfl,-,-⟩:=ho1.form;have hg:W1.heap.size < W3.heap.size:=by have:=hx3.size;omega
 have rG3:=rG0.ext hx3;have g1f:=rG3.frozen 1;have g1c:=rG3.cell (j:=1) rfl;have rG4:=rG3.set (j:=1) (by simp) (.slice B1 sa.length m1);simp only [Ya,Qv] at rG4;have hk4:∀ b,b ≠ W1.heap.size->(W3.setCell ⟨W1.heap.size,1,none⟩ (.slice B1 sa.length m1)).heap[b]? = W3.heap[b]?:=fun b hb=>Qe _ _ _ _ hb
 have rB4:=(rB1.ext hx3).keep (hk4 _ (by omega));have rR4:=(rR1.ext hx3).keep (hk4 _ (by omega));have ho04:=(ho01.ext hx3).keep (w':=W3.setCell ⟨W1.heap.size,1,none⟩ (.slice B1 sa.length m1)) fun b hb _=>hk4 b (fun e=>by subst e;exact (ho01.ext hx3).apart rG3 (by decide) hb)
 have ho14:=ho1.keep (w':=W3.setCell ⟨W1.heap.size,1,none⟩ (.slice B1 sa.length m1)) fun b hb _=>hk4 b (fun e=>by subst e;exact ho1.apart rG3 (by decide) hb)
 have hxw4:=(hxw1.trans hx3).set (p:=⟨W1.heap.size,1,none⟩) (by simp;omega) (.slice B1 sa.length m1);have hz4:W1.heap.size < (W3.setCell ⟨W1.heap.size,1,none⟩ (.slice B1 sa.length m1)).heap.size:=by rw [Qx];exact hg
 have b2:=rB4.cell (j:=2) rfl;have HC2:=zH (zpa ((H.out.pruned.ext (by decide) hxw4)) (Qc SM.out.pruned (by decide)));clear hc1 ho1 rG3 rB1 rR1 rG0 ho01 hxw1 hx3 hk4 b0 HC hzz;go_wp2_with fail;generalize W3.setCell ⟨W1.heap.size,1,none⟩ (.slice B1 sa.length m1)=W4 at *;refine HC2.out.mono ?_;rintro r W5 ⟨vc3,rfl,hc3,hx5⟩;have ho3:=(OwnL.flat_iff.1 hc3).lower (base':=w.heap.size+2) (by omega);obtain⟨B3,m3,rfl,-,-⟩:=ho3.form;have rG5:=rG4.ext hx5;have g3f:=rG5.frozen 3;have g3c:=rG5.cell (j:=3) rfl;have rG6:=rG5.set (j:=3) (by simp) (.slice B3 sp.length m3);simp only [Ya,Qv] at rG6;have hk6:∀ b,b ≠ W1.heap.size->(W5.setCell ⟨W1.heap.size,3,none⟩ (.slice B3 sp.length m3)).heap[b]? = W5.heap[b]?:=fun b hb=>Qe _ _ _ _ hb
 have rB6:=(rB4.ext hx5).keep (hk6 _ (by omega));have rR6:=(rR4.ext hx5).keep (hk6 _ (by omega));have ho06:=(ho04.ext hx5).keep (w':=W5.setCell ⟨W1.heap.size,3,none⟩ (.slice B3 sp.length m3)) fun b hb _=>hk6 b (fun e=>by subst e;exact (ho04.ext hx5).apart rG5 (by decide) hb)
 have ho16:=(ho14.ext hx5).keep (w':=W5.setCell ⟨W1.heap.size,3,none⟩ (.slice B3 sp.length m3)) fun b hb _=>hk6 b (fun e=>by subst e;exact (ho14.ext hx5).apart rG5 (by decide) hb)
 have ho36:=ho3.keep (w':=W5.setCell ⟨W1.heap.size,3,none⟩ (.slice B3 sp.length m3)) fun b hb _=>hk6 b (fun e=>by subst e;exact ho3.apart rG5 (by decide) hb)
 have hxw6:=(hxw4.trans hx5).set (p:=⟨W1.heap.size,3,none⟩) (by simp;omega) (.slice B3 sp.length m3);have b1:=rB6.cell (j:=1) rfl;have HX6:=zH hxw6;have HI6:=zH (show RowIs (W5.setCell ⟨W1.heap.size,3,none⟩ (.slice B3 sp.length m3)) W1.heap.size 83 [.slice B0 JB.length m0,.slice B1 sa.length m1,(.slice none 0 0),.slice B3 sp.length m3] []/\Own (W5.setCell ⟨W1.heap.size,3,none⟩ (.slice B3 sp.length m3)) (w.heap.size+2) 97 2 (.slice B0 JB.length m0) JB.length (JB.flatMap zaj)/\Own (W5.setCell ⟨W1.heap.size,3,none⟩ (.slice B3 sp.length m3)) (w.heap.size+2) 97 2 (.slice B1 sa.length m1) sa.length (sa.flatMap zaj)/\Own (W5.setCell ⟨W1.heap.size,3,none⟩ (.slice B3 sp.length m3)) (w.heap.size+2) 9 1 (.slice B3 sp.length m3) sp.length (sp.flatMap strC)/\RowE (W5.setCell ⟨W1.heap.size,3,none⟩ (.slice B3 sp.length m3)) (w.heap.size+2) W1.heap.size (.slice none 0 0) []/\RowIs (W5.setCell ⟨W1.heap.size,3,none⟩ (.slice B3 sp.length m3)) (w.heap.size+1) 83 [.slice none 0 0,.slice none 0 0,.slice none 0 0,.slice none 0 0] [] from ⟨rG6,ho06,ho16,ho36,RowE.nil _ _ _ _,rR6⟩);generalize hgE:W1.heap.size=g at *;clear hc3 ho3 rG4 rG5 rG6 rB4 rB6 rR4 rR6 ho04 ho06 ho14 ho16 ho36 hxw4 hxw6 hx5 hk6 b2 HC2 hgE;go_wp2_with fail;generalize W5.setCell ⟨g,3,none⟩ (.slice B3 sp.length m3)=W6 at *
 go_loopw [24] (fun i wr=>∃ pre post vE,se=pre++post/\i=I pre.length/\Hid (RowIs wr g 83 [.slice B0 JB.length m0,.slice B1 sa.length m1,vE,.slice B3 sp.length m3] []/\Own wr (w.heap.size+2) 97 2 (.slice B0 JB.length m0) JB.length (JB.flatMap zaj)/\Own wr (w.heap.size+2) 97 2 (.slice B1 sa.length m1) sa.length (sa.flatMap zaj)/\Own wr (w.heap.size+2) 9 1 (.slice B3 sp.length m3) sp.length (sp.flatMap strC)/\RowE wr (w.heap.size+2) g vE (pre.filter (zde base))/\RowIs wr (w.heap.size+1) 83 [.slice none 0 0,.slice none 0 0,.slice none 0 0,.slice none 0 0] [])/\Ext w wr) (fun i _=>se.length - (intOf i).toNat)
 case atStart=>exact⟨[],se,.slice none 0 0,rfl,rfl,HI6,HX6.out⟩
 case round =>
  obtain⟨pre,post,vE,hl,rfl,hI,hx⟩:=hrel
  cases post with
  | cons m post =>
   obtain⟨b,o,a1,a2,a3,rfl,e0,e1,e2,e3,e4,e5,e6,hEA⟩:=HAT.out pre post m wr hx hl;obtain⟨C1,c1,C2,c2,C3,c3,rfl,rfl,rfl⟩:=hEA.fm;have hlt:pre.length < se.length:=(by rw [hl];simp);have HL:=zH hl;have hsm:=SM.out.each m (by show m ∈ se;rw [hl];simp);have hse:se.length<=549755813888:=SM.out.entries;have hpf:=Va (zde base) pre;generalize hpl:pre.filter (zde base)=pl at *;have HPL:=zH hpl;have hxb:=(Ext.refl wr).alloc (.cells #[St m.key,.slice C1 m.seen.length c1,.slice C2 m.counts.length c2,.slice C3 m.items.length c3,U m.cell.1,St m.cell.2.1,.bool m.cell.2.2] 46);have rb:=zaf wr 46 [St m.key,.slice C1 m.seen.length c1,.slice C2 m.counts.length c2,.slice C3 m.items.length c3,U m.cell.1,St m.cell.2.1,.bool m.cell.2.2];have hEAb:=(hEA.ext hx).ext hxb;have hxwb:=hx.trans hxb;have HB:=zH (show RowIs (wr.alloc (.cells #[St m.key,.slice C1 m.seen.length c1,.slice C2 m.counts.length c2,.slice C3 m.items.length c3,U m.cell.1,St m.cell.2.1,.bool m.cell.2.2] 46)) g 83 [.slice B0 JB.length m0,.slice B1 sa.length m1,vE,.slice B3 sp.length m3] []/\Own (wr.alloc (.cells #[St m.key,.slice C1 m.seen.length c1,.slice C2 m.counts.length c2,.slice C3 m.items.length c3,U m.cell.1,St m.cell.2.1,.bool m.cell.2.2] 46)) (w.heap.size+2) 97 2 (.slice B0 JB.length m0) JB.length (JB.flatMap zaj)/\Own (wr.alloc (.cells #[St m.key,.slice C1 m.seen.length c1,.slice C2 m.counts.length c2,.slice C3 m.items.length c3,U m.cell.1,St m.cell.2.1,.bool m.cell.2.2] 46)) (w.heap.size+2) 97 2 (.slice B1 sa.length m1) sa.length (sa.flatMap zaj)/\Own (wr.alloc (.cells #[St m.key,.slice C1 m.seen.length c1,.slice C2 m.counts.length c2,.slice C3 m.items.length c3,U m.cell.1,St m.cell.2.1,.bool m.cell.2.2] 46)) (w.heap.size+2) 9 1 (.slice B3 sp.length m3) sp.length (sp.flatMap strC)/\RowE (wr.alloc (.cells #[St m.key,.slice C1 m.seen.length c1,.slice C2 m.counts.length c2,.slice C3 m.items.length c3,U m.cell.1,St m.cell.2.1,.bool m.cell.2.2] 46)) (w.heap.size+2) g vE pl/\RowIs (wr.alloc (.cells #[St m.key,.slice C1 m.seen.length c1,.slice C2 m.counts.length c2,.slice C3 m.items.length c3,U m.cell.1,St m.cell.2.1,.bool m.cell.2.2] 46)) (w.heap.size+1) 83 [.slice none 0 0,.slice none 0 0,.slice none 0 0,.slice none 0 0] [] from by obtain⟨i1,i2,i3,i4,i5,i6⟩:=hI.out;exact⟨i1.ext hxb,i2.ext hxb,i3.ext hxb,i4.ext hxb,i5.ext hxb,i6.ext hxb⟩);have q1:=rb.cell (j:=1) rfl;have HCV:=zH (zil ((HB0.out.ext (by decide) hx).ext (by decide) hxb) hEAb.seen (Qc hbl (by decide)) (Qc hsm.seen (by decide)));have HEAb:=zH hEAb;clear hl hpl hEA hEAb hI hx hxb;go_wp2_with fail;generalize wr.alloc (.cells #[St m.key,.slice C1 m.seen.length c1,.slice C2 m.counts.length c2,.slice C3 m.items.length c3,U m.cell.1,St m.cell.2.1,.bool m.cell.2.2] 46)=Wb at *;refine HCV.out.mono ?_;rintro r Wc ⟨rfl,hxc⟩;have HC:=zH (show RowIs Wc g 83 [.slice B0 JB.length m0,.slice B1 sa.length m1,vE,.slice B3 sp.length m3] []/\Own Wc (w.heap.size+2) 97 2 (.slice B0 JB.length m0) JB.length (JB.flatMap zaj)/\Own Wc (w.heap.size+2) 97 2 (.slice B1 sa.length m1) sa.length (sa.flatMap zaj)/\Own Wc (w.heap.size+2) 9 1 (.slice B3 sp.length m3) sp.length (sp.flatMap strC)/\RowE Wc (w.heap.size+2) g vE pl/\RowIs Wc (w.heap.size+1) 83 [.slice none 0 0,.slice none 0 0,.slice none 0 0,.slice none 0 0] [] from by obtain⟨i1,i2,i3,i4,i5,i6⟩:=HB.out;exact⟨i1.ext hxc,i2.ext hxc,i3.ext hxc,i4.ext hxc,i5.ext hxc,i6.ext hxc⟩)
   have hxwc:=hxwb.trans hxc;have rc:=rb.ext hxc;have HEAc:=zH (HEAb.out.ext hxc);clear HB HCV HEAb hxwb rb hxc q1 e0 e1 e2 e3 e4 e5 e6
   cases hcv:zbm base m.seen with
   | true =>
    have HFL:=zH (show (pre++[m]).filter (zde base)=pl by rw [Yj,HPL.out];simp [zde,hcv]);have HX:=zH hxwc;clear hcv rc hxwc;go_wp2_with fail;go_roundw
    case rel=>exact⟨pre++[m],post,vE,by rw [HL.out];simp,by simp,by rw [HFL.out];exact HC,HX.out⟩
    case measure=>simp [intOf];omega
   | false =>
    have HFL:=zH (show (pre++[m]).filter (zde base)=pl++[m] by rw [Yj,HPL.out];simp [zde,hcv]);clear hcv;obtain⟨hgb,ho0b,ho1b,ho3b,hEb,hRb⟩:=HC.out;obtain⟨AE,cE,rfl,-,-⟩:=hEb.form;go_wp2_with fail;clear HC;have hgl:=hgb.lt;have hEl:∀ b,zad (.slice AE pl.length cE) b->b < Wc.heap.size:=fun b hb=>(hEb.base_le hb).2
    obtain⟨xE,hoE⟩:=hEb.own;have hEg:¬ zad (.slice AE pl.length cE) g:=hoE.apart hgb (by decide);have hEAb:=HEAc.out
    refine zjj [.early (fun v _=>v=.pointer (some ⟨g,1,none⟩)),.early (fun v _=>v=.pointer (some ⟨g,2,none⟩)),.early (fun v _=>v=.slice AE pl.length cE),.early (fun v _=>v=entV m (.slice C1 m.seen.length c1) (.slice C2 m.counts.length c2) (.slice C3 m.items.length c3)),
     .early (fun v W=>∃ u1 u2 u3,v=entV m u1 u2 u3/\EntNew W Wc.heap.size m u1 u2 u3),
     .early (fun v W=>∃ h u1 u2 u3,v=.slice (some ⟨h,0,none⟩) 1 1/\Wc.heap.size<=h/\RowIs W h 46 (entL m u1 u2 u3) []/\EntNew W Wc.heap.size m u1 u2 u3),
     .move (fun v W=>RowE W (w.heap.size+2) g v (pl++[m])),.late (fun v _=>v=.pointer (some ⟨g,1,none⟩)),.late (fun v _=>v=.pointer (some ⟨g,2,none⟩))] 6 (fun W=>Ext Wc W) (fun W=>Moved (.slice AE pl.length cE) Wc W) Ext (MvR (.slice AE pl.length cE)) rfl (by kernel_rfl) (by kernel_rfl) ?hR ?hRq ?hJ ?hstep ?hend
    case hR=>simp only [zM,HF.fact];exact⟨kP,kP,kP,kP,fun v _ _ h he=>by obtain⟨u1,u2,u3,e,a⟩:=h;exact⟨u1,u2,u3,e,a.ext he⟩,fun v _ _ h he=>by obtain⟨k,u1,u2,u3,e,a,b,c⟩:=h;exact⟨k,u1,u2,u3,e,a,b.ext he,c.ext he⟩,fun v _ _ h he=>h.ext he,kP,kP⟩
    case hRq =>
     simp only [zM,HF.fact,HF.isStore]
     exact⟨fun _ v _ _ h _=>h,fun _ v _ _ h _=>h,fun _ v _ _ h _=>h,fun _ v _ _ h _=>h,fun _ v _ _ h he=>by obtain⟨u1,u2,u3,e,a⟩:=h;exact⟨u1,u2,u3,e,a.mvR he hEl⟩,
      fun _ v _ _ h he=>by obtain⟨k,u1,u2,u3,e,a,b,c⟩:=h;exact⟨k,u1,u2,u3,e,a,b.mvR he (fun ho=>by have:=hEl k ho;omega),c.mvR he hEl⟩,fun h=>(by cases h),fun _ v _ _ h _=>h,fun _ v _ _ h _=>h⟩
    case hJ=>exact (Ext.refl Wc).drew
    case hstep =>
     simp only [zS,zD,Yo,zes]
     and_intros
     ·intro x W hj f;have h:x 5=.pointer (some ⟨g,0,none⟩):=f.1;go_wp;exact zai rfl ⟨hj,Ext.refl _⟩
     ·intro x W hj f;have h:_=_:=f.1;go_wp;exact zai rfl ⟨hj,Ext.refl _⟩
     ·intro x W hj f;have h:_=_:=f.1;have hc:=(hgb.ext hj).cell (j:=2) rfl;go_wp;exact zai rfl ⟨hj,Ext.refl _⟩
     ·intro x W hj f;have h:x 7=.pointer (some ⟨wr.heap.size,0,none⟩):=f.1;obtain⟨q0,q1,q2,q3,q4,q5,q6⟩:=(rc.ext hj).p7;go_wp;exact zai rfl ⟨hj,Ext.refl _⟩
     ·intro x W hj f;have h:_=_:=f.1;have hs:=hj.size;have HC:=zH (zgs (hEAb.ext hj) (Qc hsm.seen (by decide)) (Qc hsm.counts (by decide)) (Qc hsm.items (by decide)) (fun it hit=>Qc (hsm.dots it hit) (by decide)));go_wp;refine HC.out.mono ?_;rintro r W2 ⟨u1,u2,u3,rfl,hn,hx2⟩;dsimp only;go_wp;exact zai (v:=entV m u1 u2 u3) ⟨u1,u2,u3,rfl,hn.lower hs⟩ ⟨hj.trans hx2,hx2⟩
     ·intro x W hj f;obtain⟨u1,u2,u3,h,hn⟩:∃ u1 u2 u3,x 37=entV m u1 u2 u3/\EntNew W Wc.heap.size m u1 u2 u3:=f.1;have hs:=hj.size;obtain⟨D1,d1,D2,d2,D3,d3,rfl,rfl,rfl⟩:=hn.fm;have hrow:=zaf W 46 (entL m (.slice D1 m.seen.length d1) (.slice D2 m.counts.length d2) (.slice D3 m.items.length d3));have hxa:=(Ext.refl W).alloc (.cells (entL m (.slice D1 m.seen.length d1) (.slice D2 m.counts.length d2) (.slice D3 m.items.length d3)).toArray 46);go_wp;exact zai (v:=.slice (some ⟨W.heap.size,0,none⟩) 1 1) ⟨W.heap.size,_,_,_,rfl,hs,hrow,hn.ext hxa⟩ ⟨hj.trans hxa,hxa⟩
     ·intro x W hj f;have h21:_=_:=f.1;obtain⟨k,u1,u2,u3,h24,hk,hrow,hn⟩:∃ h u1 u2 u3,x 38=.slice (some ⟨h,0,none⟩) 1 1/\Wc.heap.size<=h/\RowIs W h 46 (entL m u1 u2 u3) []/\EntNew W Wc.heap.size m u1 u2 u3:=f.2.1;have hs:=hj.size;have hone:=zgm (hn.rd (S:=fun _=>True) (fun _ _ _=>trivial));obtain⟨vss,g1,g2,g3⟩:=hEb.ext hj
      refine zal rfl (.tmp 35) (.tmp 38) 23 rfl (w.heap.size+2) 46 7 120 zeroEnt Tryz.underlying23 zc0 rfl (by omega) (.slice AE pl.length cE) pl.length vss.flatten (by simp [go_sem,h21]) g3 (some ⟨k,0,none⟩) 1 1 (entL m u1 u2 u3) (by simp [go_sem,h24])
       ⟨by simp,hone,fun _=>⟨k,0,rfl,fun j u hj=>by rw [Yr];exact hrow.cell hj⟩⟩ (by omega) (by omega) (by omega) ?_
      intro v' w' hown hgr;exact zai (RowE.snoc g1 g2 hn hEl hgl (by omega) hown hgr) ⟨Grew.moved hj hgr,hgr.size,hgr.same⟩
     ·intro x W b hj f;have h:x 5=.pointer (some ⟨g,0,none⟩):=f.1;go_wp;exact zai rfl ⟨hj,Ext.refl _⟩
     ·intro x W b hj f;have h:_=_:=f.1;go_wp;exact zai rfl ⟨hj,Ext.refl _⟩
    case hend =>
     intro x W hj f;have h25:RowE W (w.heap.size+2) g (x 39) (pl++[m]):=f.2.2.2.2.2.2.1;have h26:x 41=.pointer (some ⟨g,2,none⟩):=f.2.2.2.2.2.2.2.2.1;clear f;obtain⟨AF,cF,hF,-,-⟩:=h25.form;rw [show (pl++[m]).length=pl.length+1 by simp] at hF;simp only [zS,zD,zU,Yo,Ve,zav,Act.put,h26,hF];rw [hF] at h25;have hgW:=hgb.mvR hj.mv hEg;have hRW:=hRb.mvR hj.mv (hoE.apart hRb (by decide));have ho0W:=ho0b.mvR hj.mv (ho0b.apart2 hoE (by decide));have ho1W:=ho1b.mvR hj.mv (ho1b.apart2 hoE (by decide));have ho3W:=ho3b.mvR hj.mv (ho3b.apart2 hoE (by decide));have hxW:=hxwc.moved hj (fun b hb=>by have:=(hEb.base_le hb).1;omega);have hf:=hgW.frozen 2;have hc:=hgW.cell (j:=2) rfl;have hgS:=hgW.set (j:=2) (by simp) (.slice AF (pl.length+1) cF);simp only [Ya,Qv] at hgS;have hkk:∀ b,b ≠ g->(W.setCell ⟨g,2,none⟩ (.slice AF (pl.length+1) cF)).heap[b]? = W.heap[b]?:=fun b hb=>Qe _ _ _ _ hb
     have HI:=zH (show RowIs (W.setCell ⟨g,2,none⟩ (.slice AF (pl.length+1) cF)) g 83 [.slice B0 JB.length m0,.slice B1 sa.length m1,(.slice AF (pl.length+1) cF),.slice B3 sp.length m3] []/\Own (W.setCell ⟨g,2,none⟩ (.slice AF (pl.length+1) cF)) (w.heap.size+2) 97 2 (.slice B0 JB.length m0) JB.length (JB.flatMap zaj)/\Own (W.setCell ⟨g,2,none⟩ (.slice AF (pl.length+1) cF)) (w.heap.size+2) 97 2 (.slice B1 sa.length m1) sa.length (sa.flatMap zaj)/\Own (W.setCell ⟨g,2,none⟩ (.slice AF (pl.length+1) cF)) (w.heap.size+2) 9 1 (.slice B3 sp.length m3) sp.length (sp.flatMap strC)/\RowE (W.setCell ⟨g,2,none⟩ (.slice AF (pl.length+1) cF)) (w.heap.size+2) g (.slice AF (pl.length+1) cF) (pl++[m])/\RowIs (W.setCell ⟨g,2,none⟩ (.slice AF (pl.length+1) cF)) (w.heap.size+1) 83 [.slice none 0 0,.slice none 0 0,.slice none 0 0,.slice none 0 0] [] from
      ⟨hgS,ho0W.keep fun b hb _=>hkk b (fun e=>by subst e;exact ho0W.apart hgW (by decide) hb),ho1W.keep fun b hb _=>hkk b (fun e=>by subst e;exact ho1W.apart hgW (by decide) hb),ho3W.keep fun b hb _=>hkk b (fun e=>by subst e;exact ho3W.apart hgW (by decide) hb),
       h25.set hgW (by decide),hRW.other (by simp;omega) _⟩)
     have HXW:=zH (hxW.set (p:=⟨g,2,none⟩) (by simp;omega) (.slice AF (pl.length+1) cF));clear h25 hgS hgW hRW ho0W ho1W ho3W hxW hgb hRb ho0b ho1b ho3b hEb hoE hEAb rc;go_wp;exact⟨⟨pre++[m],post,_,by rw [HL.out];simp,by simp,by rw [HFL.out];exact HI,HXW.out⟩,by simp [intOf];omega⟩
  | nil =>
   rw [Yp] at hl;subst hl;generalize hpl:se.filter (zde base)=pl at *;have HPL:=zH hpl;clear hpl;obtain⟨hg,ho0,ho1,ho3,hE,hR⟩:=hI.out;obtain⟨AE,cE,rfl,-,-⟩:=hE.form;obtain⟨k0,k1,k2,k3⟩:=hg.p4;obtain⟨r0,r1,r2,r3⟩:=hR.p4;obtain⟨f0,f1,f2,f3⟩:=hR.q4;have HI:=hI;have HX:=zH hx;clear hI hg ho0 ho1 ho3 hE hR hx;go_wp2_with fail
   (try simp only [Exit.inBlock,Exit.then])
   refine bodyPost_ret (v:=dltV (.slice B0 JB.length m0) (.slice B1 sa.length m1) (.slice AE pl.length cE) (.slice B3 sp.length m3)) (by simp [results,Tryz.f27,go_sem,r0,r1,r2,r3]) rfl ?_;obtain⟨hg,ho0,ho1,ho3,hE,hR⟩:=HI.out;have hk:=zx3 wr (w.heap.size+1) (.slice B0 JB.length m0) (.slice B1 sa.length m1) (.slice AE pl.length cE) (.slice B3 sp.length m3);refine ⟨.slice B0 JB.length m0,.slice B1 sa.length m1,.slice AE pl.length cE,.slice B3 sp.length m3,rfl,?_,?_,?_⟩
   ·rw [HJB.out];exact (ho0.keep fun b hb _=>hk b (by have:=(ho0.base_le hb).1;omega)).lower (by omega)
   ·rw [HSI.out];refine ⟨?_,?_,?_⟩
    ·exact (ho1.keep fun b hb _=>hk b (by have:=(ho1.base_le hb).1;omega)).lower (by omega)
    ·exact (OwnL.lower (OwnL.mono (OwnL.keep (w':=put4 wr (w.heap.size+1) (.slice B0 JB.length m0) (.slice B1 sa.length m1) (.slice AE pl.length cE) (.slice B3 sp.length m3)) hE (fun b hb _=>hk b (by have:=hb.1;omega)) (fun b hb _=>hk b (by have:=(hE.base_le hb).1;omega))) (S':=fun b=>w.heap.size<=b/\¬ zad (.slice AE pl.length cE) b) fun b _ hb=>⟨by have:=hb.1;omega,hb.2.2⟩) (by omega))
    ·exact (ho3.keep fun b hb _=>hk b (by have:=(ho3.base_le hb).1;omega)).lower (by omega)
   ·exact zz8 HX.out (by omega) _ _ _ _
def zdb (ps:List Str) (m:Mark):Bool:=!decide (m.1 ∈ setL ps)
def zhe (s:State) (base:List Mark) (d:State):State × Nat :=
 if zbm s.all (base.filter (zdb (s.pruned++d.pruned))) then (zb9 s d,0) else (za1,160)
def zoe (sp tp:List Str):Nat->List Str
 | 0=>[]
 | 1=>sp
 | _=>sp++tp
theorem zu7 {S1 S2 S0:Nat->Prop} {s d:State} {a1 a2 a3 b0 b1 b2 b3:Value} {db:List Mark} {w:World} (h:StAt w S1 s a1 a2 a3) (hd:StAt w S2 d b1 b2 b3) (hb:Sl markT w S0 b0 db) (sm:SmallS s) (smd:SmallS d) (hbl:db.length<=549755813888) :
  Calls Tryz.prog 28 #[stV a1 a2 a3,dltV b0 b1 b2 b3] w fun r w'=>∃ u1 u2 u3,r=.returned (.tuple #[stV u1 u2 u3,I (zhe s db d).2])/\StAt w' (fun b=>w.heap.size<=b) (zhe s db d).1 u1 u2 u3/\Ext w w':=by
 have HAP:=zH (show zhe s db d=if zbm s.all (db.filter (zdb (s.pruned++d.pruned))) then (zb9 s d,0) else (za1,160) from rfl);obtain⟨sa,se,sp⟩:=s;obtain⟨ta,te,tp⟩:=d;obtain⟨A1,n1,A2,n2,A3,n3,rfl,rfl,rfl⟩:=h.fm;obtain⟨B1,m1,B2,m2,B3,m3,rfl,rfl,rfl⟩:=hd.fm;obtain⟨B0,m0,rfl,-,-⟩:=hb.form;have h':=h.pruned;have h'':=hd.pruned;have hb':=hb;have HPT1:=zH (fun (pre post:List Str) (m:Str) (wr:World) (hx:Ext w wr) (hl:sp=pre++m :: post)=>zg0 h' hx hl);have HPT2:=zH (fun (pre post:List Str) (m:Str) (wr:World) (hx:Ext w wr) (hl:tp=pre++m :: post)=>zg0 h'' hx hl);have HMT:=zH (fun (pre post:List Mark) (m:Mark) (wr:World) (hx:Ext w wr) (hl:db=pre++m :: post)=>zf1 hb' hx hl);have H:=zH h;have HD:=zH hd;have SM:=zH sm;have SMD:=zH smd;have hmm:=@run_makeMap Tryz.prog;have hx0:Ext w ((((w.alloc (.cells #[.slice A1 sa.length n1,.slice A2 se.length n2,.slice A3 sp.length n3] 26)).alloc (.cells #[.slice B0 db.length m0,.slice B1 ta.length m1,.slice B2 te.length m2,.slice B3 tp.length m3] 83)).alloc (.cells #[.slice none 0 0,.slice none 0 0,.slice none 0 0] 26)).alloc (.map #[] 0)):=((((Ext.refl w).alloc _).alloc _).alloc _).alloc _;have hS0:SetOf St ((((w.alloc (.cells #[.slice A1 sa.length n1,.slice A2 se.length n2,.slice A3 sp.length n3] 26)).alloc (.cells #[.slice B0 db.length m0,.slice B1 ta.length m1,.slice B2 te.length m2,.slice B3 tp.length m3] 83)).alloc (.cells #[.slice none 0 0,.slice none 0 0,.slice none 0 0] 26)).alloc (.map #[] 0)) (w.heap.size+3) []:=by have h:=SetOf.new (K:=St) (((w.alloc (.cells #[.slice A1 sa.length n1,.slice A2 se.length n2,.slice A3 sp.length n3] 26)).alloc (.cells #[.slice B0 db.length m0,.slice B1 ta.length m1,.slice B2 te.length m2,.slice B3 tp.length m3] 83)).alloc (.cells #[.slice none 0 0,.slice none 0 0,.slice none 0 0] 26));simp only [Ye] at h;exact h
 have hz0:((((w.alloc (.cells #[.slice A1 sa.length n1,.slice A2 se.length n2,.slice A3 sp.length n3] 26)).alloc (.cells #[.slice B0 db.length m0,.slice B1 ta.length m1,.slice B2 te.length m2,.slice B3 tp.length m3] 83)).alloc (.cells #[.slice none 0 0,.slice none 0 0,.slice none 0 0] 26)).alloc (.map #[] 0)).heap.size=w.heap.size+4:=by simp
 have hxa:Ext w (((((w.alloc (.cells #[.slice A1 sa.length n1,.slice A2 se.length n2,.slice A3 sp.length n3] 26)).alloc (.cells #[.slice B0 db.length m0,.slice B1 ta.length m1,.slice B2 te.length m2,.slice B3 tp.length m3] 83)).alloc (.cells #[.slice none 0 0,.slice none 0 0,.slice none 0 0] 26)).alloc (.map #[] 0)).alloc (.cells #[.slice A3 sp.length n3,.slice B3 tp.length m3] 24)):=hx0.alloc _
 have hI0:RowIs (((((w.alloc (.cells #[.slice A1 sa.length n1,.slice A2 se.length n2,.slice A3 sp.length n3] 26)).alloc (.cells #[.slice B0 db.length m0,.slice B1 ta.length m1,.slice B2 te.length m2,.slice B3 tp.length m3] 83)).alloc (.cells #[.slice none 0 0,.slice none 0 0,.slice none 0 0] 26)).alloc (.map #[] 0)).alloc (.cells #[.slice A3 sp.length n3,.slice B3 tp.length m3] 24)) w.heap.size 26 [.slice A1 sa.length n1,.slice A2 se.length n2,.slice A3 sp.length n3] []/\RowIs (((((w.alloc (.cells #[.slice A1 sa.length n1,.slice A2 se.length n2,.slice A3 sp.length n3] 26)).alloc (.cells #[.slice B0 db.length m0,.slice B1 ta.length m1,.slice B2 te.length m2,.slice B3 tp.length m3] 83)).alloc (.cells #[.slice none 0 0,.slice none 0 0,.slice none 0 0] 26)).alloc (.map #[] 0)).alloc (.cells #[.slice A3 sp.length n3,.slice B3 tp.length m3] 24)) (w.heap.size+1) 83 [.slice B0 db.length m0,.slice B1 ta.length m1,.slice B2 te.length m2,.slice B3 tp.length m3] []/\RowIs (((((w.alloc (.cells #[.slice A1 sa.length n1,.slice A2 se.length n2,.slice A3 sp.length n3] 26)).alloc (.cells #[.slice B0 db.length m0,.slice B1 ta.length m1,.slice B2 te.length m2,.slice B3 tp.length m3] 83)).alloc (.cells #[.slice none 0 0,.slice none 0 0,.slice none 0 0] 26)).alloc (.map #[] 0)).alloc (.cells #[.slice A3 sp.length n3,.slice B3 tp.length m3] 24)) (w.heap.size+2) 26 [.slice none 0 0,.slice none 0 0,.slice none 0 0] []/\RowIs (((((w.alloc (.cells #[.slice A1 sa.length n1,.slice A2 se.length n2,.slice A3 sp.length n3] 26)).alloc (.cells #[.slice B0 db.length m0,.slice B1 ta.length m1,.slice B2 te.length m2,.slice B3 tp.length m3] 83)).alloc (.cells #[.slice none 0 0,.slice none 0 0,.slice none 0 0] 26)).alloc (.map #[] 0)).alloc (.cells #[.slice A3 sp.length n3,.slice B3 tp.length m3] 24)) (w.heap.size+4) 24 [.slice A3 sp.length n3,.slice B3 tp.length m3] []:=⟨((((zaf w 26 [.slice A1 sa.length n1,.slice A2 se.length n2,.slice A3 sp.length n3]).alloc _).alloc _).alloc _).alloc _,by have h:=zaf (w.alloc (.cells #[.slice A1 sa.length n1,.slice A2 se.length n2,.slice A3 sp.length n3] 26)) 83 [.slice B0 db.length m0,.slice B1 ta.length m1,.slice B2 te.length m2,.slice B3 tp.length m3];simp only [Ye] at h;exact ((h.alloc _).alloc _).alloc _,
  by have h:=zaf ((w.alloc (.cells #[.slice A1 sa.length n1,.slice A2 se.length n2,.slice A3 sp.length n3] 26)).alloc (.cells #[.slice B0 db.length m0,.slice B1 ta.length m1,.slice B2 te.length m2,.slice B3 tp.length m3] 83)) 26 [.slice none 0 0,.slice none 0 0,.slice none 0 0];simp only [Ye] at h;exact (h.alloc _).alloc _,by have h:=zaf ((((w.alloc (.cells #[.slice A1 sa.length n1,.slice A2 se.length n2,.slice A3 sp.length n3] 26)).alloc (.cells #[.slice B0 db.length m0,.slice B1 ta.length m1,.slice B2 te.length m2,.slice B3 tp.length m3] 83)).alloc (.cells #[.slice none 0 0,.slice none 0 0,.slice none 0 0] 26)).alloc (.map #[] 0)) 24 [.slice A3 sp.length n3,.slice B3 tp.length m3];simp only [Ye] at h;exact h⟩
 have HI0:=zH hI0;have HS0:=zH (hS0.ext ((Ext.refl _).alloc (.cells #[.slice A3 sp.length n3,.slice B3 tp.length m3] 24)));have HX0:=zH hxa;clear h h' h'' hb hb' hd sm smd hx0 hS0 hxa hI0;go_enter Tryz.func28,Tryz.ntmps28;go_wp2_with fail;generalize ((((w.alloc (.cells #[.slice A1 sa.length n1,.slice A2 se.length n2,.slice A3 sp.length n3] 26)).alloc (.cells #[.slice B0 db.length m0,.slice B1 ta.length m1,.slice B2 te.length m2,.slice B3 tp.length m3] 83)).alloc (.cells #[.slice none 0 0,.slice none 0 0,.slice none 0 0] 26)).alloc (.map #[] 0)).alloc (.cells #[.slice A3 sp.length n3,.slice B3 tp.length m3] 24)=W0 at *
 go_loopw [24] (fun i wr=>∃ j:Nat,j<=2/\i=I j/\SetOf St wr (w.heap.size+3) (setL (zoe sp tp j))/\Hid (RowIs wr w.heap.size 26 [.slice A1 sa.length n1,.slice A2 se.length n2,.slice A3 sp.length n3] []/\RowIs wr (w.heap.size+1) 83 [.slice B0 db.length m0,.slice B1 ta.length m1,.slice B2 te.length m2,.slice B3 tp.length m3] []/\RowIs wr (w.heap.size+2) 26 [.slice none 0 0,.slice none 0 0,.slice none 0 0] []/\RowIs wr (w.heap.size+4) 24 [.slice A3 sp.length n3,.slice B3 tp.length m3] [])/\Ext w wr) (fun i _=>2 - (intOf i).toNat)
 case atStart=>exact⟨0,by omega,rfl,HS0.out,HI0,HX0.out⟩
 case round =>
  obtain⟨j,hj,rfl,hS,hI,hx⟩:=hrel
  by_cases hlt:j < 2
  ·have hcur:∃ cur before A c,zoe sp tp j=before/\zoe sp tp (j+1)=before++cur/\wr.cell? ⟨w.heap.size+4,j,none⟩=some (.slice A cur.length c)/\cur.length<=549755813888/\(∀ (pre post:List Str) (m:Str) (wr:World) (hx:Ext w wr) (hl:cur=pre++m :: post),∃ b o,A=some ⟨b,o,none⟩/\wr.cell? ⟨b,o+pre.length,none⟩=some (St m)):=by
    have i4:=hI.out.2.2.2;rcases (show j=0 ∨ j=1 by omega) with rfl | rfl
    ·exact⟨sp,[],A3,n3,rfl,rfl,i4.cell (j:=0) rfl,SM.out.pruned,HPT1.out⟩
    ·exact⟨tp,sp,B3,m3,rfl,rfl,i4.cell (j:=1) rfl,SMD.out.pruned,HPT2.out⟩
   obtain⟨cur,before,A,c,hb1,hb2,hcell,hcl,hat⟩:=hcur;have HB1:=zH hb1;have HB2:=zH hb2;have HAT:=zH hat;rw [hb1] at hS;clear hb1 hb2 hat;have HS:=zH hS;have HX:=zH hx;clear hS hx;go_wp2_with fail
   go_loopw [30] (fun i wr=>∃ p2 q2,cur=p2++q2/\i=I p2.length/\SetOf St wr (w.heap.size+3) (setL (before++p2))/\Hid (RowIs wr w.heap.size 26 [.slice A1 sa.length n1,.slice A2 se.length n2,.slice A3 sp.length n3] []/\RowIs wr (w.heap.size+1) 83 [.slice B0 db.length m0,.slice B1 ta.length m1,.slice B2 te.length m2,.slice B3 tp.length m3] []/\RowIs wr (w.heap.size+2) 26 [.slice none 0 0,.slice none 0 0,.slice none 0 0] []/\RowIs wr (w.heap.size+4) 24 [.slice A3 sp.length n3,.slice B3 tp.length m3] [])/\Ext w wr) (fun i _=>cur.length - (intOf i).toNat)
   case atStart=>exact⟨[],cur,rfl,rfl,by rw [Yp];exact HS.out,hI,HX.out⟩
   case round =>
    clear HS HX hI hcell;obtain⟨p2,q2,hl2,rfl,hS2,hI2,hx2⟩:=hrel
    cases q2 with
    | cons m q2 =>
     obtain⟨b2,o2,rfl,e0⟩:=HAT.out p2 q2 m wr hx2 hl2;have hlt2:p2.length < cur.length:=(by rw [hl2];simp);obtain⟨wn,hup,hsn,htn⟩:=zc9 (P:=Tryz.prog) Tryz.underlying139 zd8 hS2 m;have HIn:=zH (show RowIs wn w.heap.size 26 [.slice A1 sa.length n1,.slice A2 se.length n2,.slice A3 sp.length n3] []/\RowIs wn (w.heap.size+1) 83 [.slice B0 db.length m0,.slice B1 ta.length m1,.slice B2 te.length m2,.slice B3 tp.length m3] []/\RowIs wn (w.heap.size+2) 26 [.slice none 0 0,.slice none 0 0,.slice none 0 0] []/\RowIs wn (w.heap.size+4) 24 [.slice A3 sp.length n3,.slice B3 tp.length m3] [] from by obtain⟨i1,i2,i3,i4⟩:=hI2.out;exact⟨i1.keep (htn.other _ (by omega)),i2.keep (htn.other _ (by omega)),i3.keep (htn.other _ (by omega)),i4.keep (htn.other _ (by omega))⟩);have HXn:=zH (hx2.turned htn (by omega));have HSn:=zH (show SetOf St wn (w.heap.size+3) (setL (before++(p2++[m]))) by rw [<- List.append_assoc,zh6];exact hsn);have HL2:=zH hl2;clear hl2 hS2 hI2 hx2 hsn htn;go_wp2_with fail;go_roundw
     case rel=>exact⟨p2++[m],q2,by rw [HL2.out];simp,by simp,HSn.out,HIn,HXn.out⟩
     case measure=>simp [intOf];omega
    | nil =>
     rw [Yp] at hl2;have HS3:=zH (show SetOf St wr (w.heap.size+3) (setL (zoe sp tp (j+1))) by rw [HB2.out,hl2];exact hS2);have hlen:cur.length=p2.length:=(by rw [hl2]);have HX3:=zH hx2;have HI3:=hI2;clear hl2 hS2 hI2 hx2;go_wp2_with fail;go_roundw
     case rel=>exact⟨j+1,by omega,by simp,HS3.out,HI3,HX3.out⟩
     case measure=>simp [intOf];omega
  ·obtain rfl:j=2:=by omega
   rw [show ((2:Nat):Int)=2 from rfl];obtain⟨i1,i2,i3,i4⟩:=hI.out;have c0:=i2.cell (j:=0) rfl;have HS:=zH (show SetOf St wr (w.heap.size+3) (setL (sp++tp)) from hS);have HX:=zH hx;have hwl:=hS.lt;clear hS hx i1 i2 i3 i4;go_wp2_with fail;obtain⟨WL,rfl⟩:∃ WL:World,WL=wr:=⟨_,rfl⟩
   generalize hps:sp++tp=ps at *;have HPS:=zH hps;clear hps hlt
   go_loopw [11,42] (fun l i wr=>∃ pre post,db=pre++post/\i=I pre.length/\Own wr WL.heap.size 97 2 l (pre.filter (zdb ps)).length ((pre.filter (zdb ps)).flatMap zaj)/\Ext WL wr) (fun _ i _=>db.length - (intOf i).toNat)
   case atStart=>exact⟨[],db,rfl,rfl,Own.nil _ _ _ _ _,Ext.refl _⟩
   case round =>
    clear c0;obtain⟨pre,post,hl,rfl,hown,hx⟩:=hrel
    cases post with
    | cons m post =>
     obtain⟨b,o,rfl,e0,e1⟩:=HMT.out pre post m wr (HX.out.trans hx) hl;have hlt:pre.length < db.length:=(by rw [hl];simp);have HL:=zH hl;have hpf:=Va (zdb ps) pre;generalize hpl:pre.filter (zdb ps)=pl at *;have HPL:=zH hpl;have hx1:=(Ext.refl wr).alloc (.cells #[St m.1,U m.2] 97);have hlk:=zih (P:=Tryz.prog) Tryz.underlying139 zd8 znb ((HS.out.ext hx).ext hx1) m.1;have u0:(wr.alloc (.cells #[St m.1,U m.2] 97)).cell? ⟨wr.heap.size,0,none⟩=some (St m.1):=(by simp [go_sem]);have u1:(wr.alloc (.cells #[St m.1,U m.2] 97)).cell? ⟨wr.heap.size,1,none⟩=some (U m.2):=(by simp [go_sem]);have hn3:=hx.size;have hz1:(wr.alloc (.cells #[St m.1,U m.2] 97)).heap.size=wr.heap.size+1:=(by simp);have HX1:=zH (hx.trans hx1);have HO1:=zH (hown.ext hx1);obtain⟨C,cc,rfl,-,-⟩:=hown.form;clear hl hpl hx hx1 hown
     by_cases hm:m.1 ∈ setL ps
     ·have HF:=zH (show (pre++[m]).filter (zdb ps)=pl by rw [Yj,HPL.out];simp [zdb,hm]);simp only [hm,decide_true] at hlk;clear hm;go_wp2_with fail;go_roundw
      case rel=>exact⟨pre++[m],post,by rw [HL.out];simp,by simp,by rw [HF.out];exact HO1.out.alloc _,HX1.out.alloc _⟩
      case measure=>simp [intOf];omega
     ·have HF:=zH (show (pre++[m]).filter (zdb ps)=pl++[m] by rw [Yj,HPL.out];simp [zdb,hm]);simp only [hm,decide_false] at hlk;clear hm
      go_wp2_with (at_builtin;refine zal rfl (.tmp 55) (.tmp 57) 22 rfl WL.heap.size 97 2 24 (.agg #[St [],U 0]) Tryz.underlying22 zgp rfl (by omega) _ pl.length (pl.flatMap zaj) rfl ((HO1.out.alloc _).alloc _) _ 1 1 [St m.1,U m.2] rfl (Src.newAt (by simp) rfl (by intro u hu;simp at hu;rcases hu with rfl | rfl <;> rfl)) (by omega) (by omega) (by simp;omega) ?_;intro v' w' hown2 hgr)
      go_roundw
      case rel=>exact⟨pre++[m],post,by rw [HL.out];simp,by simp,by rw [HF.out];simpa [zaj] using hown2,Ext.grewOwn ((HX1.out.alloc _).alloc _) hgr ((HO1.out.alloc _).alloc _) (Qj _)⟩
      case measure=>simp [intOf];omega
    | nil =>
     rw [Yp] at hl;subst hl;obtain⟨i1,i2,i3,i4⟩:=hI.out;have rB:=i1.ext hx;have rD:=i2.ext hx;have rR:=i3.ext hx;have hpf:=Va (zdb ps) db;generalize hpl:db.filter (zdb ps)=pl at *;have HAP2:=zH (show zhe ⟨sa,se,sp⟩ db ⟨ta,te,tp⟩=if zbm sa pl then (zb9 ⟨sa,se,sp⟩ ⟨ta,te,tp⟩,0) else (za1,160) from HAP.out);have hxw:=HX.out.trans hx;have b0:=rB.cell (j:=0) rfl;have HCV:=zH (zil (H.out.all.ext (by decide) hxw) (zbb hown) (Qc SM.out.all (by decide)) (by omega));obtain⟨C,cc,rfl,-,-⟩:=hown.form;have hsz:=hx.size;clear hpl hown hx i1 i2 i3 i4 hI;go_wp2_with fail;refine HCV.out.mono ?_;rintro r W5 ⟨rfl,hx5⟩;have rB5:=rB.ext hx5;have rD5:=rD.ext hx5;have rR5:=rR.ext hx5;have hxw5:=hxw.trans hx5;have hsz5:=hx5.size;clear rB rD rR hxw hx5 b0 HCV
     cases hcv:zbm sa pl with
     | false =>
      have HR:=zH (show zhe ⟨sa,se,sp⟩ db ⟨ta,te,tp⟩=(za1,160) by rw [HAP2.out,hcv];rfl);obtain⟨r0,r1,r2⟩:=rR5.p3;obtain⟨f0,f1,f2⟩:=rR5.q3;have HX5:=zH hxw5;clear hcv hxw5 rB5 rD5 rR5;go_wp2_with fail
      (try simp only [Exit.inBlock,Exit.then])
      refine bodyPost_ret (v:=.tuple #[stV (.slice none 0 0) (.slice none 0 0) (.slice none 0 0),I 160]) (by simp [results,Tryz.f28,go_sem,r0,r1,r2]) rfl ?_;have hq:=zbn (q:=w.heap.size+2) HX5.out (by omega) (.slice none 0 0) (.slice none 0 0) (.slice none 0 0);refine ⟨.slice none 0 0,.slice none 0 0,.slice none 0 0,by (rw [HR.out];try rfl),?_⟩;rw [HR.out];exact⟨StAt.none _ _ _ _ _,hq⟩
     | true =>
      have HR:=zH (show zhe ⟨sa,se,sp⟩ db ⟨ta,te,tp⟩=(zb9 ⟨sa,se,sp⟩ ⟨ta,te,tp⟩,0) by rw [HAP2.out,hcv];rfl);have HJ:=zH (zib (H.out.ext hxw5) (HD.out.ext hxw5) SM.out SMD.out);obtain⟨k0,k1,k2⟩:=rB5.p3;have d1:=rD5.cell (j:=1) rfl;have d2:=rD5.cell (j:=2) rfl;have d3:=rD5.cell (j:=3) rfl;clear hcv rB5 rD5;go_wp2_with fail;refine HJ.out.mono ?_;rintro r W6 ⟨u1,u2,u3,rfl,hn,hx6⟩;generalize zb9 ⟨sa,se,sp⟩ ⟨ta,te,tp⟩=sj at *;obtain⟨ja,je,jp⟩:=sj;obtain⟨D1,q1,D2,q2,D3,q3,rfl,rfl,rfl⟩:=hn.fm;have rR6:=rR5.ext hx6;obtain⟨r0,r1,r2⟩:=rR6.p3;obtain⟨f0,f1,f2⟩:=rR6.q3;have hsz6:=hx6.size;have HX6:=zH (hxw5.trans hx6);have HN:=zH hn;clear hn hx6 hxw5 rR5 rR6 k0 k1 k2 d1 d2 d3 HJ;go_wp2_with fail
      (try simp only [Exit.inBlock,Exit.then])
      refine bodyPost_ret (v:=.tuple #[stV (.slice D1 ja.length q1) (.slice D2 je.length q2) (.slice D3 jp.length q3),I 0]) (by simp [results,Tryz.f28,go_sem,r0,r1,r2]) rfl ?_;have hq:=zbn (q:=w.heap.size+2) HX6.out (by omega) (.slice D1 ja.length q1) (.slice D2 je.length q2) (.slice D3 jp.length q3);have hkp:=zda W6 (w.heap.size+2) (.slice D1 ja.length q1) (.slice D2 je.length q2) (.slice D3 jp.length q3);refine ⟨.slice D1 ja.length q1,.slice D2 je.length q2,.slice D3 jp.length q3,by (rw [HR.out];try rfl),?_⟩;rw [HR.out];exact⟨(HN.out.at.keep (fun b hb _=>hkp b (by omega))).mono (fun b _ hb=>by omega),hq⟩
end
section
theorem zqp {all base:List Mark} {P:Mark->Bool} (hb:GoodM base):zbm all (base.filter P)=true↔∀ m ∈ base,P m=true->m.2<=ofM all m.1:=by
 have hg:GoodM (base.filter P):=⟨hb.1.filter _,fun m hm=>hb.2 m (Qk.1 hm).1⟩
 rw [coversM_iff]
 constructor
 ·intro h m hm hp;have hm':=Qk.2 ⟨hm,hp⟩;have:=h m.1
  rwa [hg.1.of hm' (hb.2 m hm).1] at this
 ·intro h s;refine ofM_le.2 fun m hm e _=>?_
  subst e;obtain⟨h1,h2⟩:=Qk.1 hm;exact h m h1 h2
end
section
open Go.RowKit
theorem zd2 (a b:List Str) (ha:RiseS a) (hb:RiseS b):RiseS (zcf a b)/\∀ k,k ∈ zcf a b↔k ∈ a ∨ k ∈ b:=by
 unfold RiseS at *
 fun_induction zcf a b with
 | case1=>exact⟨.nil,by simp⟩
 | case2 a r ih=>obtain⟨h1,h2⟩:=Qf.1 ha;obtain⟨i1,i2⟩:=ih h2 hb;exact⟨Qf.2 ⟨fun x hx=>(by rcases (i2 x).1 hx with h | h;exact h1 x h;cases h),i1⟩,fun k=>by rw [Qh,i2];simp⟩
 | case3 b s ih=>obtain⟨h1,h2⟩:=Qf.1 hb;obtain⟨i1,i2⟩:=ih ha h2;exact⟨Qf.2 ⟨fun x hx=>(by rcases (i2 x).1 hx with h | h;cases h;exact h1 x h),i1⟩,fun k=>by rw [Qh,i2];simp⟩
 | case4 a r b s he ih =>
  have he:a=b:=by simpa using he
  subst he;obtain⟨h1,h2⟩:=Qf.1 ha;obtain⟨h3,h4⟩:=Qf.1 hb;obtain⟨i1,i2⟩:=ih h2 h4;refine ⟨Qf.2 ⟨fun x hx=>(by rcases (i2 x).1 hx with h | h;exact h1 x h;exact h3 x h),i1⟩,fun k=>?_⟩;rw [Qh,i2,Qh,Qh]
  constructor
  ·rintro (h | h | h)
   ·exact .inl (.inl h)
   ·exact .inl (.inr h)
   ·exact .inr (.inr h)
  ·rintro ((h | h) | h | h)
   ·exact .inl h
   ·exact .inr (.inl h)
   ·exact .inl h
   ·exact .inr (.inr h)
 | case5 a r b s he hl ih =>
  obtain⟨h1,h2⟩:=Qf.1 ha;obtain⟨h3,h4⟩:=Qf.1 hb;obtain⟨i1,i2⟩:=ih h2 hb;refine ⟨Qf.2 ⟨fun x hx=>?_,i1⟩,fun k=>?_⟩
  ·rcases (i2 x).1 hx with h | h
   ·exact h1 x h
   ·rcases Qh.1 h with rfl | h
    ·exact hl
    ·exact zay hl (h3 x h)
  ·rw [Qh,i2,Qh (a:=k) (b:=a)];exact or_assoc.symm
 | case6 a r b s he hl ih =>
  have hba:ltS b a=true:=by
   rcases zcj a b with h | h | h
   ·exact absurd h hl
   ·subst h;simp at he
   ·exact h
  obtain⟨h1,h2⟩:=Qf.1 ha;obtain⟨h3,h4⟩:=Qf.1 hb;obtain⟨i1,i2⟩:=ih ha h4;refine ⟨Qf.2 ⟨fun x hx=>?_,i1⟩,fun k=>?_⟩
  ·rcases (i2 x).1 hx with h | h
   ·rcases Qh.1 h with rfl | h
    ·exact hba
    ·exact zay hba (h1 x h)
   ·exact h3 x h
  ·rw [Qh,i2,Qh (a:=k) (b:=b)]
   constructor
   ·rintro (h | h | h)
    ·exact .inr (.inl h)
    ·exact .inl h
    ·exact .inr (.inr h)
   ·rintro (h | h | h)
    ·exact .inr (.inl h)
    ·exact .inl h
    ·exact .inr (.inr h)
abbrev vecS (s:State):Vec:=fun p=>ofM s.all p
structure IsS (E:List Ev) (pr:List Str) (s:State):Prop where
 all:GoodM s.all
 pruned:s.pruned=pr
 rise:RiseS (s.entries.map (·.key))
 each:∀ x ∈ s.entries,IsE E (vecS s) x.key x/\x.key ≠ []
 has:∀ k,k ∈ s.entries.map (·.key)↔∃ e ∈ E,zao (vecS s) e=true/\e.key=k
 closed:Closed E (vecS s)
theorem zgx {l:List Entry} {k:Str} (h:k ∉ l.map (·.key)):getE l k=zak:=by
 unfold getE za4;rw [Vf.2 fun x hx he=>h (Qg.2 ⟨x,hx,by simpa using he⟩)]
 rfl
theorem zfy {l:List Entry} (hR:RiseS (l.map (·.key))) {x:Entry} (hx:x ∈ l):getE l x.key=x:=by
 unfold getE;rw [zrp hR hx]
 rfl
theorem zfj {l:List Entry} {k:Str} (h:k ∈ l.map (·.key)):∃ x ∈ l,x.key=k:=by
 obtain⟨x,hx,rfl⟩:=Qg.1 h;exact⟨x,hx,rfl⟩
theorem ydd {a b:List Entry} (ha:RiseS (a.map (·.key))) (hb:RiseS (b.map (·.key))) (h:∀ x,x ∈ a↔x ∈ b):a=b:=by
 unfold RiseS at ha hb;rw [Qr] at ha hb;have nd:∀ {l:List Entry},l.Pairwise (fun a b=>ltS a.key b.key=true)->l.Nodup:=fun hl=>hl.imp fun {a b} hab e=>by subst e;rw [zap] at hab;cases hab
 exact List.Perm.eq_of_pairwise (le:=fun a b=>ltS a.key b.key=true) (fun x y _ _ h1 h2=>by rw [zc8 h1] at h2;cases h2) ha hb (zdl (nd ha) (nd hb) h)
theorem IsS.uniq {E:List Ev} {pr:List Str} {s t:State} (hs:IsS E pr s) (ht:IsS E pr t) (h:∀ p,ofM s.all p=ofM t.all p):s=t:=by
 have e1:=hs.all.ext ht.all h;have hv:vecS s=vecS t:=funext h
 have e2:s.entries=t.entries:=by
  refine ydd hs.rise ht.rise fun x=>?_
  have key:∀ {s t:State},IsS E pr s->IsS E pr t->vecS s=vecS t->x ∈ s.entries->x ∈ t.entries:=by intro s t hs ht hv hx;have h1:=(hs.has x.key).1 (Qg.2 ⟨x,hx,rfl⟩);rw [hv] at h1;obtain⟨y,hy,he⟩:=zfj ((ht.has x.key).2 h1);have h2:=(ht.each y hy).1;have h3:=(hs.each x hx).1;rw [hv] at h3;rw [he] at h2;rw [h3.uniq h2];exact hy
  exact⟨key hs ht hv,key ht hs hv.symm⟩
 have e3:=hs.pruned.trans ht.pruned.symm;obtain⟨a,b,c⟩:=s;obtain⟨a',b',c'⟩:=t;simp only at e1 e2 e3;rw [e1,e2,e3]
theorem zgy (a b:State):vecS (zb9 a b)=maxV (vecS a) (vecS b):=funext fun p=>zfs _ _ p
theorem zp0 {x:Entry} (h:x.key ≠ []):x ≠ zak:=fun e=>h (by rw [e];rfl)
theorem znj {E:List Ev} {pr:List Str} {s:State} (hs:IsS E pr s) {k:Str} (h:k ∉ s.entries.map (·.key)):∀ e ∈ E,e.key=k->zao (vecS s) e=false:=fun e he hk=>Yy.2 fun hkn=>h ((hs.has k).2 ⟨e,he,hkn,hk⟩)
theorem zk3 {E:List Ev} {pr pr':List Str} {a b:State} (H:Hist E) (ha:IsS E pr a) (hb:IsS E pr' b) {k:Str} (hk:k ∈ a.entries.map (·.key) ∨ k ∈ b.entries.map (·.key)) :
  IsE E (maxV (vecS a) (vecS b)) k (zbz (getE a.entries k) (getE b.entries k))/\k ≠ []:=by
 by_cases h1:k ∈ a.entries.map (·.key)
 ·obtain⟨x,hx,rfl⟩:=zfj h1;rw [zfy ha.rise hx];obtain⟨hex,hne⟩:=ha.each x hx;refine ⟨?_,hne⟩;unfold zbz;rw [zN fun h=>zp0 hne (sameE_iff.1 h)]
  by_cases h2:x.key ∈ b.entries.map (·.key)
  ·obtain⟨y,hy,he⟩:=zfj h2;rw [<- he,zfy hb.rise hy,he,zP rfl];have hey:=(hb.each y hy).1;rw [he] at hey;exact hex.join H ha.closed hb.closed hey
  ·rw [zgx h2,zN (by simpa [zak] using hne)];exact hex.congr fun e he hk=>by rw [zba,znj hb h2 e he hk,Bool.or_false]
 ·have h2:=hk.resolve_left h1;obtain⟨y,hy,rfl⟩:=zfj h2;rw [zfy hb.rise hy,zgx h1];obtain⟨hey,hne⟩:=hb.each y hy;refine ⟨?_,hne⟩;unfold zbz;rw [zP (sameE_iff.2 rfl)];exact hey.congr fun e he hk=>by rw [zba,znj ha h1 e he hk,Bool.false_or]
theorem zof {E:List Ev} {pr pr':List Str} {a b:State} (H:Hist E) (ha:IsS E pr a) (hb:IsS E pr' b):(zhd a.entries b.entries).map (·.key)=zb8 a.entries b.entries:=by
 unfold zhd;rw [List.map_map];refine (Yi fun k hk=>?_).trans (List.map_id _);exact (zk3 H ha hb (((zd2 _ _ ha.rise hb.rise).2 k).1 hk)).1.key
theorem IsS.join {E:List Ev} {pr:List Str} {a b:State} (H:Hist E) (ha:IsS E pr a) (hb:IsS E pr b) (hp:Lib.compact (zbw (pr++pr))=pr):IsS E pr (zb9 a b) where
 all:=zcp _ _
 pruned:=by rw [show (zb9 a b).pruned=Lib.compact (zbw (a.pruned++b.pruned)) from rfl,ha.pruned,hb.pruned,hp]
 rise:=by rw [show (zb9 a b).entries=zhd a.entries b.entries from rfl,zof H ha hb];exact (zd2 _ _ ha.rise hb.rise).1
 each x hx:=by rw [zgy];obtain⟨k,hk,rfl⟩:=Qg.1 (show x ∈ zhd a.entries b.entries from hx);obtain⟨h1,h2⟩:=zk3 H ha hb (((zd2 _ _ ha.rise hb.rise).2 k).1 hk);rw [h1.key];exact⟨h1,h2⟩
 has k:=by
  rw [zgy,show (zb9 a b).entries=zhd a.entries b.entries from rfl,zof H ha hb,(zd2 _ _ ha.rise hb.rise).2 k,ha.has,hb.has]
  constructor
  ·rintro (⟨e,he,h1,h2⟩ | ⟨e,he,h1,h2⟩)
   ·exact⟨e,he,by rw [zba,h1,Yw],h2⟩
   ·exact⟨e,he,by rw [zba,h1,Vl],h2⟩
  ·rintro⟨e,he,h1,h2⟩;rw [zba,Qz] at h1;exact h1.imp (fun h=>⟨e,he,h,h2⟩) fun h=>⟨e,he,h,h2⟩
 closed:=by rw [zgy];exact ha.closed.max hb.closed
theorem zrq {a b:List Str} (ha:RiseS a) (hb:RiseS b) (h:∀ k,k ∈ a↔k ∈ b):a=b:=by
 unfold RiseS at ha hb;have nd:∀ {l:List Str},l.Pairwise (fun a b=>ltS a b=true)->l.Nodup:=fun hl=>hl.imp fun {a b} hab e=>by subst e;rw [zap] at hab;cases hab
 exact List.Perm.eq_of_pairwise (le:=fun a b=>ltS a b=true) (fun x y _ _ h1 h2=>by rw [zc8 h1] at h2;cases h2) ha hb (zdl (nd ha) (nd hb) h)
theorem zm1 {E:List Ev} {pr pr':List Str} {a b:State} (ha:IsS E pr a) (hb:IsS E pr' b) {base:List Mark} (hB:∀ p,ofM base p<=ofM a.all p) {y:Entry} (hy:y ∈ b.entries) (hl:zde base y=false):(∀ e ∈ E,e.key=y.key->zao (vecS b) e=true->zao (vecS a) e=true)/\y.key ∈ a.entries.map (·.key):=by
 have hc:zbm base y.seen=true:=by unfold zde at hl;simpa using hl
 have h1:∀ e ∈ E,e.key=y.key->zao (vecS b) e=true->zao (vecS a) e=true:=by
  intro e he hk hkn;have h2:=coversM_iff.1 hc e.path;have h3:=((hb.each y hy).1.seen e.path).1 e he ⟨hkn,hk,rfl⟩;have:=hB e.path;refine decide_eq_true ?_
  show e.num<=ofM a.all e.path
  omega
 obtain⟨e,he,hkn,hke⟩:=(hb.has y.key).1 (Qg.2 ⟨y,hy,rfl⟩);exact⟨h1,(ha.has y.key).2 ⟨e,he,h1 e he hke hkn,hke⟩⟩
theorem zu8 {E:List Ev} {pr pr':List Str} {a b:State} (H:Hist E) (ha:IsS E pr a) (hb:IsS E pr' b) {base:List Mark} (hB:∀ p,ofM base p<=ofM a.all p):zb9 a (zic b base)=zb9 a b:=by
 have hR:RiseS ((b.entries.filter (zde base)).map (·.key)):=by have:=hb.rise;unfold RiseS at this ⊢;rw [Qr] at this ⊢;exact this.filter _
 have hkeys:zb8 a.entries (b.entries.filter (zde base))=zb8 a.entries b.entries:=by
  refine zrq (zd2 _ _ ha.rise hR).1 (zd2 _ _ ha.rise hb.rise).1 fun k=>?_
  rw [(zd2 _ _ ha.rise hR).2,(zd2 _ _ ha.rise hb.rise).2]
  constructor
  ·rintro (h | h)
   ·exact .inl h
   ·obtain⟨x,hx,rfl⟩:=zfj h;exact .inr (Qg.2 ⟨x,(Qk.1 hx).1,rfl⟩)
  ·rintro (h | h)
   ·exact .inl h
   ·obtain⟨y,hy,rfl⟩:=zfj h
    cases hl:zde base y with
    | true=>exact .inr (Qg.2 ⟨y,Qk.2 ⟨hy,hl⟩,rfl⟩)
    | false=>exact .inl (zm1 ha hb hB hy hl).2
 have hents:zhd a.entries (b.entries.filter (zde base))=zhd a.entries b.entries:=by
  unfold zhd;rw [hkeys];refine Yi fun k hk=>?_
  by_cases h1:k ∈ b.entries.map (·.key)
  ·obtain⟨y,hy,rfl⟩:=zfj h1
   cases hl:zde base y with
   | true=>rw [zfy hR (Qk.2 ⟨hy,hl⟩),zfy hb.rise hy]
   | false =>
    obtain⟨hkn,hka⟩:=zm1 ha hb hB hy hl
    have hno:y.key ∉ (b.entries.filter (zde base)).map (·.key):=fun h=>by obtain⟨x,hx,he⟩:=zfj h;obtain⟨hx1,hx2⟩:=Qk.1 hx;rw [zpz hb.rise hx1 hy he,hl] at hx2;cases hx2
    obtain⟨x,hx,hxk⟩:=zfj hka;obtain⟨hex,hne⟩:=ha.each x hx;have hboth:=(zk3 H ha hb (.inl hka)).1;rw [zgx hno];rw [<- hxk] at hboth ⊢;rw [zfy ha.rise hx] at hboth ⊢
    have h2:IsE E (maxV (vecS a) (vecS b)) x.key x:=hex.congr fun e he hk=>by rw [zba,Jg,Qz];exact⟨.inl,fun h=>h.elim id fun h=>hkn e he (hk.trans hxk) h⟩
    rw [hboth.uniq h2];unfold zbz;rw [zN fun h=>zp0 hne (sameE_iff.1 h),zN (by simpa [zak] using hne)]
  ·rw [zgx h1,zgx (l:=b.entries.filter (zde base)) fun h=>h1 (by obtain⟨x,hx,rfl⟩:=zfj h;exact Qg.2 ⟨x,(Qk.1 hx).1,rfl⟩)]
 unfold zb9 zic;simp only [hents]
theorem zta {E:List Ev} {pr pr':List Str} {a b:State} (H:Hist E) (ha:IsS E pr a) (hb:IsS E pr' b) {base:List Mark} (hB:∀ p,ofM base p<=ofM a.all p):zhe a (za0 base []) (zic b base)=(zb9 a b,0):=by
 unfold zhe;rw [zP,zu8 H ha hb hB];refine (zqp (zcp _ _)).2 fun m hm _=>?_
 have h1:=(zcp base []).1.of hm ((zcp base []).2 m hm).1;rw [zfs,zff] at h1;have:=hB m.1;omega
abbrev keyN:Str:=[35,110]
abbrev keyA:Str:=[64,115]
abbrev keyC:Str:=[61,99]
theorem zrr:zas keyN=1:=by kernel_rfl
theorem zl5:zas keyA=2:=by kernel_rfl
theorem zl6:zas keyC=3:=by kernel_rfl
structure OpOk (k:Str) (o:Nat) (n:Int) (tx:Str):Prop where
 kind:(k=keyN/\o=1) ∨ (k=keyA/\(o=2 ∨ o=3)) ∨ (k=keyC/\o=4)
 lo:-32768<=n
 hi:n<=32767
 text:tx = [97] ∨ tx = [98]
theorem OpOk.short {k:Str} {o:Nat} {n:Int} {tx:Str} (h:OpOk k o n tx):tx.length<=16:=by rcases h.text with rfl | rfl <;> decide
structure HistOk (E:List Ev):Prop extends Hist E where
 ok:∀ e ∈ E,OpOk e.key e.op e.n e.tx
 most:E.length<=200
structure VecOk (ps:List Str) (s:State):Prop where
 paths:∀ p,ofM s.all p ≠ 0->p ∈ ps
 few:ps.length<=16
 most:∀ p,ofM s.all p<=1000000
theorem zd3 {l:List Mark} (hg:GoodM l) {ps:List Str} (h:∀ p,ofM l p ≠ 0->p ∈ ps):l.length<=ps.length:=by
 have:=zdx _ ps (zs9 hg) fun s hs=>h s ((zz7 hg).1 hs)
 simpa using this
theorem zog (E:List Ev):∀ i,zc6 E i<=E.length:=by
 have h:∀ E:List Ev,∀ x ∈ zdj E,x<=E.length:=by
  intro E
  induction E using zhq with
  | h0=>intro x hx;cases hx
  | h1 E e ih =>
   intro x hx;rw [zge] at hx;rw [Qw,Qp,Qu];rcases Qm.1 hx with hx | hx
   ·have:=ih x hx;omega
   ·simp only [Qi] at hx
    have top:∀ (st:List Nat) (kn:List Bool) (m:Nat),(∀ x ∈ st,x<=m)->topZ st kn<=m:=by
     intro st
     induction st with
     | nil=>intro kn m _;simp [topZ]
     | cons s st ih2 =>
      intro kn m hm
      cases kn with
      | nil=>simp [topZ]
      | cons b kn =>
       have h1:=hm s (by simp);have h2:=ih2 kn m fun x hx=>hm x (by simp [hx])
       simp only [topZ]
       split <;> omega
    have:=top (zdj E) e.kn E.length ih;rw [hx]
    split <;> omega
 intro i;unfold zc6
 cases hx:(zdj E)[i]? with
 | none=>exact Yc _
 | some x=>exact h E x (Qa hx)
theorem IsE.counts_nil {E:List Ev} {V:Vec} {k:Str} {x:Entry} (hx:IsE E V k x) (h:∀ e ∈ E,e.key=k->e.op ≠ 1):x.counts = []:=by
 refine hx.cntG.ext ⟨.nil,by simp⟩ fun s=>?_
 have z:∀ E:List Ev,sumE E (fun _=>0)=0:=fun E=>by unfold sumE;induction E <;> simp_all
 rw [hx.plus,hx.minus,show sumE E (upK V k s)=0 from (zeu fun e he=>zN fun ⟨_,h2,h3,_⟩=>h e he h2 h3).trans (z E),show sumE E (zb1 V k s)=0 from (zeu fun e he=>zN fun ⟨_,h2,h3,_⟩=>h e he h2 h3).trans (z E)];exact⟨rfl,rfl⟩
theorem IsE.items_nil {E:List Ev} {V:Vec} {k:Str} {x:Entry} (hx:IsE E V k x) (h:∀ e ∈ E,e.key=k->e.op ≠ 2):x.items = []:=by
 refine hx.itG.ext zjw fun q=>⟨fun hq=>?_,fun hq=>by simp [zab] at hq⟩
 obtain⟨i,e,h1,-,h3,h4,-⟩:=(hx.items q).1 hq;exact absurd h4 (h e (Qa h1) h3)
theorem IsE.cell_zero {E:List Ev} {V:Vec} {k:Str} {x:Entry} (hx:IsE E V k x) (h:∀ e ∈ E,e.key=k->e.op ≠ 4):x.cell=zgd:=by
 rcases hx.cell.2 with h1 | ⟨i,e,h1,-,h3,h4,-⟩
 ·exact h1
 ·exact absurd h4 (h e (Qa h1) h3)
theorem zrs {E:List Ev} {f:Ev->Nat} (h:sumE E f ≠ 0):∃ e ∈ E,f e ≠ 0:=by
 induction E with
 | nil=>exact absurd rfl h
 | cons e r ih =>
  by_cases he:f e=0
  ·unfold sumE at h ih;simp only [Ql,Yd,he,Yr] at h;obtain⟨x,hx,hn⟩:=ih h;exact⟨x,by simp [hx],hn⟩
  ·exact⟨e,by simp,he⟩
theorem IsE.count_seen {E:List Ev} {V:Vec} (H:Hist E) {k:Str} {x:Entry} (hx:IsE E V k x) {c:zag} (hc:c ∈ x.counts):c.1 ≠ []/\ofM x.seen c.1 ≠ 0:=by
 have h1:=(hx.cntG.mem_iff.1 hc).1
 have key:∀ e ∈ E,zao V e=true->e.key=k->e.path=c.1->c.1 ≠ []/\ofM x.seen c.1 ≠ 0:=by intro e he k1 k2 k3;have:=(hx.seen c.1).1 e he ⟨k1,k2,k3⟩;have:=H.num e he;exact⟨k3 ▸ H.path e he,by omega⟩
 by_cases hp:zbr x.counts c.1=0
 ·have hm:zbf x.counts c.1 ≠ 0:=fun h=>h1 ⟨hp,h⟩
  rw [hx.minus] at hm;obtain⟨e,he,hn⟩:=zrs hm;unfold zb1 at hn
  by_cases hc:zao V e=true/\e.key=k/\e.op=1/\e.path=c.1
  ·exact key e he hc.1 hc.2.1 hc.2.2.2
  ·rw [zN hc] at hn;exact absurd rfl hn
 ·rw [hx.plus] at hp;obtain⟨e,he,hn⟩:=zrs hp;unfold upK at hn
  by_cases hc:zao V e=true/\e.key=k/\e.op=1/\e.path=c.1
  ·exact key e he hc.1 hc.2.1 hc.2.2.2
  ·rw [zN hc] at hn;exact absurd rfl hn
theorem zhr {E:List Ev} {pr:List Str} {s:State} (hs:IsS E pr s) {x:Entry} {k:Str} (hx:IsE E (vecS s) k x) (p:Str):ofM x.seen p<=ofM s.all p:=by
 rcases (hx.seen p).2 with h | ⟨e,-,⟨h1,-,h3⟩,h4⟩
 ·omega
 ·rw [<- h4,<- h3];unfold zao at h1
  simpa using h1
theorem IsE.may {E:List Ev} (H:HistOk E) {pr ps:List Str} {s:State} (hs:IsS E pr s) (hv:VecOk ps s) {x:Entry} {k:Str} (hx:IsE E (vecS s) k x) (he:∃ e ∈ E,zao (vecS s) e=true/\e.key=k):mayE x=true:=by
 have hle:=zhr hs hx;obtain⟨e,he,hkn,hk⟩:=he
 have hseen:mayM x.seen=true:=by
  refine mayM_iff.2 ⟨?_,hx.seenG,fun m hm=>?_⟩
  ·have:=zd3 hx.seenG (ps:=ps) fun p hp=>hv.paths p (by have:=hle p;omega)
   have:=hv.few;omega
  ·have h1:=hx.seenG.1.of hm (hx.seenG.2 m hm).1;have:=hle m.1;have:=hv.most m.1;omega
 have hne:x.seen.length ≠ 0:=fun h=>by have h1:=(hx.seen e.path).1 e he ⟨hkn,hk,rfl⟩;rw [List.length_eq_zero_iff.1 h,zff] at h1;have:=H.num e he;omega
 have hkind:=(H.ok e he).kind;rw [hk] at hkind;have hkinds:∀ f ∈ E,f.key=k->(k=keyN/\f.op=1) ∨ (k=keyA/\(f.op=2 ∨ f.op=3)) ∨ (k=keyC/\f.op=4):=fun f hf hfk=>by have:=(H.ok f hf).kind;rwa [hfk] at this
 have nk:keyN ≠ keyA/\keyN ≠ keyC/\keyA ≠ keyC:=by decide
 unfold mayE;rw [hseen,hx.key,Vg,decide_eq_false hne,Jh,Vg];rcases hkind with ⟨rfl,ho⟩ | ⟨rfl,ho⟩ | ⟨rfl,ho⟩
 ·rw [zP zrr];have h1:=hx.items_nil fun f hf hfk ho=>by rcases hkinds f hf hfk with h | ⟨h,_⟩ | ⟨h,_⟩;omega;exact nk.1 h;exact nk.2.1 h
  have h2:=hx.cell_zero fun f hf hfk ho=>by rcases hkinds f hf hfk with h | ⟨h,_⟩ | ⟨h,_⟩;omega;exact nk.1 h;exact nk.2.1 h
  simp only [may1,h1,h2,mayL_iff.2 hx.cntG,Vg,Qu,decide_true,Vh,zfv];refine Vn.2 fun c hc=>?_
  have:=(hx.count_seen H.toHist hc).2;simp [this]
 ·rw [zN (by rw [zl5];decide),zP zl5];have h1:=hx.counts_nil fun f hf hfk ho=>by rcases hkinds f hf hfk with ⟨h,_⟩ | ⟨_,h⟩ | ⟨h,_⟩;exact nk.1 h.symm;omega;exact nk.2.2 h
  have h2:=hx.cell_zero fun f hf hfk ho=>by rcases hkinds f hf hfk with ⟨h,_⟩ | ⟨_,h⟩ | ⟨h,_⟩;exact nk.1 h.symm;omega;exact nk.2.2 h
  simp only [may2,h1,h2,mayB_iff.2 hx.itG,Vg,Qu,decide_true,Vh,zgt];refine Vn.2 fun it hit=>Vn.2 fun d hd=>?_
  obtain⟨i,f,k1,k2,k3,k4,k5,-⟩:=(hx.items _).1 (ze4 hit hd);injection k5 with k5 k6
  subst k6;exact (hx.hasM H.toHist k1 k3).2 k2
 ·rw [zN (by rw [zl6];decide),zN (by rw [zl6];decide),zP zl6];have h1:=hx.counts_nil fun f hf hfk ho=>by rcases hkinds f hf hfk with ⟨h,_⟩ | ⟨h,_⟩ | ⟨_,h⟩;exact nk.2.1 h.symm;exact nk.2.2 h.symm;omega
  have h2:=hx.items_nil fun f hf hfk ho=>by rcases hkinds f hf hfk with ⟨h,_⟩ | ⟨h,_⟩ | ⟨_,h⟩;exact nk.2.1 h.symm;exact nk.2.2 h.symm;omega
  simp only [may3,h1,h2,Qu,decide_true,Vh];rcases hx.cell.2 with h | ⟨i,f,k1,k2,k3,k4,k5⟩
  ·rw [h];rfl
  ·have c1:=Go.Proofs.YtaabaflgeljbjaaGreat.cell_zero k1 k4;have c2:=zog E i;have c3:=H.most;have c4:=(H.ok f (Qa k1)).short;rw [k5];unfold mayC;simp only [Bool.false_and,Jh,Vh,Yb,decide_eq_true_eq];rw [zN (by omega)];simp only [Yb,decide_eq_true_eq];omega
theorem IsS.may {E:List Ev} (H:HistOk E) {pr ps:List Str} {s:State} (hs:IsS E pr s) (hv:VecOk ps s) (hpr:∀ p ∈ pr,p ≠ []/\ofM s.all p=0) (hrp:RiseS pr):mayS s=true:=by
 refine mayS_iff.2 ⟨mayM_iff.2 ⟨?_,hs.all,fun m hm=>?_⟩,fun x hx=>?_,hs.rise,?_,?_⟩
 ·have:=zd3 hs.all hv.paths;have:=hv.few;omega
 ·have h1:=hs.all.1.of hm (hs.all.2 m hm).1;have:=hv.most m.1;omega
 ·have hex:=(hs.each x hx).1;exact⟨hex.may H hs hv ((hs.has x.key).1 (Qg.2 ⟨x,hx,rfl⟩)),coversM_iff.2 fun p=>zhr hs hex p⟩
 ·rw [hs.pruned];exact hpr
 ·rw [hs.pruned];exact hrp
def zgf (l:List zag):Int:=((zax l).map fun p=>(p.2:Int) - ((getL (0:Nat) (zaz l) p.1:Nat):Int)).sum
theorem zrt (L Lm:List (Str × Nat)):∀ t:Nat,((L.foldl (ziw Lm) t:Nat):Int) % 18446744073709551616=((t:Int)+(L.map fun p=>(p.2:Int) - ((getL (0:Nat) Lm p.1:Nat):Int)).sum) % 18446744073709551616:=by
 induction L with
 | nil=>intro t;simp
 | cons p r ih=>intro t;rw [List.foldl_cons,ih,Ql,Yd];unfold ziw addU subU;omega
theorem zru {x y:Int} (h:x % 18446744073709551616=y % 18446744073709551616) (h1:-9223372036854775808<=y) (h2:y<=9223372036854775807):wrap64 x=y:=by
 unfold wrap64;omega
theorem ztb {l:List zag} (h1:-9223372036854775808<=zgf l) (h2:zgf l<=9223372036854775807):zb7 l=zgf l:=by
 unfold zb7;refine zru ?_ h1 h2;have:=zrt (zax l) (zaz l) 0;unfold sumL;rw [this];unfold zgf;simp
def netK (V:Vec) (k:Str) (e:Ev):Int:=if zao V e=true/\e.key=k/\e.op=1 then e.n else 0
theorem zlf {L:List (Str × Nat)} (hn:(L.map Prod.fst).Nodup) {p:Str × Nat} (hp:p ∈ L):getL 0 L p.1=p.2:=by
 induction L with
 | nil=>cases hp
 | cons q r ih =>
  obtain⟨a,b⟩:=q;rw [zxl];simp only [Ql,Vp] at hn;rcases Qh.1 hp with he | hp'
  ·rw [he];simp
  ·rw [zN fun e:p.1=a=>hn.1 (e ▸ Qg.2 ⟨p,hp',rfl⟩)];exact ih hn.2 hp'
theorem ztc {α:Type} (l:List α) (f g:α->Int):(l.map fun x=>f x+g x).sum=(l.map f).sum+(l.map g).sum:=by
 induction l with
 | nil=>simp
 | cons x r ih=>simp only [Ql,Yd,ih];omega
theorem zz9 {ks:List Str} (hn:ks.Nodup) (p:Str) (x:Int):(ks.map fun s=>if s=p then x else 0).sum=if p ∈ ks then x else 0:=by
 induction ks with
 | nil=>simp
 | cons s r ih =>
  obtain⟨h1,h2⟩:=Vp.1 hn;rw [Ql,Yd,ih h2]
  by_cases h:s=p
  ·subst h;rw [zP rfl,zN h1,zP (by simp)];omega
  ·rw [zN h]
   by_cases hp:p ∈ r
   ·rw [zP hp,zP (by simp [hp])];omega
   ·rw [zN hp,zN fun e=>(Qh.1 e).elim (fun e=>h e.symm) hp];omega
theorem zp1 (n:Int):(upOf n:Int) - (zcb n:Int)=n:=by
 unfold upOf zcb
 by_cases h:n > 0
 ·simp only [zP h];omega
 ·simp only [zN h];omega
theorem IsE.diff {E:List Ev} {V:Vec} {k:Str} {x:Entry} (hx:IsE E V k x):zgf x.counts=(E.map (netK V k)).sum:=by
 have hnd:=zcd x.counts
 have h1:zgf x.counts=(((zax x.counts).map Prod.fst).map fun s=>((zbr x.counts s:Nat):Int) - (zbf x.counts s:Nat)).sum:=by
  unfold zgf;rw [List.map_map]
  congr 1
  refine Yi fun p hp=>?_
  simp only [Function.comp];rw [show zbr x.counts p.1=p.2 from zlf hnd hp]
  rfl
 rw [h1]
 have h2:∀ s,((zbr x.counts s:Nat):Int) - (zbf x.counts s:Nat)=(E.map fun e=>if s=e.path then netK V k e else 0).sum:=by
  intro s;rw [hx.plus,hx.minus]
  have:∀ E:List Ev,((sumE E (upK V k s):Nat):Int) - (sumE E (zb1 V k s):Nat)=(E.map fun e=>if s=e.path then netK V k e else 0).sum:=by
   intro E;unfold sumE
   induction E with
   | nil=>simp
   | cons e r ih =>
    simp only [Ql,Yd];rw [<- ih]
    have:((upK V k s e:Nat):Int) - (zb1 V k s e:Nat)=if s=e.path then netK V k e else 0:=by
     unfold upK zb1 netK
     by_cases hp:s=e.path
     ·subst hp
      by_cases hc:zao V e=true/\e.key=k/\e.op=1
      ·rw [zP ⟨hc.1,hc.2.1,hc.2.2,rfl⟩,zP ⟨hc.1,hc.2.1,hc.2.2,rfl⟩,zP rfl,zP hc];exact zp1 e.n
      ·rw [zN fun h=>hc ⟨h.1,h.2.1,h.2.2.1⟩,zN fun h=>hc ⟨h.1,h.2.1,h.2.2.1⟩,zP rfl,zN hc]
       rfl
     ·rw [zN fun h=>hp h.2.2.2.symm,zN fun h=>hp h.2.2.2.symm,zN hp]
      rfl
    rw [<- this];omega
  exact this E
 rw [Yi (fun s _=>h2 s)]
 have swap:∀ E':List Ev,(∀ e ∈ E',e ∈ E)->((((zax x.counts).map Prod.fst).map fun s=>(E'.map fun e=>if s=e.path then netK V k e else 0).sum).sum=(E'.map (netK V k)).sum):=by
  intro E'
  induction E' with
  | nil =>
   intro _;have:∀ l:List Str,(l.map fun _=>(0:Int)).sum=0:=fun l=>by induction l <;> simp_all
   simp only [Yv,List.sum_nil];exact this _
  | cons e r ih =>
   intro hE;simp only [Ql,Yd];rw [ztc,ih fun y hy=>hE y (by simp [hy]),zz9 hnd]
   by_cases hp:e.path ∈ (zax x.counts).map Prod.fst
   ·rw [zP hp]
   ·rw [zN hp];have hno:∀ c ∈ x.counts,c.1 ≠ e.path:=fun c hc he=>hp (plusOf_key.2 ⟨c,hc,he⟩)
    have z1:=zf4 hno;have z2:=zfi hno;rw [hx.plus] at z1;rw [hx.minus] at z2
    have le1:∀ (f:Ev->Nat) (E:List Ev),e ∈ E->f e<=sumE E f:=by
     intro f E he;unfold sumE
     induction E with
     | nil=>cases he
     | cons y r ih =>
      simp only [Ql,Yd];rcases Qh.1 he with rfl | he
      ·omega
      ·have:=ih he;omega
    have l1:=le1 (upK V k e.path) E (hE e (by simp));have l2:=le1 (zb1 V k e.path) E (hE e (by simp))
    have:netK V k e=0:=by
     unfold netK
     by_cases hc:zao V e=true/\e.key=k/\e.op=1
     ·rw [zP hc];have g1:upK V k e.path e=upOf e.n:=zP ⟨hc.1,hc.2.1,hc.2.2,rfl⟩;have g2:zb1 V k e.path e=zcb e.n:=zP ⟨hc.1,hc.2.1,hc.2.2,rfl⟩;rw [g1,z1] at l1;rw [g2,z2] at l2;have:=zp1 e.n;omega
     ·rw [zN hc]
    omega
 exact swap E fun e he=>he
theorem zp2 {E:List Ev} (H:HistOk E) (V:Vec) (k:Str):-6553600<=(E.map (netK V k)).sum/\(E.map (netK V k)).sum<=6553600:=by
 have h:∀ E:List Ev,(∀ e ∈ E,-32768<=e.n/\e.n<=32767)->-32768 * (E.length:Int)<=(E.map (netK V k)).sum/\(E.map (netK V k)).sum<=32768 * (E.length:Int):=by
  intro E
  induction E with
  | nil=>intro _;simp
  | cons e r ih =>
   intro hE;have i:=ih fun x hx=>hE x (by simp [hx])
   have he:=hE e (by simp);have:-32768<=netK V k e/\netK V k e<=32768:=by unfold netK;split <;> omega
   simp only [Ql,Yd,Qp];omega
 have:=h E fun e he=>⟨(H.ok e he).lo,(H.ok e he).hi⟩
 have:=H.most;omega
theorem IsE.value {E:List Ev} (H:HistOk E) {V:Vec} {k:Str} {x:Entry} (hx:IsE E V k x):zb7 x.counts=(E.map (netK V k)).sum:=by
 have h1:=zp2 H V k;have h2:=hx.diff;rw [ztb (by omega) (by omega),h2]
theorem zis {E:List Ev} (H:HistOk E) {f:Ev->Nat} (hf:∀ e ∈ E,f e<=32768):sumE E f<=6553600:=by
 have h:∀ E:List Ev,(∀ e ∈ E,f e<=32768)->sumE E f<=32768 * E.length:=by
  intro E
  induction E with
  | nil=>intro _;simp [sumE]
  | cons e r ih =>
   intro hE;have i:=ih fun x hx=>hE x (by simp [hx])
   have he:=hE e (by simp);unfold sumE at i ⊢;simp only [Ql,Yd,Qp];omega
 have:=h E hf;have:=H.most;omega
theorem zke {n:Int} (h1:-32768<=n) (h2:n<=32767):upOf n<=32768/\zcb n<=32768:=by unfold upOf zcb;constructor <;> split <;> omega
def zcy (V:Vec) (p:Str):Vec:=fun q=>if q=p then V p+1 else V q
theorem zbo {E:List Ev} {V:Vec} {p:Str} (hall:∀ e ∈ E,e.path=p->zao V e=true) {e:Ev} (he:e ∈ E):zao (zcy V p) e=zao V e:=by
 unfold zao zcy
 by_cases hp:e.path=p
 ·have:=hall e he hp;unfold zao at this;simp only [decide_eq_true_eq] at this;subst hp;rw [zP rfl,decide_eq_true this,decide_eq_true (by omega)]
 ·rw [zN hp]
def newE (E:List Ev) (V:Vec) (k:Str) (n:Int) (o:Nat) (tx p:Str):Ev:=⟨k,n,o,tx,E.map (zao V),p,V p+1⟩
theorem zo3 {E:List Ev} {V:Vec} {k:Str} {n:Int} {o:Nat} {tx p:Str} {i:Nat} {e:Ev} (h:E[i]? = some e):(newE E V k n o tx p).kn[i]? = some (zao V e):=by
 unfold newE;simp only;rw [Qs,h];rfl
theorem znk {E:List Ev} {V:Vec} {k:Str} {n:Int} {o:Nat} {tx p:Str} {i:Nat} (h:(newE E V k n o tx p).kn[i]? = some true):∃ e,E[i]? = some e/\zao V e=true:=by
 unfold newE at h;simp only at h;rw [Qs] at h
 cases he:E[i]? with
 | none=>rw [he] at h;cases h
 | some e=>rw [he] at h;exact⟨e,rfl,by simpa using h⟩
theorem zcu {E:List Ev} {e x:Ev} {i:Nat} (h:(E++[e])[i]? = some x):(E[i]? = some x/\i < E.length) ∨ (i=E.length/\x=e):=by
 rcases Vk i E.length with hi | hi
 ·rw [Qo hi] at h;exact .inl ⟨h,hi⟩
 ·rw [Qy hi] at h;have h2:=(Qb.1 h).1;simp only [Qp,Qu] at h2;have h3:=Qa h;exact .inr ⟨by omega,by simpa using h3⟩
theorem zoh {E:List Ev} {e x:Ev} {i:Nat} (h:E[i]? = some x):(E++[e])[i]? = some x:=by rw [Qo (Qb.1 h).1];exact h
theorem zx4 (E:List Ev) (e:Ev):(E++[e])[E.length]? = some e:=by simp
theorem yaa:HistOk [] where
 path:=by intro e he;cases he
 num:=by intro e he;cases he
 rise:=by intro i j a b h;simp at h
 len:=by intro i e h;simp at h
 own:=by intro i j a b h;simp at h
 trans:=by intro i j a b h;simp at h
 text:=by intro e he;cases he
 ok:=by intro e he;cases he
 most:=by simp
theorem HistOk.next {E:List Ev} (H:HistOk E) {V:Vec} (hc:Closed E V) {k:Str} {n:Int} {o:Nat} {tx p:Str} (ho:OpOk k o n tx) (hp:p ≠ []) (hall:∀ e ∈ E,e.path=p->zao V e=true) (hl:E.length < 200):HistOk (E++[newE E V k n o tx p]) where
 path e he:=by rcases Qm.1 he with h | h;exact H.path e h;simp only [Qi] at h;subst h;exact hp
 num e he:=by rcases Qm.1 he with h | h;exact H.num e h;simp only [Qi] at h;subst h;exact Nat.succ_pos _
 rise i j a b ha hb hab hij:=by
  rcases zcu ha with ⟨ha,hi⟩ | ⟨hi,rfl⟩
  ·rcases zcu hb with ⟨hb,hj⟩ | ⟨hj,rfl⟩
   ·exact H.rise i j a b ha hb hab hij
   ·have:=hall a (Qa ha) hab;unfold zao at this;simp only [decide_eq_true_eq] at this;rw [hab] at this;exact Nat.lt_succ_of_le this
  ·rcases zcu hb with ⟨hb,hj⟩ | ⟨hj,rfl⟩ <;> omega
 len i e he:=by
  rcases zcu he with ⟨he,-⟩ | ⟨hi,rfl⟩
  ·exact H.len i e he
  ·rw [hi];simp [newE]
 own i j a b ha hb hab hij:=by
  rcases zcu ha with ⟨ha,hi⟩ | ⟨hi,rfl⟩
  ·rcases zcu hb with ⟨hb,hj⟩ | ⟨hj,rfl⟩
   ·exact H.own i j a b ha hb hab hij
   ·rw [zo3 ha,hall a (Qa ha) hab]
  ·rcases zcu hb with ⟨hb,hj⟩ | ⟨hj,rfl⟩ <;> omega
 trans i j a b ha hb hk h hh:=by
  rcases zcu hb with ⟨hb,hj⟩ | ⟨hj,rfl⟩
  ·rcases zcu ha with ⟨ha,hi⟩ | ⟨hi,rfl⟩
   ·exact H.trans i j a b ha hb hk h hh
   ·have h1:=H.len j b hb;have:=(Qb.1 hk).1;omega
  ·obtain⟨a',ha',hka⟩:=znk hk;have:a'=a:=by rw [zoh ha'] at ha;exact Yk ha
   subst this;have hlen:=H.len i a' ha';have hlt:=(Qb.1 hh).1;have hi:=(Qb.1 ha').1;obtain⟨z,hz⟩:∃ z,E[h]? = some z:=⟨E[h]'(by omega),Qq _⟩
   rw [zo3 hz,hc h i z a' hz ha' hka hh]
 text e he:=by rcases Qm.1 he with h | h;exact H.text e h;simp only [Qi] at h;subst h;have:=ho.short;exact Qc this (by decide)
 ok e he:=by rcases Qm.1 he with h | h;exact H.ok e h;simp only [Qi] at h;subst h;exact ho
 most:=by simp;omega
section
variable {E:List Ev} {V:Vec} {k:Str} {n:Int} {o:Nat} {tx p:Str}
theorem zd4:zao (zcy V p) (newE E V k n o tx p)=true:=by unfold zao zcy newE;simp
theorem zx5 {x:Entry} (H:Hist E) (hx:IsE E V k x) (hp:p ≠ []) (hall:∀ e ∈ E,e.path=p->zao V e=true) (q:Str):TopIs (E++[newE E V k n o tx p]) (fun e=>zao (zcy V p) e=true/\e.key=k/\e.path=q) (ofM (setM x.seen p (V p+1)) q):=by
 obtain⟨h1,h2⟩:=hx.seen q;rw [zho]
 by_cases hq:q=p
 ·subst hq;rw [zP rfl,zN hp];refine ⟨fun e he hk=>?_,.inr ⟨newE E V k n o tx q,Vs _ (Qi.2 rfl),⟨zd4,rfl,rfl⟩,rfl⟩⟩;rcases Qm.1 he with h | h
  ·have:=hall e h hk.2.2;unfold zao at this;simp only [decide_eq_true_eq] at this;rw [hk.2.2] at this;omega
  ·simp only [Qi] at h;subst h;exact Qj _
 ·rw [zN hq];refine ⟨fun e he hk=>?_,h2.imp id fun ⟨e,he,hk,hn⟩=>⟨e,Yh _ he,⟨by rw [zbo hall he];exact hk.1,hk.2⟩,hn⟩⟩;rcases Qm.1 he with h | h
  ·exact h1 e h ⟨by rw [<- zbo hall h];exact hk.1,hk.2⟩
  ·simp only [Qi] at h;subst h;exact absurd hk.2.2 fun h=>hq h.symm
theorem zx6 (hall:∀ e ∈ E,e.path=p->zao V e=true) (q:Str):sumE (E++[newE E V k n o tx p]) (upK (zcy V p) k q)=sumE E (upK V k q)+(if o=1/\p=q then upOf n else 0):=by
 rw [zjz]
 congr 1
 ·exact zeu fun e he=>by unfold upK;rw [zbo hall he]
 ·unfold upK;rw [zd4];simp only [newE,true_and]
theorem zu9 (hall:∀ e ∈ E,e.path=p->zao V e=true) (q:Str):sumE (E++[newE E V k n o tx p]) (zb1 (zcy V p) k q)=sumE E (zb1 V k q)+(if o=1/\p=q then zcb n else 0):=by
 rw [zjz]
 congr 1
 ·exact zeu fun e he=>by unfold zb1;rw [zbo hall he]
 ·unfold zb1;rw [zd4];simp only [newE,true_and]
theorem zva (H:Hist E) (hall:∀ e ∈ E,e.path=p->zao V e=true) (q:zan):Alive (E++[newE E V k n o tx p]) (zcy V p) k q↔(o=2/\q=(tx,p,V p+1)) ∨ (Alive E V k q/\q.1 ≠ tx):=by
 constructor
 ·rintro⟨i,e,h1,h2,h3,h4,rfl,h6⟩;rcases zcu h1 with ⟨h1,hi⟩ | ⟨hi,rfl⟩
  ·have he:=Qa h1;rw [zbo hall he] at h2;refine .inr ⟨⟨i,e,h1,h2,h3,h4,rfl,fun x hx k1=>h6 x (Yh _ hx) (by rw [zbo hall hx];exact k1)⟩,fun ht=>?_⟩;refine h6 (newE E V k n o tx p) (by simp) zd4 rfl ht.symm ?_;rw [zo3 h1,h2]
  ·exact .inl ⟨h4,rfl⟩
 ·rintro (⟨rfl,rfl⟩ | ⟨⟨i,e,h1,h2,h3,h4,rfl,h6⟩,ht⟩)
  ·refine ⟨E.length,_,zx4 _ _,zd4,rfl,rfl,rfl,fun x hx k1 k2 k3 k4=>?_⟩;rcases Qm.1 hx with h | h
   ·obtain⟨j,hj⟩:=zxw h;have hl:=H.len j x hj;have h5:=(Qb.1 k4).1;have h6:=(Qb.1 hj).1;omega
   ·simp only [Qi] at h;subst h;obtain⟨e,he,-⟩:=znk k4;simp at he
  ·refine ⟨i,e,zoh h1,by rw [zbo hall (Qa h1)];exact h2,h3,h4,rfl,fun x hx k1 k2 k3 k4=>?_⟩;rcases Qm.1 hx with h | h
   ·rw [zbo hall h] at k1;exact h6 x h k1 k2 k3 k4
   ·simp only [Qi] at h;subst h;exact ht k3.symm
theorem zx7 (hall:∀ e ∈ E,e.path=p->zao V e=true) (ho:o ≠ 4) {c:Cell} (hc:IsCell E V k c):IsCell (E++[newE E V k n o tx p]) (zcy V p) k c:=by
 refine ⟨fun i e h1 h2 h3 h4=>?_,hc.2.imp id fun ⟨i,e,h1,h2,h3,h4,h5⟩=>⟨i,e,zoh h1,by rw [zbo hall (Qa h1)];exact h2,h3,h4,by rw [zey (Qb.1 h1).1];exact h5⟩⟩;rcases zcu h1 with ⟨h1,hi⟩ | ⟨hi,rfl⟩
 ·rw [zey hi];rw [zbo hall (Qa h1)] at h2;exact hc.1 i e h1 h2 h3 h4
 ·exact absurd h4 ho
theorem zo4:∀ (st:List Nat) (kn:List Bool) (m:Nat),topZ st kn<=m↔∀ (i s:Nat),st[i]? = some s->kn[i]? = some true->s<=m
 | [],kn,m=>by simp [topZ]
 | s :: st,[],m=>by simp [topZ]
 | s :: st,b :: kn,m=>by
  rw [topZ,Nat.max_le,zo4 st kn m]
  constructor
  ·rintro⟨h1,h2⟩ i x hx hk
   cases i with
   | zero=>simp at hx hk;subst hx hk;simpa using h1
   | succ i=>exact h2 i x (by simpa using hx) (by simpa using hk)
  ·intro h;refine ⟨?_,fun i x hx hk=>h (i+1) x (by simpa using hx) (by simpa using hk)⟩
   cases b with
   | false=>simp
   | true=>simpa using h 0 s rfl rfl
theorem zrv {i:Nat} {e:Ev} (h:E[i]? = some e):(zdj E)[i]? = some (zc6 E i):=by
 unfold zc6;have:i < (zdj E).length:=by rw [zfx];exact (Qb.1 h).1
 rw [Qq this]
 rfl
theorem zvb {i:Nat} {e:Ev} (h:E[i]? = some e) (ho:e.op ≠ 4):zc6 E i=0:=by
 induction E using zhq with
 | h0=>simp at h
 | h1 E x ih =>
  rcases zcu h with ⟨h,hi⟩ | ⟨hi,rfl⟩
  ·rw [zey hi];exact ih h
  ·subst hi;rw [zj5,zN ho]
theorem yab {c:Cell} (hc:IsCell E V k c) (hk:∀ e ∈ E,e.op=4->e.key=k):topZ (zdj E) (E.map (zao V))=c.1:=by
 refine Vb ((zo4 _ _ _).2 fun i s hs hkn=>?_) ?_
 ·have hi:i < E.length:=by have:=(Qb.1 hs).1;rwa [zfx] at this
  have he:E[i]? = some E[i]:=Qq hi;rw [zrv he] at hs;rw [Qs,he] at hkn;simp only [Yu,Ym] at hs hkn;subst hs
  by_cases ho:E[i].op=4
  ·have:=hc.1 i _ he hkn (hk _ (Qa he) ho) ho;refine Nat.not_lt.1 fun hl=>?_
   rw [cmpC_lt.2 (.inl hl)] at this;cases this
  ·rw [zvb he ho];exact Yc _
 ·rcases hc.2 with rfl | ⟨i,e,h1,h2,h3,h4,rfl⟩
  ·exact Yc _
  ·refine (zo4 _ _ _).1 (Qj _) i _ (zrv h1) ?_;rw [Qs,h1];simp [h2]
theorem zvc (hall:∀ e ∈ E,e.path=p->zao V e=true) (ho:o=4) (hk:∀ e ∈ E,e.op=4->e.key=k) {c:Cell} (hc:IsCell E V k c):IsCell (E++[newE E V k n o tx p]) (zcy V p) k (c.1+1,tx,false):=by
 have hst:zc6 (E++[newE E V k n o tx p]) E.length=c.1+1:=by rw [zj5,zP (show (newE E V k n o tx p).op=4 from ho)];exact congrArg (·+1) (yab hc hk)
 refine ⟨fun i e h1 h2 h3 h4=>?_,.inr ⟨E.length,_,zx4 _ _,zd4,rfl,ho,by rw [hst];rfl⟩⟩;rcases zcu h1 with ⟨h1,hi⟩ | ⟨hi,rfl⟩
 ·rw [zey hi];rw [zbo hall (Qa h1)] at h2;have:=hc.1 i e h1 h2 h3 h4;refine zbt fun hl=>?_
  rcases cmpC_lt.1 hl with h | ⟨h,-⟩
  ·simp only at h;rw [cmpC_lt.2 (.inl (show c.1 < zc6 E i by omega))] at this;cases this
  ·simp only at h;rw [cmpC_lt.2 (.inl (show c.1 < zc6 E i by omega))] at this;cases this
 ·rw [hi,hst];exact zmz _
theorem others_mem {l:List Item} {s:Str} {q:zan}:q ∈ zbd l s↔q ∈ zab l/\q.1 ≠ s:=by
 unfold zbd;rw [Qk,mem_setL];simp
theorem kinds (H:HistOk E) {k:Str}:∀ f ∈ E,f.key=k->(k=keyN/\f.op=1) ∨ (k=keyA/\(f.op=2 ∨ f.op=3)) ∨ (k=keyC/\f.op=4):=fun f hf hfk=>by have:=(H.ok f hf).kind;rwa [hfk] at this
theorem zx8 (H:HistOk E) {x:Entry} (hx:IsE E V k x) (s:Str):(ze2 (zbd x.items s)).length<=200:=by
 have h:=zdx (ze2 (zbd x.items s)) (E.map (·.tx)) (zdm _) fun t ht=>by unfold ze2 at ht;rw [mem_setL] at ht;obtain⟨q,hq,rfl⟩:=Qg.1 ht;obtain⟨i,e,h1,-,-,-,rfl,-⟩:=(hx.items q).1 (others_mem.1 hq).1;exact Qg.2 ⟨e,Qa h1,rfl⟩
 rw [Qn] at h;exact Qc h H.most
theorem IsE.upd (H:HistOk E) {x:Entry} (hx:IsE E V k x) (ho:OpOk k o n tx) (hp:p ≠ []) (hall:∀ e ∈ E,e.path=p->zao V e=true) (hV:V p < 1000000) (hseen:ofM x.seen p<=V p) :
  (zfb x (o,k,n,tx) (p,V p+1)).2=0/\IsE (E++[newE E V k n o tx p]) (zcy V p) k (zfb x (o,k,n,tx) (p,V p+1)).1:=by
 have nk:keyN ≠ keyA/\keyN ≠ keyC/\keyA ≠ keyC:=by decide
 have hkinds:=kinds H (k:=k);have hcs:=fun (h4:o ≠ 4)=>zx7 (k:=k) (n:=n) (tx:=tx) hall h4 hx.cell
 have hsn:=zx5 (n:=n) (o:=o) (tx:=tx) H.toHist hx hp hall;have hplus:=zx6 (E:=E) (V:=V) (k:=k) (n:=n) (o:=o) (tx:=tx) hall;have hminus:=zu9 (E:=E) (V:=V) (k:=k) (n:=n) (o:=o) (tx:=tx) hall;have halive:=zva (E:=E) (V:=V) (k:=k) (n:=n) (o:=o) (tx:=tx) H.toHist hall
 have hpl:∀ s,zbr x.counts s<=6553600:=fun s=>by rw [hx.plus];exact zis H fun e he=>by unfold upK;have:=zke (H.ok e he).lo (H.ok e he).hi;split <;> omega
 have hml:∀ s,zbf x.counts s<=6553600:=fun s=>by rw [hx.minus];exact zis H fun e he=>by unfold zb1;have:=zke (H.ok e he).lo (H.ok e he).hi;split <;> omega
 unfold zfb;simp only;rcases ho.kind with ⟨rfl,rfl⟩ | ⟨rfl,ho2⟩ | ⟨rfl,rfl⟩
 ·have hval:=hx.value H;have hb:=zp2 H V keyN;have hu:=zke ho.lo ho.hi;have hlo:=ho.lo;have hhi:=ho.hi
  have hok:zmd x.counts p n=true:=by unfold zmd znt zdy;have h1:=hpl p;have h2:=hml p;unfold zbr at h1;unfold zbf at h2;rw [hval];simp only [Yb,Jb,Bool.and_eq_false_iff,decide_eq_true_eq,decide_eq_false_iff_not];refine ⟨⟨?_,?_⟩,⟨?_,?_⟩,?_,?_⟩ <;> omega
  have hd:doE (zas keyN) x (1,keyN,n,tx) (p,V p+1)=some ({ x with counts:=addL x.counts p n },0):=by rw [zrr];unfold doE addC;simp only [if_true,hok]
  rw [hd];simp only [if_true,true_and];refine ⟨hx.key,zft _ _ _,hsn,zxk _ _ _,fun q=>?_,fun q=>?_,hx.itG,fun q=>?_,hcs (by decide)⟩
  ·rw [(zrf _ _ _ _).1,hplus,hx.plus,hx.plus];have:=hpl p;rw [hx.plus] at this
   by_cases hq:q=p
   ·subst hq;rw [zP rfl,zP ⟨rfl,rfl⟩];unfold addU;omega
   ·rw [zN hq,zN fun h=>hq h.2.symm];rfl
  ·rw [(zrf _ _ _ _).2,hminus,hx.minus,hx.minus];have:=hml p;rw [hx.minus] at this
   by_cases hq:q=p
   ·subst hq;rw [zP rfl,zP ⟨rfl,rfl⟩];unfold addU;omega
   ·rw [zN hq,zN fun h=>hq h.2.symm];rfl
  ·have h0:=hx.items_nil fun f hf hfk ho=>by rcases hkinds f hf hfk with h | ⟨h,_⟩ | ⟨h,_⟩;omega;exact nk.1 h;exact nk.2.1 h
   rw [halive,<- hx.items,h0];simp [zab]
 ·have hc0:=hx.counts_nil fun f hf hfk ho=>by rcases hkinds f hf hfk with ⟨h,_⟩ | ⟨_,h⟩ | ⟨h,_⟩;exact nk.1 h.symm;omega;exact nk.2.2 h
  have hpl':∀ q,zbr x.counts q=sumE (E++[newE E V keyA n o tx p]) (upK (zcy V p) keyA q):=fun q=>by rw [hplus,hx.plus,zN fun h=>by rcases ho2 with rfl | rfl <;> exact absurd h.1 (by decide)];rfl
  have hml':∀ q,zbf x.counts q=sumE (E++[newE E V keyA n o tx p]) (zb1 (zcy V p) keyA q):=fun q=>by rw [hminus,hx.minus,zN fun h=>by rcases ho2 with rfl | rfl <;> exact absurd h.1 (by decide)];rfl
  have htx:=ho.short;rcases ho2 with rfl | rfl
  ·have hfew:=zx8 H hx tx
   have hdot:(p,V p+1) ∉ zcx x.items:=fun h=>by
    rw [zcn] at h;obtain⟨q,hq,he⟩:=Qg.1 h;obtain⟨i,e,h1,h2,-,-,rfl,-⟩:=(hx.items q).1 hq;injection he with e1 e2
    unfold zao at h2;simp only [decide_eq_true_eq] at h2;rw [e1] at h2;omega
   have hput:putB x.items tx (p,V p+1)=(za7 (addK (zbd x.items tx) (tx,p,V p+1)),0):=by unfold putB;rw [zN (by omega),zN (by omega)]
   have hd:doE (zas keyA) x (2,keyA,n,tx) (p,V p+1)=some ({ x with items:=za7 (addK (zbd x.items tx) (tx,p,V p+1)) },0):=by rw [zl5];unfold doE;simp only [show ¬ (2=1) by decide,if_true,if_false,hput]
   rw [hd];simp only [if_true,true_and];have hg:=(zxo (s:=tx) (d:=(p,V p+1)) hx.itG ⟨hp,by simp only;omega,by simp only;omega⟩ hdot (by rw [hput])).1;rw [hput] at hg;refine ⟨hx.key,zft _ _ _,hsn,hx.cntG,hpl',hml',hg,fun q=>?_,hcs (by decide)⟩;rw [itemsL_places,zks,others_mem,halive,hx.items]
   constructor
   ·rintro (h | h)
    ·exact .inr h
    ·exact .inl ⟨rfl,h⟩
   ·rintro (h | h)
    ·exact .inr h.2
    ·exact .inl h
  ·have hd:doE (zas keyA) x (3,keyA,n,tx) (p,V p+1)=some ({ x with items:=zf2 x.items tx },0):=by
    rw [zl5];unfold doE;simp only [show ¬ (2=1) by decide,show ¬ (3=2) by decide,if_true,if_false]
   rw [hd];simp only [if_true,true_and];refine ⟨hx.key,zft _ _ _,hsn,hx.cntG,hpl',hml',(zux tx hx.itG).1,fun q=>?_,hcs (by decide)⟩;unfold zf2;rw [itemsL_places,others_mem,halive,hx.items];simp
 ·have hpl':∀ q,zbr x.counts q=sumE (E++[newE E V keyC n 4 tx p]) (upK (zcy V p) keyC q):=fun q=>by rw [hplus,hx.plus,zN fun h=>absurd h.1 (by decide)];rfl
  have hml':∀ q,zbf x.counts q=sumE (E++[newE E V keyC n 4 tx p]) (zb1 (zcy V p) keyC q):=fun q=>by rw [hminus,hx.minus,zN fun h=>absurd h.1 (by decide)];rfl
  have htx:=ho.short
  have hcell:x.cell.1<=200:=by
   rcases hx.cell.2 with h | ⟨i,e,-,-,-,-,h⟩
   ·rw [h];exact Yc _
   ·rw [h];exact Qc (zog E i) H.most
  have hw:za5 x.cell tx false=((x.cell.1+1,tx,false),0):=by unfold za5;rw [zN (by omega),zN (by omega)];simp
  have hd:doE (zas keyC) x (4,keyC,n,tx) (p,V p+1)=some ({ x with cell:=(x.cell.1+1,tx,false) },0):=by rw [zl6];unfold doE;simp only [show ¬ (3=1) by decide,show ¬ (3=2) by decide,if_true,if_false,hw]
  rw [hd];simp only [if_true,true_and];refine ⟨hx.key,zft _ _ _,hsn,hx.cntG,hpl',hml',hx.itG,fun q=>?_,zvc hall rfl (fun e he h4=>?_) hx.cell⟩
  ·have h0:=hx.items_nil fun f hf hfk ho=>by rcases hkinds f hf hfk with ⟨h,_⟩ | ⟨h,_⟩ | ⟨_,h⟩;exact nk.2.1 h.symm;exact nk.2.2 h.symm;omega
   rw [halive,<- hx.items,h0];simp [zab]
  ·rcases (H.ok e he).kind with ⟨-,h⟩ | ⟨-,h⟩ | ⟨h,-⟩
   ·omega
   ·omega
   ·exact h
end
theorem IsS.nil:IsS [] [] za1 where
 all:=zln
 pruned:=rfl
 rise:=.nil
 each:=by intro x hx;cases hx
 has k:=by simp [za1]
 closed:=by intro i j a b h;simp at h
theorem IsS.other {E:List Ev} {pr:List Str} {s:State} {e:Ev} (H:Hist E) (hs:IsS E pr s) (h:zao (vecS s) e=false):IsS (E++[e]) pr s where
 all:=hs.all
 pruned:=hs.pruned
 rise:=hs.rise
 each x hx:=⟨(hs.each x hx).1.other fun hk=>(by rw [h] at hk;cases hk),(hs.each x hx).2⟩
 has k:=by
  rw [hs.has]
  constructor
  ·rintro⟨y,hy,h1⟩;exact⟨y,Yh _ hy,h1⟩
  ·rintro⟨y,hy,h1,h2⟩;rcases Qm.1 hy with hy | hy
   ·exact⟨y,hy,h1,h2⟩
   ·simp only [Qi] at hy;subst hy;rw [h] at h1;cases h1
 closed i j a b ha hb hk hkn:=by
  rcases zcu hb with ⟨hb,hj⟩ | ⟨hj,rfl⟩
  ·rcases zcu ha with ⟨ha,hi⟩ | ⟨hi,rfl⟩
   ·exact hs.closed i j a b ha hb hk hkn
   ·have hbo:E[j]? = some b:=(by assumption);have h1:=H.len j b hbo;have h2:=(Qb.1 hkn).1;have h3:=(Qb.1 hbo).1;omega
  ·rw [h] at hk;cases hk
theorem zp3 (s:State) {p:Str} (hp:p ≠ []) (l:List Entry) (pr:List Str):vecS ⟨setM s.all p (ofM s.all p+1),l,pr⟩=zcy (vecS s) p:=funext fun q=>by
 unfold zcy;simp only [vecS];rw [zho,zN hp]
theorem IsS.upd {E:List Ev} (H:HistOk E) {pr ps:List Str} {s:State} (hs:IsS E pr s) (hv:VecOk ps s) (hpr:∀ p ∈ pr,p ≠ []/\ofM s.all p=0) (hrp:RiseS pr) {k:Str} {o:Nat} {n:Int} {tx p:Str} (ho:OpOk k o n tx) (hp:p ≠ [])
  (hall:∀ e ∈ E,e.path=p->zao (vecS s) e=true) (hV:ofM s.all p < 1000000) :
  (updS s p (o,k,n,tx)).2=0/\IsS (E++[newE E (vecS s) k n o tx p]) pr (updS s p (o,k,n,tx)).1/\vecS (updS s p (o,k,n,tx)).1=zcy (vecS s) p:=by
 have hmay:=hs.may H hv hpr hrp
 have hkey:keyS k=true/\k ≠ []:=by
  unfold keyS;rcases ho.kind with ⟨rfl,_⟩ | ⟨rfl,_⟩ | ⟨rfl,_⟩
  ·rw [zrr];decide
  ·rw [zl5];decide
  ·rw [zl6];decide
 have hx0:IsE E (vecS s) k { getE s.entries k with key:=k }/\(getE s.entries k=zak ∨ (getE s.entries k).key=k):=by
  by_cases h1:k ∈ s.entries.map (·.key)
  ·obtain⟨x,hx,rfl⟩:=zfj h1;rw [zfy hs.rise hx];exact⟨(hs.each x hx).1,.inr rfl⟩
  ·rw [zgx h1];exact⟨IsE.none (znj hs h1),.inl rfl⟩
 have hsn:=zhr hs hx0.1;have hu:=hx0.1.upd H ho hp hall hV (hsn p)
 have hup:updE (getE s.entries k) (o,k,n,tx) (p,ofM s.all p+1)=zfb { getE s.entries k with key:=k } (o,k,n,tx) (p,ofM s.all p+1):=by
  unfold updE;rw [zN (by simp [hkey.1]),zN,zN]
  ·rintro (h | h | h | h)
   ·exact hp h
   ·simp at h
   ·simp only at h;omega
   ·simp only [hasM,Yb,decide_eq_true_eq] at h;have:=hsn p;simp only at this;omega
  ·rintro⟨h1,h2⟩;rcases hx0.2 with h | h
   ·rw [h,show zbl zak zak=true from sameE_iff.2 rfl] at h2;cases h2
   ·exact h1 h
 have hgetD:(za4 s.entries k).getD zak=getE s.entries k:=rfl
 have hlen:s.entries.length<=200:=by
  have h:=zdx (s.entries.map (·.key)) (E.map (·.key)) (by
   have:=hs.rise;unfold RiseS at this
   exact this.imp fun h=>zck h) fun q hq=>by obtain⟨e,he,-,rfl⟩:=(hs.has q).1 hq;exact Qg.2 ⟨e,he,rfl⟩
  rw [Qn,Qn] at h;exact Qc h H.most
 have he:updS s p (o,k,n,tx)=(⟨setM s.all p (ofM s.all p+1),zcg s.entries k (zfb { getE s.entries k with key:=k } (o,k,n,tx) (p,ofM s.all p+1)).1,s.pruned⟩,0):=by unfold updS;simp only [hgetD,hup];rw [zN (by rw [hmay];simp [hp]),zN (by omega),zN (fun h=>by omega),zP hu.1]
 rw [he];refine ⟨rfl,?_,zp3 s hp _ _⟩;have hvec:=zp3 s hp (zcg s.entries k (zfb { getE s.entries k with key:=k } (o,k,n,tx) (p,ofM s.all p+1)).1) s.pruned;have hk':=hu.2.key;generalize (zfb { getE s.entries k with key:=k } (o,k,n,tx) (p,ofM s.all p+1)).1=x' at *
 have hmem:∀ q,q ∈ (zcg s.entries k x').map (·.key)↔q=k ∨ q ∈ s.entries.map (·.key):=by
  intro q;rw [Qg,Qg]
  constructor
  ·rintro⟨y,hy,rfl⟩;rcases putEnts_mem.1 hy with rfl | ⟨hy,-⟩
   ·exact .inl hk'
   ·exact .inr ⟨y,hy,rfl⟩
  ·rintro (rfl | ⟨y,hy,rfl⟩)
   ·exact⟨x',putEnts_mem.2 (.inl rfl),hk'⟩
   ·by_cases h:y.key=k
    ·exact⟨x',putEnts_mem.2 (.inl rfl),hk'.trans h.symm⟩
    ·exact⟨y,putEnts_mem.2 (.inr ⟨hy,h⟩),rfl⟩
 refine ⟨zft _ _ _,hs.pruned,zro hs.rise hk',fun y hy=>?_,fun q=>?_,?_⟩
 ·rw [hvec];rcases putEnts_mem.1 hy with rfl | ⟨hy,hne⟩
  ·rw [hk'];exact⟨hu.2,hkey.2⟩
  ·refine ⟨?_,(hs.each y hy).2⟩;refine IsE.other (e:=newE E (vecS s) k n o tx p) ?_ fun _ h=>hne h.symm
   exact (hs.each y hy).1.congr fun e he _=>(zbo hall he).symm
 ·rw [hvec];simp only;rw [hmem,hs.has]
  constructor
  ·rintro (rfl | ⟨e,he,h1,h2⟩)
   ·exact⟨newE E (vecS s) q n o tx p,Vs _ (Qi.2 rfl),zd4,rfl⟩
   ·exact⟨e,Yh _ he,by rw [zbo hall he];exact h1,h2⟩
  ·rintro⟨e,he,h1,h2⟩;rcases Qm.1 he with he | he
   ·exact .inr ⟨e,he,by rw [<- zbo hall he];exact h1,h2⟩
   ·simp only [Qi] at he;subst he;exact .inl h2.symm
 ·rw [hvec];intro i j a b ha hb hkb hkn;rcases zcu hb with ⟨hb,hj⟩ | ⟨hj,rfl⟩
  ·rcases zcu ha with ⟨ha,hi⟩ | ⟨hi,rfl⟩
   ·rw [zbo hall (Qa ha)];rw [zbo hall (Qa hb)] at hkb;exact hs.closed i j a b ha hb hkb hkn
   ·exact zd4
  ·obtain⟨a',ha',hka⟩:=znk hkn;have:a'=a:=by rw [zoh ha'] at ha;exact Yk ha
   subst this;rw [zbo hall (Qa ha')];exact hka
theorem zoi {l:List Item} {t:Str}:t ∈ zdo l↔∃ q ∈ zab l,q.1=t:=by
 unfold zdo
 constructor
 ·intro h;obtain⟨it,hit,rfl⟩:=Qg.1 h;have hr:=zf8 (zco (ltOf cmpP) (setL (zab l))) (zhz (zdm _));obtain⟨hne,-⟩:=hr.2 it hit
  cases hd:it.2 with
  | nil=>exact absurd hd hne
  | cons d ds=>have:=ze4 hit (d:=d) (by rw [hd];simp);have h2:=itemsL_places.1 this;rw [mem_setL] at h2;exact⟨_,h2,rfl⟩
 ·rintro⟨q,hq,rfl⟩;have:q ∈ zab (za7 (setL (zab l))):=by rw [itemsL_places,mem_setL];exact hq
  obtain⟨it,hit,hm⟩:=Yz.1 this;obtain⟨d,-,rfl⟩:=Qg.1 hm;exact Qg.2 ⟨it,hit,rfl⟩
theorem zm2 (l:List Item):RiseS (zdo l):=by
 unfold zdo RiseS;rw [Qr];exact (zf8 (zco (ltOf cmpP) (setL (zab l))) (zhz (zdm _))).1
structure Rep where
 s:State
 knew:List Bool
 asked:List Mark
def rep0:Rep:=⟨za1,[],[]⟩
def zac (k:Nat):Str:=[49,46,UInt8.ofNat (49+k)]
theorem zp4 {i j:Nat} (hi:i < 16) (hj:j < 16) (h:zac i=zac j):i=j:=by
 unfold zac at h;simp only [Yt,true_and,and_true] at h;have h1:=congrArg UInt8.toNat h;simp only [UInt8.toNat_ofNat',Nat.reducePow] at h1;omega
theorem zfz (k:Nat):zac k ≠ []:=by simp [zac]
def zf9 (n:Nat):List Str:=(List.range n).map zac
structure RepOk (E:List Ev) (n:Nat) (r:Rep):Prop where
 is:IsS E [] r.s
 paths:∀ p,ofM r.s.all p ≠ 0->p ∈ zf9 n
 most:∀ p,ofM r.s.all p<=E.length
 knew:r.knew=E.map (zao (vecS r.s))
 asked:∀ p,ofM r.asked p<=ofM r.s.all p
 askedG:GoodM r.asked
structure RepsOk (E:List Ev) (n:Nat) (rs:List Rep):Prop where
 hist:HistOk E
 len:rs.length=n
 few:n<=4
 each:∀ (k:Nat) (r:Rep),rs[k]? = some r->RepOk E n r
 own:∀ (k:Nat) (r:Rep),rs[k]? = some r->∀ e ∈ E,e.path=zac k->zao (vecS r.s) e=true
 top:∀ (k:Nat) (r:Rep) (j:Nat) (q:Rep),rs[k]? = some r->rs[j]? = some q->ofM q.s.all (zac k)<=ofM r.s.all (zac k)
theorem RepOk.vec {E:List Ev} {n:Nat} {r:Rep} (h:RepOk E n r) (hn:n<=4) (hl:E.length<=200):VecOk (zf9 n) r.s :=
 ⟨h.paths,by simp [zf9];omega,fun p=>by have:=h.most p;omega⟩
theorem RepsOk.zero {n:Nat} (hn:n<=4):RepsOk [] n (List.replicate n rep0) where
 hist:=yaa
 len:=by simp
 few:=hn
 each k r h:=by have:=Yx (Qa h);subst this;exact⟨IsS.nil,fun p hp=>absurd (zff p) hp,fun p=>Vd (zff p),rfl,fun p=>Qj _,zln⟩
 own k r h e he:=by cases he
 top k r j q h1 h2:=by have:=Yx (Qa h1);subst this;have:=Yx (Qa h2);subst this;exact Qj _
theorem zcv {α:Type} {l:List α} {k i:Nat} {x y:α} (h:(l.set k x)[i]? = some y):(i=k/\y=x/\k < l.length) ∨ (i ≠ k/\l[i]? = some y):=by
 rw [Vj] at h
 by_cases hik:k=i
 ·rw [zP hik] at h
  by_cases hl:k < l.length
  ·rw [zP (by omega)] at h;exact .inl ⟨hik.symm,(Yk h).symm,hl⟩
  ·rw [zN (by omega)] at h;cases h
 ·rw [zN hik] at h;exact .inr ⟨fun e=>hik e.symm,h⟩
def askR (rs:List Rep) (k:Nat):List Rep:=match rs[k]? with | some r=>rs.set k { r with asked:=r.s.all } | none=>rs
theorem RepsOk.ask {E:List Ev} {n:Nat} {rs:List Rep} (h:RepsOk E n rs) (k:Nat):RepsOk E n (askR rs k):=by
 unfold askR
 cases hk:rs[k]? with
 | none=>exact h
 | some r =>
  have hr:=h.each k r hk;refine ⟨h.hist,by simp [h.len],h.few,fun i q hi=>?_,fun i q hi=>?_,fun i q j t hi hj=>?_⟩
  ·rcases zcv hi with ⟨-,rfl,-⟩ | ⟨-,hi⟩
   ·exact⟨hr.is,hr.paths,hr.most,hr.knew,fun p=>Qj _,hr.is.all⟩
   ·exact h.each i q hi
  ·rcases zcv hi with ⟨rfl,rfl,-⟩ | ⟨-,hi⟩
   ·exact h.own i r hk
   ·exact h.own i q hi
  ·have old:∀ {i:Nat} {q:Rep},(rs.set k { r with asked:=r.s.all })[i]? = some q->∃ q',rs[i]? = some q'/\q'.s=q.s:=fun {i q} hi=>by
    rcases zcv hi with ⟨rfl,rfl,-⟩ | ⟨-,hi⟩
    ·exact⟨r,hk,rfl⟩
    ·exact⟨q,hi,rfl⟩
   obtain⟨q',h1,e1⟩:=old hi;obtain⟨t',h2,e2⟩:=old hj;rw [<- e1,<- e2];exact h.top i q' j t' h1 h2
def orL (a b:List Bool):List Bool:=List.zipWith (fun x y=>x || y) a b
def zmi (rs:List Rep) (k o:Nat):List Rep:=match rs[k]?,rs[o]? with | some r,some q=>rs.set k { r with s:=zb9 r.s q.s,knew:=orL r.knew q.knew } | _,_=>rs
theorem zm3:Lib.compact (zbw (([]:List Str)++[])) = []:=by unfold zbw;simp [Lib.compact];rfl
theorem RepsOk.join {E:List Ev} {n:Nat} {rs:List Rep} (h:RepsOk E n rs) (k o:Nat):RepsOk E n (zmi rs k o):=by
 unfold zmi
 cases hk:rs[k]? with
 | none=>exact h
 | some r =>
  cases ho:rs[o]? with
  | none=>exact h
  | some q =>
   have hr:=h.each k r hk;have hq:=h.each o q ho;have hv:=zgy r.s q.s;have hall:∀ p,ofM (zb9 r.s q.s).all p=max (ofM r.s.all p) (ofM q.s.all p):=fun p=>zfs _ _ p
   refine ⟨h.hist,by simp [h.len],h.few,fun i x hi=>?_,fun i x hi=>?_,fun i x j t hi hj=>?_⟩
   ·rcases zcv hi with ⟨-,rfl,-⟩ | ⟨-,hi⟩
    ·refine ⟨hr.is.join h.hist.toHist hq.is zm3,fun p hp=>?_,fun p=>?_,?_,fun p=>?_,hr.askedG⟩
     ·simp only [hall] at hp
      by_cases h1:ofM r.s.all p=0
      ·exact hq.paths p (by omega)
      ·exact hr.paths p h1
     ·simp only [hall];have:=hr.most p;have:=hq.most p;omega
     ·simp only;rw [hv,hr.knew,hq.knew];unfold orL;refine List.ext_getElem? fun m=>?_
      simp only [List.getElem?_zipWith,Qs]
      cases E[m]? with
      | none=>rfl
      | some e=>simp [zba]
     ·simp only [hall];have:=hr.asked p;omega
    ·exact h.each i x hi
   ·rcases zcv hi with ⟨rfl,rfl,-⟩ | ⟨-,hi⟩
    ·intro e he hp;simp only;rw [hv,zba,h.own i r hk e he hp,Yw]
    ·exact h.own i x hi
   ·rcases zcv hi with ⟨rfl,rfl,-⟩ | ⟨-,hi2⟩
    ·simp only [hall];rcases zcv hj with ⟨rfl,rfl,-⟩ | ⟨-,hj⟩
     ·simp only [hall];exact Qj _
     ·have:=h.top i r j t hk hj;omega
    ·rcases zcv hj with ⟨rfl,rfl,-⟩ | ⟨-,hj⟩
     ·simp only [hall];have:=h.top i x _ r hi2 hk;have:=h.top i x o q hi2 ho;omega
     ·exact h.top i x j t hi2 hj
def updR (E:List Ev) (rs:List Rep) (k:Nat) (key:Str) (o:Nat) (n:Int) (tx:Str):List Ev × List Rep :=
 match rs[k]? with
 | some r=>(E++[newE E (vecS r.s) key n o tx (zac k)],(rs.mapIdx fun i q=>if i=k then { q with s:=(updS r.s (zac k) (o,key,n,tx)).1,knew:=q.knew++[true] } else { q with knew:=q.knew++[false] }))
 | none=>(E,rs)
theorem RepsOk.upd {E:List Ev} {n:Nat} {rs:List Rep} (h:RepsOk E n rs) {k:Nat} (hk:k < n) (hl:E.length < 200) {key tx:Str} {o:Nat} {m:Int} (ho:OpOk key o m tx) :
  (∃ r,rs[k]? = some r/\(updS r.s (zac k) (o,key,m,tx)).2=0)/\RepsOk (updR E rs k key o m tx).1 n (updR E rs k key o m tx).2:=by
 have hkr:k < rs.length:=by rw [h.len];exact hk
 have hkr:rs[k]? = some rs[k]:=Qq hkr;generalize rs[k]=r at hkr;have hr:=h.each k r hkr;have hfew:=h.few;have hmost:=hr.most (zac k);obtain⟨u1,u2,u3⟩:=hr.is.upd h.hist (hr.vec h.few h.hist.most) (by intro p hp;cases hp) .nil ho (zfz k) (h.own k r hkr) (by omega);refine ⟨⟨r,hkr,u1⟩,?_⟩
 have hE:updR E rs k key o m tx=(E++[newE E (vecS r.s) key m o tx (zac k)],(rs.mapIdx fun i q=>if i=k then { q with s:=(updS r.s (zac k) (o,key,m,tx)).1,knew:=q.knew++[true] } else { q with knew:=q.knew++[false] })):=by unfold updR;rw [hkr]
 rw [hE];have hH:=h.hist.next hr.is.closed ho (zfz k) (h.own k r hkr) hl;generalize (updS r.s (zac k) (o,key,m,tx)).1=s' at *;have hvec:∀ p,ofM s'.all p=zcy (vecS r.s) (zac k) p:=fun p=>congrFun u3 p
 have hnew:∀ j q,j ≠ k->rs[j]? = some q->zao (vecS q.s) (newE E (vecS r.s) key m o tx (zac k))=false:=fun j q hj hq=>by have:=h.top k r j q hkr hq;unfold zao newE;simp only [decide_eq_false_iff_not,vecS];omega
 have at_:∀ {i:Nat} {x:Rep},(rs.mapIdx fun i q=>if i=k then { q with s:=s',knew:=q.knew++[true] } else { q with knew:=q.knew++[false] })[i]? = some x->(i=k/\x = { r with s:=s',knew:=r.knew++[true] }) ∨ (i ≠ k/\∃ q,rs[i]? = some q/\x = { q with knew:=q.knew++[false] }):=by
  intro i x hx;rw [List.getElem?_mapIdx] at hx
  by_cases hi:i=k
  ·subst hi;rw [hkr] at hx;simp only [Yu,if_true,Ym] at hx;exact .inl ⟨rfl,hx.symm⟩
  ·cases hq:rs[i]? with
   | none=>rw [hq] at hx;cases hx
   | some q=>rw [hq] at hx;simp only [Yu,zN hi,Ym] at hx;exact .inr ⟨hi,q,rfl,hx.symm⟩
 refine ⟨hH,by simp [h.len],h.few,fun i x hx=>?_,fun i x hx=>?_,fun i x j t hx ht=>?_⟩
 ·rcases at_ hx with ⟨rfl,rfl⟩ | ⟨hi,q,hq,rfl⟩
  ·refine ⟨u2,fun p hp=>?_,fun p=>?_,?_,fun p=>?_,hr.askedG⟩
   ·simp only [hvec] at hp;unfold zcy at hp
    by_cases hpk:p=zac i
    ·subst hpk;exact Qg.2 ⟨i,List.mem_range.2 hk,rfl⟩
    ·rw [zN hpk] at hp;exact hr.paths p hp
   ·simp only [hvec,Qw,Qp,Qu];unfold zcy;have:=hr.most p;have:=hr.most (zac i);simp only [vecS]
    split <;> omega
   ·simp only;rw [u3,hr.knew,Vo,Ql,Yv,zd4]
    congr 1
    exact Yi fun e he=>(zbo (h.own i r hkr) he).symm
   ·simp only [hvec];unfold zcy;have:=hr.asked p;simp only [vecS]
    split
    ·rename_i hpk;subst hpk;omega
    ·exact this
  ·have hq':=h.each i q hq;refine ⟨hq'.is.other h.hist.toHist (hnew i q hi hq),hq'.paths,fun p=>?_,?_,hq'.asked,hq'.askedG⟩
   ·simp only [Qw,Qp,Qu];have:=hq'.most p;omega
   ·simp only;rw [hq'.knew,Vo,Ql,Yv,hnew i q hi hq]
 ·intro e he hp;rcases at_ hx with ⟨rfl,rfl⟩ | ⟨hi,q,hq,rfl⟩
  ·simp only;rw [u3];rcases Qm.1 he with he | he
   ·rw [zbo (h.own i r hkr) he];exact h.own i r hkr e he hp
   ·simp only [Qi] at he;subst he;exact zd4
  ·rcases Qm.1 he with he | he
   ·exact h.own i q hq e he hp
   ·simp only [Qi] at he;subst he;have hin:i < n:=(by have:=(Qb.1 hq).1;rwa [h.len] at this);exact absurd (zp4 (by omega) (by omega) hp).symm hi
 ·have le_next:∀ p,ofM r.s.all p<=ofM s'.all p:=fun p=>by
   rw [hvec];unfold zcy;simp only [vecS];split
   ·rename_i hpk;subst hpk;omega
   ·exact Qj _
  rcases at_ hx with ⟨rfl,rfl⟩ | ⟨hi,q,hq,rfl⟩
  ·rcases at_ ht with ⟨rfl,rfl⟩ | ⟨hj,q2,hq2,rfl⟩
   ·exact Qj _
   ·have:=h.top i r j q2 hkr hq2;have:=le_next (zac i);simp only;omega
  ·have hin:i < n:=(by have:=(Qb.1 hq).1;rwa [h.len] at this);rcases at_ ht with ⟨rfl,rfl⟩ | ⟨hj,q2,hq2,rfl⟩
   ·have:=h.top i q j r hq hkr;simp only;rw [hvec];unfold zcy;rw [zN fun e=>hi (zp4 (by omega) (by omega) e)];exact this
   ·exact h.top i q j q2 hq hq2
def zdf (b:Bool):List Value:=[.bool b]
abbrev zvd:Shape Bool:=flat 1 zdf (fun _=>rfl) (fun _ u hu=>by simp [zdf] at hu;rcases hu with rfl;rfl)
def evT:Shape Ev where
 k:=5
 rd w S x vs:=∃ v,vs = [St x.key,I x.n,K8 x.op,St x.tx,v]/\Sl zvd w S v x.kn
 len h:=by obtain⟨_,rfl,-⟩:=h;rfl
 one h:=by
  obtain⟨v,rfl,h⟩:=h;intro u hu;simp at hu;rcases hu with rfl | rfl | rfl | rfl | rfl
  ·rfl
  ·rfl
  ·rfl
  ·rfl
  ·exact h.one
 keep h hs:=by obtain⟨v,rfl,h⟩:=h;exact⟨v,rfl,h.keep (by decide) hs⟩
 mono h hs:=by obtain⟨v,rfl,h⟩:=h;exact⟨v,rfl,h.mono (by decide) hs⟩
structure RepV where
 s1:Value
 s2:Value
 s3:Value
 kn:Value
 ask:Value
def RepV.cells (v:RepV):List Value:=[v.s1,v.s2,v.s3,v.kn,v.ask]
def yc2 (X:Nat->Prop) (R:Nat) (vs:List RepV) (va:Value) (b:Nat):Prop:=b ≠ R/\(∀ v ∈ vs,¬ zad v.kn b)/\¬ zad va b/\¬ X b
abbrev Free (R:Nat) (vs:List RepV) (va:Value) (b:Nat):Prop:=yc2 (fun _=>False) R vs va b
structure RepAt (W:World) (base:Nat) (F:Nat->Prop) (v:RepV) (r:Rep):Prop where
 st:StAt W F r.s v.s1 v.s2 v.s3
 kn:Own W base 4 1 v.kn r.knew.length (r.knew.flatMap zdf)
 ask:Sl markT W F v.ask r.asked
structure MemX (X:Nat->Prop) (W:World) (base R:Nat) (vs:List RepV) (rs:List Rep) (va:Value) (E:List Ev):Prop where
 row:RowIs W R 75 (vs.flatMap RepV.cells) []
 len:vs.length=rs.length
 lo:base<=R
 rep:∀ (k:Nat) (v:RepV) (r:Rep),vs[k]? = some v->rs[k]? = some r->RepAt W base (yc2 X R vs va) v r
 noR:∀ v ∈ vs,¬ zad v.kn R
 apart:∀ (i j:Nat) (v u:RepV) (b:Nat),i ≠ j->vs[i]? = some v->vs[j]? = some u->zad v.kn b->¬ zad u.kn b
 noEv:∀ v ∈ vs,∀ b,zad v.kn b->¬ zad va b
 evR:¬ zad va R
 ev:OwnL evT 179 W base (yc2 X R vs va) va E
 ltX:∀ b,X b->b < W.heap.size
abbrev Mem (W:World) (base R:Nat) (vs:List RepV) (rs:List Rep) (va:Value) (E:List Ev):Prop:=MemX (fun _=>False) W base R vs rs va E
section
variable {X:Nat->Prop} {W W':World} {base R:Nat} {vs:List RepV} {rs:List Rep} {va:Value} {E:List Ev}
theorem RepAt.ext {F:Nat->Prop} {v:RepV} {r:Rep} (h:RepAt W base F v r) (he:Ext W W'):RepAt W' base F v r:=⟨h.st.ext he,h.kn.ext he,h.ask.ext (by decide) he⟩
theorem RepAt.mono {F F':Nat->Prop} {v:RepV} {r:Rep} (h:RepAt W base F v r) (hf:∀ b,b < W.heap.size->F b->F' b):RepAt W base F' v r:=⟨h.st.mono hf,h.kn,h.ask.mono (by decide) hf⟩
theorem RepAt.keep {F:Nat->Prop} {v:RepV} {r:Rep} (h:RepAt W base F v r) (hs:∀ b,F b->b < W.heap.size->W'.heap[b]? = W.heap[b]?) (hk:∀ b,zad v.kn b->b < W.heap.size->W'.heap[b]? = W.heap[b]?):RepAt W' base F v r:=⟨h.st.keep hs,h.kn.keep hk,h.ask.keep (by decide) hs⟩
theorem RepAt.move {F F':Nat->Prop} {v:RepV} {r:Rep} (h:RepAt W base F v r) (hs:∀ b,F b->b < W.heap.size->W'.heap[b]? = W.heap[b]?/\F' b) (hk:∀ b,zad v.kn b->b < W.heap.size->W'.heap[b]? = W.heap[b]?):RepAt W' base F' v r :=
 (((h.mono (F':=fun b=>F b/\b < W.heap.size) fun b hb hf=>⟨hf,hb⟩).keep (fun b hb hl=>(hs b hb.1 hl).1) hk)).mono fun b _ hb=>(hs b hb.1 hb.2).2
theorem OwnL.move {α:Type} {T:Shape α} {tid:Nat} {S S':Nat->Prop} {v:Value} {l:List α} (h:OwnL T tid W base S v l) (hs:∀ b,S b->b < W.heap.size->W'.heap[b]? = W.heap[b]?/\S' b) (ho:∀ b,zad v b->b < W.heap.size->W'.heap[b]? = W.heap[b]?):OwnL T tid W' base S' v l :=
 (((h.mono (S':=fun b=>S b/\b < W.heap.size) fun b hb hf=>⟨hf,hb⟩).keep (fun b hb hl=>(hs b hb.1 hl).1) ho)).mono fun b _ hb=>(hs b hb.1 hb.2).2
theorem MemX.ext (h:MemX X W base R vs rs va E) (he:Ext W W'):MemX X W' base R vs rs va E :=
 ⟨h.row.ext he,h.len,h.lo,fun k v r hv hr=>(h.rep k v r hv hr).ext he,h.noR,h.apart,h.noEv,h.evR,h.ev.ext he,fun b hb=>Yq (h.ltX b hb) he.size⟩
theorem MemX.bl (h:MemX X W base R vs rs va E):base<=W.heap.size:=Qc h.lo (Nat.le_of_lt h.row.lt)
theorem MemX.lt_kn (h:MemX X W base R vs rs va E) {v:RepV} (hv:v ∈ vs) {b:Nat} (hb:zad v.kn b):b < W.heap.size:=by
 obtain⟨k,hk⟩:=Ys.1 hv;have hkl:=(Qb.1 hk).1;obtain⟨r,hr⟩:∃ r,rs[k]? = some r:=⟨_,Qq (by rw [<- h.len];exact hkl)⟩
 exact ((h.rep k v r hk hr).kn.base_le hb).2
theorem MemX.free_new (h:MemX X W base R vs rs va E) {b:Nat} (hb:W.heap.size<=b):yc2 X R vs va b :=
 ⟨fun e=>by have:=h.row.lt;omega,fun v hv ho=>by have:=h.lt_kn hv ho;omega,fun ho=>by have:=(h.ev.base_le ho).2;omega,fun hx=>by have:=h.ltX b hx;omega⟩
theorem MemX.get (h:MemX X W base R vs rs va E) {k:Nat} {r:Rep} (hr:rs[k]? = some r):∃ v,vs[k]? = some v/\RepAt W base (yc2 X R vs va) v r:=by
 have hk:=(Qb.1 hr).1;have hv:vs[k]? = some (vs[k]'(by rw [h.len];exact hk)):=Qq _;exact⟨_,hv,h.rep k _ r hv hr⟩
theorem zkf:∀ (vs:List RepV) (k j:Nat) (v:RepV) (u:Value),vs[k]? = some v->v.cells[j]? = some u->(vs.flatMap RepV.cells)[k * 5+j]? = some u
 | [],k,j,v,u,h,_=>by simp at h
 | a :: r,0,j,v,u,h,hj=>by simp at h;subst h;have hjl:=(Qb.1 hj).1;rw [Qt,Nat.zero_mul,Yr,Qo hjl];exact hj
 | a :: r,k+1,j,v,u,h,hj=>by rw [Qt,Qy (by simp [RepV.cells];omega),show (k+1) * 5+j - a.cells.length=k * 5+j by simp [RepV.cells];omega];exact zkf r k j v u (by simpa using h) hj
theorem zhs:∀ (vs:List RepV) (k j:Nat) (v v':RepV) (u:Value),vs[k]? = some v->j < 5->v'.cells=v.cells.set j u->(vs.flatMap RepV.cells).set (k * 5+j) u=(vs.set k v').flatMap RepV.cells
 | [],k,j,v,v',u,h,_,_=>by simp at h
 | a :: r,0,j,v,v',u,h,hj,he=>by simp at h;subst h;rw [Qt,Nat.zero_mul,Yr,List.set_append_left _ _ (by simpa [RepV.cells] using hj),Qv,Qt,he]
 | a :: r,k+1,j,v,v',u,h,hj,he=>by
  rw [Qt,List.set_append_right _ _ (by simp [RepV.cells];omega),show (k+1) * 5+j - a.cells.length=k * 5+j by simp [RepV.cells];omega,zhs r k j v v' u (by simpa using h) hj he]
  rfl
theorem MemX.cell (h:MemX X W base R vs rs va E) {k j:Nat} {v:RepV} {u:Value} (hv:vs[k]? = some v) (hj:v.cells[j]? = some u):W.cell? ⟨R,k * 5+j,none⟩=some u:=h.row.cell (zkf vs k j v u hv hj)
theorem MemX.bound (h:MemX X W base R vs rs va E) {k j:Nat} {v:RepV} (hv:vs[k]? = some v) (hj:j < 5):k * 5+j < (vs.flatMap RepV.cells).length:=by
 have:=zkf vs k j v (v.cells[j]'(by simpa [RepV.cells] using hj)) hv (Qq _);exact (Qb.1 this).1
theorem zmj {α:Type} {l:List α} {k:Nat} {x y:α} (h:y ∈ l.set k x):y=x ∨ y ∈ l:=by
 rcases List.mem_or_eq_of_mem_set h with h | h
 ·exact .inr h
 ·exact .inl h
theorem MemX.write (h:MemX X W base R vs rs va E) {k:Nat} {v v':RepV} {r':Rep} (hv:vs[k]? = some v) (hkn:v'.kn=v.kn) (hr:(rs[k]?).map (·.knew)=some r'.knew)
  (hst:StAt W (yc2 X R vs va) r'.s v'.s1 v'.s2 v'.s3) (has:Sl markT W (yc2 X R vs va) v'.ask r'.asked)
  (hW:∀ b,b ≠ R->W'.heap[b]? = W.heap[b]?) (hz:W.heap.size<=W'.heap.size) (hrow:RowIs W' R 75 ((vs.set k v').flatMap RepV.cells) []):MemX X W' base R (vs.set k v') (rs.set k r') va E:=by
 have hvm:v ∈ vs:=Qa hv
 have hset:∀ y ∈ vs.set k v',∀ b,zad y.kn b->∃ y0 ∈ vs,zad y0.kn b:=fun y hy b hb=>by
  rcases zmj hy with rfl | hy
  ·exact⟨v,hvm,by rw [<- hkn];exact hb⟩
  ·exact⟨y,hy,hb⟩
 have at_:∀ {i:Nat} {y:RepV},(vs.set k v')[i]? = some y->∃ y0,vs[i]? = some y0/\y0.kn=y.kn:=fun {i y} hy=>by
  rcases zcv hy with ⟨rfl,rfl,-⟩ | ⟨-,hy⟩
  ·exact⟨v,hv,hkn.symm⟩
  ·exact⟨y,hy,rfl⟩
 have hF:∀ b,yc2 X R vs va b->yc2 X R (vs.set k v') va b:=fun b hb=>⟨hb.1,fun y hy ho=>by obtain⟨y0,h0,h1⟩:=hset y hy b ho;exact hb.2.1 y0 h0 h1,hb.2.2⟩
 have keepF:∀ b,yc2 X R vs va b->b < W.heap.size->W'.heap[b]? = W.heap[b]?:=fun b hb _=>hW b hb.1
 have hkR:∀ y ∈ vs,∀ b,zad y.kn b->b < W.heap.size->W'.heap[b]? = W.heap[b]?:=fun y hy b hb _=>hW b fun e=>h.noR y hy (e ▸ hb)
 refine ⟨hrow,by simp [h.len],h.lo,fun i y q hy hq=>?_,fun y hy hb=>?_,fun i j y u b hij hy hu hb=>?_,fun y hy b hb=>?_,h.evR,?_,fun b hb=>Yq (h.ltX b hb) hz⟩
 ·rcases zcv hy with ⟨rfl,rfl,-⟩ | ⟨hne,hy⟩
  ·have hq':q=r':=by
    rcases zcv hq with ⟨-,e,-⟩ | ⟨hne,-⟩
    ·exact e
    ·exact absurd rfl hne
   subst hq';refine ⟨(hst.mono fun b _ hb=>hF b hb).keep fun b hb hl=>?_,?_,(has.mono (by decide) fun b _ hb=>hF b hb).keep (by decide) fun b hb hl=>?_⟩
   ·exact hW b hb.1
   ·cases hrk:rs[i]? with
    | none=>rw [hrk] at hr;cases hr
    | some q0 =>
     rw [hrk] at hr;have:=(h.rep i v q0 hv hrk).kn.keep fun b hb hl=>hkR v hvm b hb hl
     rw [hkn,<- Yk hr];exact this
   ·exact hW b hb.1
  ·have hq':rs[i]? = some q:=by
    rcases zcv hq with ⟨e,-,-⟩ | ⟨-,hq⟩
    ·exact absurd e hne
    ·exact hq
   exact ((h.rep i y q hy hq').mono fun b _ hb=>hF b hb).keep (fun b hb _=>hW b hb.1) fun b hb hl=>hkR y (Qa hy) b hb hl
 ·obtain⟨y0,h0,h1⟩:=hset y hy R hb;exact h.noR y0 h0 h1
 ·obtain⟨y0,h0,e0⟩:=at_ hy;obtain⟨u0,h1,e1⟩:=at_ hu;rw [<- e0] at hb;rw [<- e1];exact h.apart i j y0 u0 b hij h0 h1 hb
 ·obtain⟨y0,h0,h1⟩:=hset y hy b hb;exact h.noEv y0 h0 b h1
 ·exact (h.ev.mono fun b _ hb=>hF b hb).keep (fun b hb _=>hW b hb.1) fun b hb _=>hW b fun e=>h.evR (e ▸ hb)
theorem MemX.guard (h:MemX X W base R vs rs va E) {q:Nat} (hx:Ext W W') (h1:W.heap.size<=q) (h2:q < W'.heap.size):MemX (fun b=>X b ∨ b=q) W' base R vs rs va E:=by
 have hF:∀ b,b < W.heap.size->yc2 X R vs va b->yc2 (fun b=>X b ∨ b=q) R vs va b:=fun b hb hf=>⟨hf.1,hf.2.1,hf.2.2.1,fun hx=>hx.elim hf.2.2.2 fun e=>by omega⟩
 exact⟨h.row.ext hx,h.len,h.lo,fun k v r hv hr=>((h.rep k v r hv hr).mono hF).ext hx,h.noR,h.apart,h.noEv,h.evR,(h.ev.mono hF).ext hx,fun b hb=>hb.elim (fun hb=>Yq (h.ltX b hb) hx.size) fun e=>by omega⟩
theorem MemX.free {X':Nat->Prop} (h:MemX X W base R vs rs va E) (hX:∀ b,X' b->X b):MemX X' W base R vs rs va E:=by
 have hF:∀ b,b < W.heap.size->yc2 X R vs va b->yc2 X' R vs va b:=fun b _ hf=>⟨hf.1,hf.2.1,hf.2.2.1,fun hx=>hf.2.2.2 (hX b hx)⟩
 exact⟨h.row,h.len,h.lo,fun k v r hv hr=>(h.rep k v r hv hr).mono hF,h.noR,h.apart,h.noEv,h.evR,h.ev.mono hF,fun b hb=>h.ltX b (hX b hb)⟩
theorem MemX.beside (h:MemX X W base R vs rs va E) {q j:Nat} (hq:X q) (hR:q ≠ R) (hk:∀ v ∈ vs,¬ zad v.kn q) (he:¬ zad va q) (u:Value):MemX X (W.setCell ⟨q,j,none⟩ u) base R vs rs va E:=by
 have hs:∀ b,b ≠ q->(W.setCell ⟨q,j,none⟩ u).heap[b]? = W.heap[b]?:=fun b hb=>Qe _ _ _ b hb
 have hF:∀ b,yc2 X R vs va b->b < W.heap.size->(W.setCell ⟨q,j,none⟩ u).heap[b]? = W.heap[b]?:=fun b hf _=>hs b fun e=>hf.2.2.2 (e ▸ hq)
 exact⟨h.row.other hR u,h.len,h.lo,fun k v r hv hr=>(h.rep k v r hv hr).keep hF fun b hb _=>hs b fun e=>hk v (Qa hv) (e ▸ hb),h.noR,h.apart,h.noEv,h.evR,h.ev.keep hF fun b hb _=>hs b fun e=>he (e ▸ hb),fun b hb=>by rw [Qx];exact h.ltX b hb⟩
end
section
variable {X:Nat->Prop} {W W':World} {base R:Nat} {vs:List RepV} {rs:List Rep} {va:Value} {E:List Ev}
theorem zx9 (l:List Bool) (i:Nat) (x:Bool):(l.flatMap zdf).set i (.bool x)=(l.set i x).flatMap zdf:=by
 induction l generalizing i with
 | nil=>rfl
 | cons b r ih =>
  cases i with
  | zero=>rfl
  | succ i=>simp only [Qt,zdf,Yf,Yg,Ya,ih]
theorem zid (l:List Bool):(l.flatMap zdf).length=l.length:=by induction l <;> simp_all [zdf]
theorem yac (l:List Bool) {i:Nat} {b:Bool} (h:l[i]? = some b):(l.flatMap zdf)[i]? = some (.bool b):=by
 induction l generalizing i with
 | nil=>simp at h
 | cons a r ih =>
  cases i with
  | zero=>simp at h;subst h;rfl
  | succ i=>simp only [Qt,zdf,Yf,Yg,List.getElem?_cons_succ];exact ih (by simpa using h)
theorem RepAt.bit {F:Nat->Prop} {v:RepV} {r:Rep} (h:RepAt W base F v r) {i:Nat} {b:Bool} (hi:r.knew[i]? = some b):∃ g c,v.kn=.slice (some ⟨g,0,none⟩) r.knew.length c/\r.knew.length<=c/\c<=9223372036854775807/\W.cell? ⟨g,i,none⟩=some (.bool b)/\W.frozen? ⟨g,i,none⟩=false:=by
 have hl:=(Qb.1 hi).1;obtain⟨g,cap,tail,hv,hb,hrow,hc,hm,-⟩:=h.kn.row (by omega);exact⟨g,cap,hv,hc,hm,hrow.cell (yac _ hi),hrow.frozen i⟩
theorem MemX.setKnew (h:MemX X W base R vs rs va E) {k i g c:Nat} {v:RepV} {r:Rep} (hv:vs[k]? = some v) (hr:rs[k]? = some r) (hi:i < r.knew.length) (hs:v.kn=.slice (some ⟨g,0,none⟩) r.knew.length c) (x:Bool) :
  MemX X (W.setCell ⟨g,i,none⟩ (.bool x)) base R vs (rs.set k { r with knew:=r.knew.set i x }) va E:=by
 have hra:=h.rep k v r hv hr;obtain⟨g',cap,tail,hv',hb,hrow,hc,hm,hlen⟩:=hra.kn.row (by omega);rw [hs] at hv';injection hv' with e1 e2 e3
 injection e1 with e1
 injection e1 with e1
 subst e1 e3;have hown:zad v.kn g:=⟨g,_,c,hs,by omega,rfl⟩
 have hvm:=Qa hv;have other:∀ b,b ≠ g->(W.setCell ⟨g,i,none⟩ (.bool x)).heap[b]? = W.heap[b]?:=fun b hb=>Qe W _ _ b hb
 have hz:(W.setCell ⟨g,i,none⟩ (.bool x)).heap.size=W.heap.size:=Qx _ _ _;have keepF:∀ b,yc2 X R vs va b->b < W.heap.size->(W.setCell ⟨g,i,none⟩ (.bool x)).heap[b]? = W.heap[b]?:=fun b hb _=>other b fun e=>hb.2.1 v hvm (e ▸ hown)
 refine ⟨h.row.other (p:=⟨g,i,none⟩) (fun e=>h.noR v hvm (by rw [<- e];exact hown)) _,by simp [h.len],h.lo,fun j y q hy hq=>?_,h.noR,h.apart,h.noEv,h.evR,h.ev.keep keepF fun b hb _=>other b fun e=>h.noEv v hvm g hown (e ▸ hb),fun b hb=>by rw [Qx];exact h.ltX b hb⟩;rcases zcv hq with ⟨rfl,rfl,-⟩ | ⟨hne,hq⟩
 ·rw [hv] at hy;injection hy with hy
  subst hy;refine ⟨hra.st.keep keepF,?_,hra.ask.keep (by decide) keepF⟩;simp only [Yl];have hr2:=hrow.set (j:=i) (by rw [zid];exact hi) (.bool x);rw [zx9] at hr2;rw [hs];refine hr2.own hb hc hm ?_ ?_ ?_
  ·rw [<- hlen,Qw,Qw,zid,zid,Yl]
  ·rw [List.take_of_length_le];rw [zid,Yl];omega
  ·rw [zid,Yl];omega
 ·refine (h.rep j y q hy hq).keep keepF fun b hb _=>other b fun e=>?_
  exact h.apart k j v y g (fun e=>hne e.symm) hv hy hown (e ▸ hb)
theorem MemX.pushKnew {W1:World} (h:MemX X W base R vs rs va E) {k:Nat} {v:RepV} {r:Rep} {kn':Value} (hv:vs[k]? = some v) (hr:rs[k]? = some r) {x:Bool}
  (hg:Grew W W1 v.kn kn') (ho:Own W1 base 4 1 kn' (r.knew.length+1) (r.knew.flatMap zdf++[.bool x])) :
  MemX X (W1.setCell ⟨R,k * 5+3,none⟩ kn') base R (vs.set k { v with kn:=kn' }) (rs.set k { r with knew:=r.knew++[x] }) va E:=by
 have hvm:=Qa hv;have hra:=h.rep k v r hv hr;have hold:∀ b,b < W.heap.size->b ≠ R->¬ zad v.kn b->(W1.setCell ⟨R,k * 5+3,none⟩ kn').heap[b]? = W.heap[b]?:=fun b hb h1 h2=>(Qe W1 _ _ b h1).trans (hg.same b hb h2)
 have hblk:∀ b,b < W.heap.size->zad kn' b->zad v.kn b:=fun b hb ho=>(hg.blk b ho).resolve_right (by omega)
 have hF:∀ b,b < W.heap.size->yc2 X R vs va b->yc2 X R (vs.set k { v with kn:=kn' }) va b:=fun b hb hf=>⟨hf.1,fun y hy ho=>by
  rcases zmj hy with rfl | hy
  ·exact hf.2.1 v hvm (hblk b hb ho)
  ·exact hf.2.1 y hy ho,hf.2.2⟩
 have mv:∀ b,yc2 X R vs va b->b < W.heap.size->(W1.setCell ⟨R,k * 5+3,none⟩ kn').heap[b]? = W.heap[b]?/\yc2 X R (vs.set k { v with kn:=kn' }) va b:=fun b hf hb=>⟨hold b hb hf.1 (hf.2.1 v hvm),hF b hb hf⟩
 have hnR:¬ zad kn' R:=fun ho=>h.noR v hvm (hblk R h.row.lt ho)
 have hrow1:RowIs W1 R 75 (vs.flatMap RepV.cells) []:=h.row.keep (hg.same R h.row.lt (h.noR v hvm));have hnew:∀ b,b < W.heap.size->∀ y,(y = { v with kn:=kn' })->zad y.kn b->zad v.kn b:=fun b hb y hy ho=>hblk b hb (by rw [hy] at ho;exact ho)
 refine ⟨?_,by simp [h.len],h.lo,fun i y q hy hq=>?_,fun y hy hb=>?_,fun i j y u b hij hy hu hb=>?_,fun y hy b hb=>?_,h.evR,?_,fun b hb=>by rw [Qx];exact Yq (h.ltX b hb) hg.size⟩
 ·have:=hrow1.set (j:=k * 5+3) (h.bound hv (by decide)) kn';rw [zhs vs k 3 v { v with kn:=kn' } kn' hv (by decide) rfl] at this;exact this
 ·rcases zcv hy with ⟨rfl,rfl,-⟩ | ⟨hne,hy⟩
  ·have hq':q = { r with knew:=r.knew++[x] }:=by
    rcases zcv hq with ⟨-,e,-⟩ | ⟨hne,-⟩
    ·exact e
    ·exact absurd rfl hne
   subst hq'
   refine ⟨((hra.st.mono (S':=fun b=>yc2 X R vs va b/\b < W.heap.size) fun b hb hf=>⟨hf,hb⟩).keep fun b hb hl=>(mv b hb.1 hl).1).mono fun b _ hb=>(mv b hb.1 hb.2).2,?_,
    ((hra.ask.mono (S':=fun b=>yc2 X R vs va b/\b < W.heap.size) (by decide) fun b hb hf=>⟨hf,hb⟩).keep (by decide) fun b hb hl=>(mv b hb.1 hl).1).mono (by decide) fun b _ hb=>(mv b hb.1 hb.2).2⟩
   simp only [Qw,Qp,Qu,Vw,Qt,List.flatMap_nil,zdf,Yp];exact ho.keep fun b hb _=>Qe W1 _ _ b fun e=>hnR (by have e2:b=R:=e;rw [<- e2];exact hb)
  ·have hq':rs[i]? = some q:=by
    rcases zcv hq with ⟨e,-,-⟩ | ⟨-,hq⟩
    ·exact absurd e hne
    ·exact hq
   exact (h.rep i y q hy hq').move mv fun b hb hl=>hold b hl (fun e=>h.noR y (Qa hy) (e ▸ hb)) fun ho=>h.apart i k y v b hne hy hv hb ho
 ·rcases zmj hy with rfl | hy
  ·exact hnR hb
  ·exact h.noR y hy hb
 ·intro hub;rcases zcv hy with ⟨rfl,rfl,-⟩ | ⟨hne,hy2⟩
  ·rcases zcv hu with ⟨rfl,-,-⟩ | ⟨hne2,hu⟩
   ·exact hij rfl
   ·exact h.apart i j v u b hij hv hu (hblk b (h.lt_kn (Qa hu) hub) hb) hub
  ·rcases zcv hu with ⟨rfl,rfl,-⟩ | ⟨hne2,hu⟩
   ·exact h.apart i _ y v b hij hy2 hv hb (hblk b (h.lt_kn (Qa hy2) hb) hub)
   ·exact h.apart i j y u b hij hy2 hu hb hub
 ·intro hbv;rcases zmj hy with rfl | hy
  ·exact h.noEv v hvm b (hblk b (h.ev.base_le hbv).2 hb) hbv
  ·exact h.noEv y hy b hb hbv
 ·exact h.ev.move mv fun b hb hl=>hold b hl (fun e=>h.evR (e ▸ hb)) fun ho=>h.noEv v hvm b ho hb
theorem MemX.pushEv {W1:World} {e:Ev} {va':Value} (h:MemX X W base R vs rs va E) (hg:Grew W W1 va va') (ho:∀ S':Nat->Prop,(∀ b,yc2 X R vs va b->b < W.heap.size->S' b)->OwnL evT 179 W1 base S' va' (E++[e])) :
  MemX X W1 base R vs rs va' (E++[e]):=by
 have hblk:∀ b,b < W.heap.size->zad va' b->zad va b:=fun b hb ho=>(hg.blk b ho).resolve_right (by omega)
 have mv:∀ b,yc2 X R vs va b->b < W.heap.size->W1.heap[b]? = W.heap[b]?/\yc2 X R vs va' b:=fun b hf hb=>⟨hg.same b hb hf.2.2.1,hf.1,hf.2.1,fun ho=>hf.2.2.1 (hblk b hb ho),hf.2.2.2⟩
 refine ⟨h.row.keep (hg.same R h.row.lt h.evR),h.len,h.lo,fun i y q hy hq=>?_,h.noR,h.apart,fun y hy b hb hbv=>?_,fun ho=>h.evR (hblk R h.row.lt ho),?_,fun b hb=>Yq (h.ltX b hb) hg.size⟩
 ·exact (h.rep i y q hy hq).move mv fun b hb hl=>hg.same b hl (h.noEv y (Qa hy) b hb)
 ·exact h.noEv y hy b hb (hblk b (h.lt_kn hy hb) hbv)
 ·exact ho _ fun b hf hb=>(mv b hf hb).2
end
section
variable {X:Nat->Prop} {W W':World} {base R:Nat} {vs:List RepV} {rs:List Rep} {va:Value} {E:List Ev}
theorem zrw {α:Type} {l:List α} {k:Nat} {x:α} (h:l[k]? = some x):l.set k x=l:=by
 obtain⟨hk,rfl⟩:=Qb.1 h;exact List.set_getElem_self hk
theorem MemX.putS (h:MemX X W base R vs rs va E) {k:Nat} {v:RepV} {r:Rep} {s:State} {s1 s2 s3:Value} (hv:vs[k]? = some v) (hr:rs[k]? = some r) (hst:StAt W (yc2 X R vs va) s s1 s2 s3) :
  MemX X (((W.setCell ⟨R,k * 5,none⟩ s1).setCell ⟨R,k * 5+1,none⟩ s2).setCell ⟨R,k * 5+2,none⟩ s3) base R (vs.set k { v with s1:=s1,s2:=s2,s3:=s3 }) (rs.set k { r with s:=s }) va E:=by
 have hra:=h.rep k v r hv hr;have hkl:=(Qb.1 hv).1;have b0:=h.bound hv (j:=0) (by decide);have b1:=h.bound hv (j:=1) (by decide);have b2:=h.bound hv (j:=2) (by decide);refine h.write (v:=v) (v':={ v with s1:=s1,s2:=s2,s3:=s3 }) (r':={ r with s:=s }) hv rfl (by rw [hr];rfl) hst hra.ask (fun b hb=>?_) ?_ ?_
 ·rw [Qe _ _ _ b hb,Qe _ _ _ b hb,Qe _ _ _ b hb]
 ·rw [Qx,Qx,Qx];exact Qj _
 ·have q0:=h.row.set (j:=k * 5) b0 s1;have q1:=q0.set (j:=k * 5+1) (by rw [Yl];exact b1) s2;have q2:=q1.set (j:=k * 5+2) (by rw [Yl,Yl];exact b2) s3;have e0:=zhs vs k 0 v { v with s1:=s1 } s1 hv (by decide) rfl;have e1:=zhs (vs.set k { v with s1:=s1 }) k 1 { v with s1:=s1 } { v with s1:=s1,s2:=s2 } s2 (by simp [Vj,hkl]) (by decide) rfl;have e2:=zhs ((vs.set k { v with s1:=s1 }).set k { v with s1:=s1,s2:=s2 }) k 2 { v with s1:=s1,s2:=s2 } { v with s1:=s1,s2:=s2,s3:=s3 } s3 (by simp [Vj,hkl]) (by decide) rfl;simp only [Nat.add_zero] at e0;rw [e0,e1,e2] at q2
  simpa [List.set_set] using q2
theorem MemX.putAsked (h:MemX X W base R vs rs va E) {k:Nat} {v:RepV} {r:Rep} {m:List Mark} {u:Value} (hv:vs[k]? = some v) (hr:rs[k]? = some r) (hst:Sl markT W (yc2 X R vs va) u m) :
  MemX X (W.setCell ⟨R,k * 5+4,none⟩ u) base R (vs.set k { v with ask:=u }) (rs.set k { r with asked:=m }) va E:=by
 have hra:=h.rep k v r hv hr;refine h.write (v:=v) (v':={ v with ask:=u }) (r':={ r with asked:=m }) hv rfl (by rw [hr];rfl) hra.st hst (fun b hb=>Qe _ _ _ b hb) (by rw [Qx];exact Qj _) ?_;have q0:=h.row.set (j:=k * 5+4) (h.bound hv (by decide)) u
 rwa [zhs vs k 4 v { v with ask:=u } u hv (by decide) rfl] at q0
theorem Below.mem {w0 W:World} (h:Ext w0 W) {p:Addr} (hp:w0.heap.size<=p.block) (v:Value):Ext w0 (W.setCell p v):=h.set hp v
theorem MemX.drew (h:MemX X W base R vs rs va E):MemX X W.drew base R vs rs va E:=h.ext ((Ext.refl W).drew)
end
end
section
open Go.Sort
structure LimE (n:Nat) (e:Entry):Prop where
 seen:e.seen.length<=n
 counts:e.counts.length<=n
 items:e.items.length<=n
 dots:∀ it ∈ e.items,it.2.length<=n
 places:(zab e.items).length<=n
structure LimS (n:Nat) (s:State):Prop where
 all:s.all.length<=n
 entries:s.entries.length<=n
 pruned:s.pruned.length<=n
 each:∀ e ∈ s.entries,LimE n e
theorem LimE.small {n:Nat} {e:Entry} (h:LimE n e) (hn:n<=549755813888):SmallE e :=
 ⟨Qc h.seen hn,Qc h.counts hn,Qc h.items hn,fun it hit=>Qc (h.dots it hit) hn,Qc h.places hn⟩
theorem LimS.small {n:Nat} {s:State} (h:LimS n s) (hn:n<=549755813888):SmallS s :=
 ⟨Qc h.all hn,Qc h.entries hn,Qc h.pruned hn,fun e he=>(h.each e he).small hn⟩
theorem LimE.mono {n m:Nat} {e:Entry} (h:LimE n e) (hn:n<=m):LimE m e :=
 ⟨Qc h.seen hn,Qc h.counts hn,Qc h.items hn,fun it hit=>Qc (h.dots it hit) hn,Qc h.places hn⟩
theorem zrx {l:List Item} {it:Item} (h:it ∈ l):it.2.length<=(zab l).length:=by
 obtain⟨a,b,rfl⟩:=List.append_of_mem h;simp only [zab,Vw,Qt,Qw,Qn];omega
theorem zya {ks:List zan} {n:Nat} (h:ks.length<=n):(za7 ks).length<=n/\(∀ it ∈ za7 ks,it.2.length<=n)/\(zab (za7 ks)).length<=n:=by
 have hp:(zab (za7 ks)).length<=n:=by unfold za7;rw [zdw,(zbq ks).length_eq];exact h
 exact⟨Qc (zn2 ks) h,fun it hit=>Qc (zrx hit) hp,hp⟩
theorem yad (l:List Mark) (p:Str) (n:Nat):(setM l p n).length<=l.length+1:=by
 have h1:(setM l p n).length<=(za3 (zbu (zau l p)) (zbu [(p,n)])).length:=by unfold setM za0;simp
 have h2:=zkq (zbu (zau l p)) (zbu [(p,n)]);have h3:=zeo (zau l p);have h4:=zeo [(p,n)];have h5:=zh4 l p;simp only [Qp,Qu] at h4;omega
theorem zp5 (a b:List (Str × Nat)):(zdr a b).length<=a.length:=by
 have:=zlk a b (zbw (a.map Prod.fst));rw [zh2,Qn] at this;exact this
end
section
open Go.RowKit
theorem zve {E:List Ev} {V:Vec} {k:Str} {x:Entry} (hx:IsE E V k x):(zab x.items).length<=E.length:=by
 have hd:(zab x.items).Nodup:=by have h:=hx.itG.2.2.2;rw [zcn] at h;unfold Vu at h ⊢;rw [Qr] at h;exact h.imp fun hab e=>hab (by rw [e])
 have h:=zdx (zab x.items) (E.map fun e=>((e.tx,e.path,e.num):zan)) hd fun q hq=>by obtain⟨i,e,h1,-,-,-,rfl,-⟩:=(hx.items q).1 hq;exact Qg.2 ⟨e,Qa h1,rfl⟩
 rwa [Qn] at h
theorem zyb {l:List Item} (h:∀ it ∈ l,it.2 ≠ []):l.length<=(zab l).length:=by
 induction l with
 | nil=>exact Yc _
 | cons it r ih =>
  have h1:=ih fun x hx=>h x (by simp [hx])
  have h2:=h it (by simp);have h3:0 < it.2.length:=List.length_pos_iff.2 h2;simp only [zab,Qt,Qw,Qn,Qp] at h1 ⊢;omega
theorem IsE.lim {E:List Ev} (H:HistOk E) {pr ps:List Str} {s:State} (hs:IsS E pr s) (hv:VecOk ps s) {x:Entry} {k:Str} (hx:IsE E (vecS s) k x):LimE 400 x:=by
 have hle:=zhr hs hx;have hm:=H.most;have hf:=hv.few;have hp:=zve hx;have h1:x.seen.length<=ps.length:=zd3 hx.seenG fun p hp=>hv.paths p (by have:=hle p;omega)
 have hcn:(x.counts.map (·.1)).Nodup:=by unfold Vu;rw [Qr];exact hx.cntG.1.imp fun h=>zck h
 have h2:=zdx (x.counts.map (·.1)) ps hcn fun p hp=>by obtain⟨c,hc,rfl⟩:=Qg.1 hp;have:=(hx.count_seen H.toHist hc).2;exact hv.paths c.1 (by have:=hle c.1;omega)
 rw [Qn] at h2;have h3:=zyb fun it hit=>(hx.itG.2.1 it hit).2.1
 exact⟨by omega,by omega,by omega,fun it hit=>by have:=zrx hit;omega,by omega⟩
theorem IsS.lim {E:List Ev} (H:HistOk E) {ps:List Str} {s:State} (hs:IsS E [] s) (hv:VecOk ps s):LimS 400 s:=by
 have hm:=H.most;have hf:=hv.few;have h1:=zd3 hs.all hv.paths;have hkn:(s.entries.map (·.key)).Nodup:=hs.rise.imp fun h=>zck h
 have h2:=zdx (s.entries.map (·.key)) (E.map (·.key)) hkn fun k hk=>by obtain⟨e,he,-,hke⟩:=(hs.has k).1 hk;exact Qg.2 ⟨e,he,hke⟩
 rw [Qn,Qn] at h2;exact⟨by omega,by omega,by rw [hs.pruned];exact Yc _,fun x hx=>((hs.each x hx).1).lim H hs hv⟩
structure Deed where
 key:Nat
 do_:Nat
 n:Nat
 by_:Int
 text:Nat
 other:Nat
 asks:Bool
structure DeedOk (d:Deed):Prop where
 key:d.key < 256
 do_:d.do_ < 256
 n:d.n < 256
 lo:-32768<=d.by_
 hi:d.by_<=32767
 text:d.text < 256
 other:d.other < 256
def keyD (d:Deed):Str:=if d.key % 3=0 then keyN else if d.key % 3=1 then keyA else keyC
def opD (d:Deed):Nat:=if d.key % 3=0 then 1 else if d.key % 3=1 then (if d.do_ % 3=1 then 3 else 2) else 4
def txD (d:Deed):Str:=[UInt8.ofNat (97+d.text % 2)]
theorem zry {d:Deed} (h:DeedOk d):OpOk (keyD d) (opD d) d.by_ (txD d) where
 kind:=by
  unfold keyD opD
  by_cases h0:d.key % 3=0
  ·rw [zP h0,zP h0];exact .inl ⟨rfl,rfl⟩
  ·rw [zN h0,zN h0]
   by_cases h1:d.key % 3=1
   ·rw [zP h1,zP h1];refine .inr (.inl ⟨rfl,?_⟩)
    by_cases h2:d.do_ % 3=1
    ·rw [zP h2];exact .inr rfl
    ·rw [zN h2];exact .inl rfl
   ·rw [zN h1,zN h1];exact .inr (.inr ⟨rfl,rfl⟩)
 lo:=h.lo
 hi:=h.hi
 text:=by
  unfold txD;rcases Nat.mod_two_eq_zero_or_one d.text with h | h
  ·rw [h];exact .inl rfl
  ·rw [h];exact .inr rfl
theorem RepsOk.apply {E:List Ev} {n:Nat} {rs:List Rep} (h:RepsOk E n rs) {k o:Nat} {r q:Rep} (hk:rs[k]? = some r) (ho:rs[o]? = some q):zhe r.s (za0 r.asked []) (zic q.s r.asked)=(zb9 r.s q.s,0) :=
 zta h.hist.toHist (h.each k r hk).is (h.each o q ho).is (h.each k r hk).asked
def zit (E:List Ev) (rs:List Rep) (d:Deed):List Ev × List Rep :=
 if 3<=d.do_ % 5 then (E,zmi (if d.asks then askR rs (d.n % rs.length) else rs) (d.n % rs.length) (d.other % rs.length))
 else updR E (if d.asks then askR rs (d.n % rs.length) else rs) (d.n % rs.length) (keyD d) (opD d) d.by_ (txD d)
theorem RepsOk.asks {E:List Ev} {n:Nat} {rs:List Rep} (h:RepsOk E n rs) (b:Bool) (k:Nat):RepsOk E n (if b then askR rs k else rs):=by
 cases b with
 | true=>exact h.ask k
 | false=>exact h
theorem RepsOk.does {E:List Ev} {n:Nat} {rs:List Rep} (h:RepsOk E n rs) (hn:0 < n) (hl:E.length < 200) {d:Deed} (hd:DeedOk d):RepsOk (zit E rs d).1 n (zit E rs d).2:=by
 unfold zit
 split
 ·exact (h.asks _ _).join _ _
 ·exact ((h.asks _ _).upd (k:=d.n % rs.length) (by rw [h.len];exact Nat.mod_lt _ hn) hl (zry hd)).2
theorem yae (E:List Ev) (rs:List Rep) (d:Deed):(zit E rs d).1.length<=E.length+1:=by
 unfold zit
 split
 ·exact Nat.le_succ _
 ·unfold updR
  split
  ·simp
  ·exact Nat.le_succ _
section
variable {E:List Ev} {a b c:State}
theorem IsS.join0 (H:Hist E) (ha:IsS E [] a) (hb:IsS E [] b):IsS E [] (zb9 a b):=ha.join H hb zm3
theorem zjk (a b:State) (p:Str):ofM (zb9 a b).all p=max (ofM a.all p) (ofM b.all p):=zfs _ _ p
theorem VecOk.join {ps:List Str} (ha:VecOk ps a) (hb:VecOk ps b):VecOk ps (zb9 a b) :=
 ⟨fun p hp=>by
  rw [zjk] at hp
  by_cases h:ofM a.all p=0
  ·exact hb.paths p (by omega)
  ·exact ha.paths p h,ha.few,fun p=>by rw [zjk];have:=ha.most p;have:=hb.most p;omega⟩
end
end
end Go.Proofs.YtaabaflgeljbjaaGreat
