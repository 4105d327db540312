/- Laws. -/
import Derived.Test.YtaabaflgeljbjaaGreatQx36
import Derived.Test.YtaabaflgeljbjaaGreatPr26
import Derived.Test.YtaabaflgeljbjaaGreatPr24
import Derived.Test.YtaabaflgeljbjaaGreatPr31
import Derived.Test.YtaabaflgeljbjaaGreatPr05
import Derived.Test.YtaabaflgeljbjaaGreatPr30
import Derived.Test.YtaabaflgeljbjaaGreatPr37
import Derived.Test.YtaabaflgeljbjaaGreatPr11
import Derived.Test.YtaabaflgeljbjaaGreatPr38
import Derived.Test.YtaabaflgeljbjaaGreatPr25
import Derived.Test.YtaabaflgeljbjaaGreatPr32
set_option linter.unusedVariables false
set_option linter.unusedSimpArgs false
set_option maxRecDepth 100000
set_option maxHeartbeats 40000000
namespace Go.Proofs.YtaabaflgeljbjaaGreat
open Go renaming undef→Qa
open List renaming mem_map→Qg,filterMap_cons→Qh,mem_filter→Qi,set_cons_zero→Qj,getElem?_eq_some_iff→Qk,mem_of_getElem?→Ql,filter_cons_of_neg→Qn,getElem?_eq_getElem→Qo,length_cons→Qp,filter_cons_of_pos→Qq,mem_cons_of_mem→Qr,getElem?_append_right→Qs,map_congr_left→Qu,set_cons_succ→Qx,pairwise_map→Ya,length_take→Yc,all_eq_true→Yd,mem_cons→Yf,map_cons→Yg,sum_cons→Yh,lookup_cons→Yi,take_length→Yj,set_append→Yk,append_nil→Ym,length_map→Yn,length_nil→Yo,getElem_cons_drop→Yp,mem_of_mem_take→Yq,map_map→Yt,length_append→Yv,pairwise_cons→Yx,foldl_append→Yz,nodup_cons→Vb,mem_append→Vc,foldl_cons→Vd,foldl_nil→Ve
open Nat renaming le_trans→Qc,reduceAdd→Qe,le_succ_of_le→Qm,lt_of_lt_of_le→Qw,lt_succ_of_le→Qy,le_of_lt_succ→Qz,le_refl→Yb,zero_le→Ye,min_eq_left→Yl,lt_of_le_of_lt→Ys,eq_zero_or_pos→Yu,sub_self→Yw,succ_le_succ→Va
open Go.World renaming size_alloc→Qf,size_setCell→Qv
open Go.RowKit.Below renaming heap_setCell→Qb
open Bool renaming and_eq_true→Qd,true_and→Qt,and_true→Yr,not_eq_true'→Yy
section
open Go.RowKit Go.Shelf
theorem zrz {w:World} {q T:Nat} {e0 e:Entry} {a1 a2 a3 v1 v2 v3:Value} (h:RowIs w q T (entL e0 a1 a2 a3) []):RowIs (put7 w q e v1 v2 v3) q T (entL e v1 v2 v3) []:=by
 have:=RowIs.set7 (X1:=[]) (X2:=[]) (o:=0) (by simpa using h) rfl (St e.key) v1 v2 v3 (U e.cell.1) (St e.cell.2.1) (.bool e.cell.2.2)
 simpa using this
theorem zp6 (w:World) (q:Nat) (e:Entry) (v1 v2 v3:Value):(put7 w q e v1 v2 v3).heap.size=w.heap.size:=by simp [Qv]
theorem znl {S:Nat->Prop} {s:State} {v1 v2 v3:Value} {w:World} (p:Str) (o:OpD) (hn1:-9223372036854775808<=o.2.2.1) (hn2:o.2.2.1<=9223372036854775807) (h:StAt w S s v1 v2 v3) (sm:SmallS s) :
  Calls Tryz.prog 36 #[stV v1 v2 v3,St p,opV o] w fun r w'=>∃ u1 u2 u3,r=.returned (.tuple #[stV u1 u2 u3,I (updS s p o).2])/\StAt w' (fun b=>w.heap.size<=b) (updS s p o).1 u1 u2 u3/\Ext w w':=by
 have HRS:=zH (show updS s p o=if p = [] ∨ mayS s=false then (za1,2) else if 281474976710656<=ofM s.all p then (za1,9) else if za4 s.entries o.2.1=none/\256<=s.entries.length then (za1,6) else
  if (updE ((za4 s.entries o.2.1).getD zak) o (p,ofM s.all p+1)).2=0 then (⟨setM s.all p (ofM s.all p+1),zcg s.entries o.2.1 (updE ((za4 s.entries o.2.1).getD zak) o (p,ofM s.all p+1)).1,s.pruned⟩,0)
  else (za1,(updE ((za4 s.entries o.2.1).getD zak) o (p,ofM s.all p+1)).2) from rfl)
 have SM:=zH sm;have HRI:=zH (fun hm:mayS s=true=>(mayS_iff.1 hm).rise);obtain⟨sa,se,sp⟩:=s;obtain⟨dO,k,n,tx⟩:=o;simp only at hn1 hn2;obtain⟨A1,n1,A2,n2,A3,n3,rfl,rfl,rfl⟩:=h.fm;have hx0:Ext w (((w.alloc (.cells #[.slice A1 sa.length n1,.slice A2 se.length n2,.slice A3 sp.length n3] 26)).alloc (.cells #[K8 dO,St k,I n,St tx] 99)).alloc (.cells #[.slice none 0 0,.slice none 0 0,.slice none 0 0] 26)):=(((Ext.refl w).alloc _).alloc _).alloc _;have rB0:RowIs (((w.alloc (.cells #[.slice A1 sa.length n1,.slice A2 se.length n2,.slice A3 sp.length n3] 26)).alloc (.cells #[K8 dO,St k,I n,St tx] 99)).alloc (.cells #[.slice none 0 0,.slice none 0 0,.slice none 0 0] 26)) w.heap.size 26 [.slice A1 sa.length n1,.slice A2 se.length n2,.slice A3 sp.length n3] []:=((zaf w _ _).alloc _).alloc _;have rO0:RowIs (((w.alloc (.cells #[.slice A1 sa.length n1,.slice A2 se.length n2,.slice A3 sp.length n3] 26)).alloc (.cells #[K8 dO,St k,I n,St tx] 99)).alloc (.cells #[.slice none 0 0,.slice none 0 0,.slice none 0 0] 26)) (w.heap.size+1) 99 [K8 dO,St k,I n,St tx] []:=by have h:=zaf (w.alloc (.cells #[.slice A1 sa.length n1,.slice A2 se.length n2,.slice A3 sp.length n3] 26)) 99 [K8 dO,St k,I n,St tx];simp only [Qf] at h;exact h.alloc _
 have rR0:RowIs (((w.alloc (.cells #[.slice A1 sa.length n1,.slice A2 se.length n2,.slice A3 sp.length n3] 26)).alloc (.cells #[K8 dO,St k,I n,St tx] 99)).alloc (.cells #[.slice none 0 0,.slice none 0 0,.slice none 0 0] 26)) (w.heap.size+1+1) 26 [.slice none 0 0,.slice none 0 0,.slice none 0 0] []:=by have h:=zaf ((w.alloc (.cells #[.slice A1 sa.length n1,.slice A2 se.length n2,.slice A3 sp.length n3] 26)).alloc (.cells #[K8 dO,St k,I n,St tx] 99)) 26 [.slice none 0 0,.slice none 0 0,.slice none 0 0];simp only [Qf] at h;exact h
 have hz0:w.heap.size+3<=(((w.alloc (.cells #[.slice A1 sa.length n1,.slice A2 se.length n2,.slice A3 sp.length n3] 26)).alloc (.cells #[K8 dO,St k,I n,St tx] 99)).alloc (.cells #[.slice none 0 0,.slice none 0 0,.slice none 0 0] 26)).heap.size:=by simp
 have h':=h.mono (S':=fun b=>b < w.heap.size) (fun b hb _=>hb);have H0:=zH (h'.ext hx0);have H1:=zH (zng (h.ext hx0) sm);clear h';clear h sm
 by_cases hp:p = []
 ·subst hp;have HR:=zH (show updS ⟨sa,se,sp⟩ [] (dO,k,n,tx)=(za1,2) by rw [HRS.out,zP (.inl rfl)]);have HX:=zH hx0;clear hx0 rB0 rR0 rO0 H0 H1 HRS;go_enter Tryz.func36,Tryz.ntmps36;go_wp2_with fail
  (try simp only [Exit.inBlock,Exit.then])
  refine bodyPost_ret (v:=.tuple #[stV (.slice none 0 0) (.slice none 0 0) (.slice none 0 0),I 2]) (by simp [results,Tryz.f36,go_sem]) rfl ?_;refine ⟨.slice none 0 0,.slice none 0 0,.slice none 0 0,by (rw [HR.out];try rfl),?_⟩;rw [HR.out];exact⟨StAt.none _ _ _ _ _,HX.out⟩
 ·have hpb:(p == [])=false:=by simpa using hp
  go_enter Tryz.func36,Tryz.ntmps36;go_wp2_with fail;generalize (((w.alloc (.cells #[.slice A1 sa.length n1,.slice A2 se.length n2,.slice A3 sp.length n3] 26)).alloc (.cells #[K8 dO,St k,I n,St tx] 99)).alloc (.cells #[.slice none 0 0,.slice none 0 0,.slice none 0 0] 26))=W0 at *;refine H1.out.mono ?_;rintro r W1 ⟨rfl,hx1⟩;have hx01:=hx0.trans hx1;have rB1:=rB0.ext hx1;have rO1:=rO0.ext hx1;have rR1:=rR0.ext hx1;have hz1:=Qc hz0 hx1.size;clear hx0 rB0 rR0 rO0 hz0 H1
  cases hm:mayS ⟨sa,se,sp⟩ with
  | false =>
   have HR:=zH (show updS ⟨sa,se,sp⟩ p (dO,k,n,tx)=(za1,2) by rw [HRS.out,zP (.inr hm)]);obtain⟨r0,r1,r2⟩:=rR1.p3;obtain⟨f0,f1,f2⟩:=rR1.q3;have HX:=zH hx01;clear hx01 hx1 rB1 rR1 rO1 H0 HRS hm hp;go_wp2_with fail
   (try simp only [Exit.inBlock,Exit.then])
   refine bodyPost_ret (v:=.tuple #[stV (.slice none 0 0) (.slice none 0 0) (.slice none 0 0),I 2]) (by simp [results,Tryz.f36,go_sem,r0,r1,r2]) rfl ?_;have hq:=zbn (q:=w.heap.size+1+1) HX.out (by omega) (.slice none 0 0) (.slice none 0 0) (.slice none 0 0);refine ⟨.slice none 0 0,.slice none 0 0,.slice none 0 0,by (rw [HR.out];try rfl),?_⟩;rw [HR.out];exact⟨StAt.none _ _ _ _ _,hq⟩
  | true =>
   have hri:=zH (show RiseS (se.map (·.key)) from HRI.out hm)
   have HRS2:=zH (show updS ⟨sa,se,sp⟩ p (dO,k,n,tx)=if 281474976710656<=ofM sa p then (za1,9) else if za4 se k=none/\256<=se.length then (za1,6) else
    if (updE ((za4 se k).getD zak) (dO,k,n,tx) (p,ofM sa p+1)).2=0 then (⟨setM sa p (ofM sa p+1),zcg se k (updE ((za4 se k).getD zak) (dO,k,n,tx) (p,ofM sa p+1)).1,sp⟩,0)
    else (za1,(updE ((za4 se k).getD zak) (dO,k,n,tx) (p,ofM sa p+1)).2) by rw [HRS.out,zN (by simp [hp,hm])])
   have HO:=zH (ze1 p (H0.out.all.ext (by decide) hx1));have b0:=rB1.cell (j:=0) rfl;have HX1:=zH hx1;clear hm hp HRS HRI hx1;go_wp2_with fail;refine HO.out.mono ?_;rintro r W2 ⟨rfl,hx2⟩;have hx02:=hx01.trans hx2;have rB2:=rB1.ext hx2;have rO2:=rO1.ext hx2;have rR2:=rR1.ext hx2;have hz2:=Qc hz1 hx2.size;have H2:=zH ((H0.out.ext HX1.out).ext hx2);clear hx01 rB1 rR1 rO1 HO hx2 hz1 b0 HX1 H0;obtain⟨z,hz⟩:∃ z,ofM sa p=z:=⟨_,rfl⟩
   rw [hz] at HRS2;rw [hz];clear hz
   by_cases hge:281474976710656<=z
   ·have HR:=zH (show updS ⟨sa,se,sp⟩ p (dO,k,n,tx)=(za1,9) by rw [HRS2.out,zP hge]);have hgt:(z:Int) ≥ 281474976710656:=(by omega);obtain⟨r0,r1,r2⟩:=rR2.p3;obtain⟨f0,f1,f2⟩:=rR2.q3;have HX:=zH hx02;clear hx02 rB2 rR2 rO2 H2 HRS2 hge;go_wp2_with fail
    (try simp only [Exit.inBlock,Exit.then])
    refine bodyPost_ret (v:=.tuple #[stV (.slice none 0 0) (.slice none 0 0) (.slice none 0 0),I 9]) (by simp [results,Tryz.f36,go_sem,r0,r1,r2]) rfl ?_;have hq:=zbn (q:=w.heap.size+1+1) HX.out (by omega) (.slice none 0 0) (.slice none 0 0) (.slice none 0 0);refine ⟨.slice none 0 0,.slice none 0 0,.slice none 0 0,by (rw [HR.out];try rfl),?_⟩;rw [HR.out];exact⟨StAt.none _ _ _ _ _,hq⟩
   ·have hgt:¬ (z:Int) ≥ 281474976710656:=by omega
    have HRS3:=zH (show updS ⟨sa,se,sp⟩ p (dO,k,n,tx)=if za4 se k=none/\256<=se.length then (za1,6) else
     if (updE ((za4 se k).getD zak) (dO,k,n,tx) (p,z+1)).2=0 then (⟨setM sa p (z+1),zcg se k (updE ((za4 se k).getD zak) (dO,k,n,tx) (p,z+1)).1,sp⟩,0)
     else (za1,(updE ((za4 se k).getD zak) (dO,k,n,tx) (p,z+1)).2) by rw [HRS2.out,zN hge])
    have HWA:=zH (show IntKind.u64.wrap ((z:Int)+1)=((z+1:Nat):Int) by rw [zca];omega);have HF0:=znf k (H2.out.entries);simp only at HF0;obtain⟨e,he⟩:∃ e,(za4 se k).getD zak=e:=⟨_,rfl⟩
    obtain⟨is,his⟩:∃ is,(za4 se k).isSome=is:=⟨_,rfl⟩
    rw [he,his] at HF0;have HF:=zH HF0;have HE:=zH he;have HIS:=zH his;rw [he] at HRS3;clear HF0 he his;have b1:=rB2.cell (j:=1) rfl;have o1:=rO2.cell (j:=1) rfl;clear HRS2 hge;have hgt2:((z:Int) ≥ 281474976710656)=False:=eq_false hgt;have hzl:z < 281474976710656:=(by omega);clear hgt;go_wp2_with fail;clear hgt2;refine HF.out.mono ?_;rintro r W3 ⟨a1,a2,a3,rfl,hA,hx3⟩;have hse:SmallE e:=(by rw [<- HE.out];exact zn8 (l:=se) SM.out.each k);obtain⟨C1,c1,C2,c2,C3,c3,rfl,rfl,rfl⟩:=hA.fm;have rE:=zaf W3 46 (entL e (.slice C1 e.seen.length c1) (.slice C2 e.counts.length c2) (.slice C3 e.items.length c3));have hxb:=(Ext.refl W3).alloc (.cells (entL e (.slice C1 e.seen.length c1) (.slice C2 e.counts.length c2) (.slice C3 e.items.length c3)).toArray 46);have hx3b:=hx3.trans hxb;have hx3w:=hx02.trans hx3;have rBw:=rB2.ext hx3;have rOw:=rO2.ext hx3;have rRw:=rR2.ext hx3;have bw1:=rBw.cell (j:=1) rfl;have hx03:=hx02.trans hx3b;have rB3:=rB2.ext hx3b;have rO3:=rO2.ext hx3b;have rR3:=rR2.ext hx3b;have hz3:=Qc hz2 hx3.size;have hEz:=rE.lt;have H3:=zH (H2.out.ext hx3b);have HU:=zH (zzw (dO,k,n,tx) (p,z+1) (hA.ext hxb) hse hn1 hn2);have b1':=rB3.cell (j:=1) rfl;have o1':=rO3.cell (j:=1) rfl;clear hx02 rB2 rR2 rO2 H2 HF hx3 b1 o1 hz2 hA hx3b;have hblt:w.heap.size < W3.heap.size:=(by omega);have holt:w.heap.size+1 < W3.heap.size:=by omega
    by_cases hfull:za4 se k=none/\256<=se.length
    ·have HR:=zH (show updS ⟨sa,se,sp⟩ p (dO,k,n,tx)=(za1,6) by rw [HRS3.out,zP hfull]);have hlen:(se.length:Int) ≥ 256:=(by have:=hfull.2;omega);have hrlt:w.heap.size+1+1 < W3.heap.size:=(by omega);obtain rfl:is=false:=by rw [<- HIS.out,hfull.1];rfl
     have b19:=(show RowIs W3 w.heap.size 26 [.slice A1 sa.length n1,.slice A2 se.length n2,.slice A3 sp.length n3] [] from by have:=rB3;unfold RowIs at this ⊢;rw [<- this];symm;exact hxb.block _ (by omega)).cell (j:=1) rfl
     have rR39:=(show RowIs W3 (w.heap.size+1+1) 26 [.slice none 0 0,.slice none 0 0,.slice none 0 0] [] from by have:=rR3;unfold RowIs at this ⊢;rw [<- this];symm;exact hxb.block _ (by omega))
     obtain⟨r0,r1,r2⟩:=rR39.p3;obtain⟨f0,f1,f2⟩:=rR39.q3;have HX:=zH hx3w;clear hx3w hx03 rB3 rR3 rO3 H3 HRS3 hfull hxb rE rR39 HU;go_wp2_with fail
     (try simp only [Exit.inBlock,Exit.then])
     refine bodyPost_ret (v:=.tuple #[stV (.slice none 0 0) (.slice none 0 0) (.slice none 0 0),I 6]) (by simp [results,Tryz.f36,go_sem,r0,r1,r2,hrlt]) rfl ?_;have hq:=(zbn (q:=w.heap.size+1+1) HX.out (by omega) (.slice none 0 0) (.slice none 0 0) (.slice none 0 0)).alloc (.cells (entL e (.slice C1 e.seen.length c1) (.slice C2 e.counts.length c2) (.slice C3 e.items.length c3)).toArray 46);refine ⟨.slice none 0 0,.slice none 0 0,.slice none 0 0,by (rw [HR.out];try rfl),?_⟩;rw [HR.out];exact⟨StAt.none _ _ _ _ _,hq⟩
    ·have HRS4:=zH (show updS ⟨sa,se,sp⟩ p (dO,k,n,tx)=if (updE e (dO,k,n,tx) (p,z+1)).2=0 then (⟨setM sa p (z+1),zcg se k (updE e (dO,k,n,tx) (p,z+1)).1,sp⟩,0) else (za1,(updE e (dO,k,n,tx) (p,z+1)).2) by rw [HRS3.out,zN hfull]);obtain⟨e0,e1,e2,e3,e4,e5,e6⟩:=rE.p7;have o0:=rO3.cell (j:=0) rfl;have o2:=rO3.cell (j:=2) rfl;have o3:=rO3.cell (j:=3) rfl;obtain⟨q,hq⟩:∃ q,updE e (dO,k,n,tx) (p,z+1)=q:=⟨_,rfl⟩
     have HU2:=HU.out;rw [hq] at HU2 HRS4;have HUU:=zH HU2;obtain⟨e9,err⟩:=q;clear HU HU2 hq;have hbne:¬ (w.heap.size=W3.heap.size):=(by omega);have hone:¬ (w.heap.size+1=W3.heap.size):=(by omega);have hrne:¬ (w.heap.size+1+1=W3.heap.size):=by omega
     have hways:(is=true/\∃ m,za4 se k=some m) ∨ (is=false/\¬ (se.length:Int) ≥ 256/\za4 se k=none):=by
      have h9:=HIS.out
      cases hf:za4 se k with
      | none=>rw [hf] at h9;exact .inr ⟨h9.symm,fun h=>hfull ⟨hf,by omega⟩,rfl⟩
      | some m=>rw [hf] at h9;exact .inl ⟨h9.symm,m,rfl⟩
     have HSW:=zH hways;clear hways hfull HIS HE;obtain⟨w0,w1,w2,w3⟩:=rOw.p4;have hwa:=HWA.out;dsimp only;rename_i K1 hK1 K0 hK0;have HK1:=zH hK1;clear hK1;refine hK0 _ _ ?_;clear hK0 K0;go_wp;refine HK1.out _ _ ?_;clear HK1 K1;refine wpH ?_;intro K1 HK1
     have REST1:∀ ⦃u15 u16 u17 u18 u19 u20 u21 u22 u23 u24 u25 u26 u27 u28 u29 u30 u31 u32 u33 u34 u35 u36 u37 u38 u39 u40 u41 u42 u43 u44 u45:Value⦄,K1 ⟨#[stV (.slice A1 sa.length n1) (.slice A2 se.length n2) (.slice A3 sp.length n3),St p,opV (dO,k,n,tx),.pointer (some ⟨w.heap.size,0,none⟩),Qa,.pointer (some ⟨w.heap.size+1,0,none⟩),.pointer (some ⟨w.heap.size+1+1,0,none⟩),I 0,U z,.pointer (some ⟨W3.heap.size,0,none⟩),.bool is,Qa,Qa,Qa,Qa,u15,u16,u17,u18,u19,u20,u21,u22,u23,u24,u25,u26,u27,u28,u29,u30,u31,u32,u33,u34,u35,u36,u37,u38,u39,u40,u41,u42,u43,u44,u45,Qa,Qa,Qa,Qa,Qa,Qa,Qa,Qa,Qa,Qa,Qa,Qa,Qa,Qa,Qa,Qa,Qa,Qa,Qa,Qa,Qa,Qa,Qa,Qa,Qa,Qa,Qa,Qa,Qa,Qa,Qa,Qa,Qa,Qa,Qa,Qa,Qa,Qa,Qa,Qa,Qa,Qa,Qa,Qa,Qa,Qa],[]⟩ (W3.alloc (.cells (entL e (.slice C1 e.seen.length c1) (.slice C2 e.counts.length c2) (.slice C3 e.items.length c3)).toArray 46)):=by
      intro u15 u16 u17 u18 u19 u20 u21 u22 u23 u24 u25 u26 u27 u28 u29 u30 u31 u32 u33 u34 u35 u36 u37 u38 u39 u40 u41 u42 u43 u44 u45;refine HK1.out _ _ ?_;clear HK1 K1;go_wp2_with fail;refine HUU.out.mono ?_;rintro r W4 ⟨y1,y2,y3,rfl,hA4,hx4⟩;rename_i K1 hK1 K0 hK0;have HK1:=zH hK1;clear hK1;simp only at hA4 ⊢;obtain⟨Y1,y1n,Y2,y2n,Y3,y3n,rfl,rfl,rfl⟩:=hA4.fm;have hz4:=hx4.size;have rB4:=rB3.ext hx4;have rO4:=rO3.ext hx4;have rR4:=rR3.ext hx4;have rE4:=rE.ext hx4;have hkp:=zgw W4 W3.heap.size e9 (.slice Y1 e9.seen.length y1n) (.slice Y2 e9.counts.length y2n) (.slice Y3 e9.items.length y3n);have hPs:W4.heap.size<=(put7 W4 W3.heap.size e9 (.slice Y1 e9.seen.length y1n) (.slice Y2 e9.counts.length y2n) (.slice Y3 e9.items.length y3n)).heap.size/\(put7 W4 W3.heap.size e9 (.slice Y1 e9.seen.length y1n) (.slice Y2 e9.counts.length y2n) (.slice Y3 e9.items.length y3n)).heap.size<=W4.heap.size:=(by have:=zp6 W4 W3.heap.size e9 (.slice Y1 e9.seen.length y1n) (.slice Y2 e9.counts.length y2n) (.slice Y3 e9.items.length y3n);omega);have rB5:RowIs (put7 W4 W3.heap.size e9 (.slice Y1 e9.seen.length y1n) (.slice Y2 e9.counts.length y2n) (.slice Y3 e9.items.length y3n)) _ _ _ _:=rB4.keep (hkp _ hbne);have rO5:RowIs (put7 W4 W3.heap.size e9 (.slice Y1 e9.seen.length y1n) (.slice Y2 e9.counts.length y2n) (.slice Y3 e9.items.length y3n)) _ _ _ _:=rO4.keep (hkp _ hone);have rR5:RowIs (put7 W4 W3.heap.size e9 (.slice Y1 e9.seen.length y1n) (.slice Y2 e9.counts.length y2n) (.slice Y3 e9.items.length y3n)) _ _ _ _:=rR4.keep (hkp _ hrne);have rG5:RowIs (put7 W4 W3.heap.size e9 (.slice Y1 e9.seen.length y1n) (.slice Y2 e9.counts.length y2n) (.slice Y3 e9.items.length y3n)) _ _ _ _:=zrz (e:=e9) (v1:=.slice Y1 e9.seen.length y1n) (v2:=.slice Y2 e9.counts.length y2n) (v3:=.slice Y3 e9.items.length y3n) rE4;have hx5:Ext w (put7 W4 W3.heap.size e9 (.slice Y1 e9.seen.length y1n) (.slice Y2 e9.counts.length y2n) (.slice Y3 e9.items.length y3n)):=zeb (hx03.trans hx4) (by omega) e9 _ _ _;have hEW:W3.heap.size < W4.heap.size:=(by omega);have HA5:Hid (EntAt (put7 W4 W3.heap.size e9 (.slice Y1 e9.seen.length y1n) (.slice Y2 e9.counts.length y2n) (.slice Y3 e9.items.length y3n)) (fun b=>W3.heap.size < b/\b < W4.heap.size) e9 _ _ _):=zH ((hA4.mono (S':=fun b=>W3.heap.size < b/\b < W4.heap.size) (fun b hb h=>⟨by omega,hb⟩)).keep fun b hb _=>hkp b (by omega));have H5:Hid (StAt (put7 W4 W3.heap.size e9 (.slice Y1 e9.seen.length y1n) (.slice Y2 e9.counts.length y2n) (.slice Y3 e9.items.length y3n)) (fun b=>b < w.heap.size) ⟨sa,se,sp⟩ _ _ _):=zH ((H3.out.ext hx4).keep fun b hb _=>hkp b (by omega));obtain⟨e40,e41,e42,e43,e44,e45,e46⟩:=rE4.p7;obtain⟨ef0,ef1,ef2,ef3,ef4,ef5,ef6⟩:=rE4.q7;have HP5:=zH (show _/\_/\_/\_/\_/\_ from ⟨rB5,rO5,rR5,rG5,hx5,hPs⟩);clear hA4 hx4 hkp HUU rB4 rE4 rO4 rR4 rB5 rO5 rR5 rG5 hx5 hPs rB3 rO3 rR3 rE rBw rOw rRw hx03 H3 hx3w hxb hz3 hEz;clear e0 e1 e2 e3 e4 e5 e6 o0 o2 o3 o1' b1' w0 w1 w2 w3 bw1 hwa
      refine hK0 _ _ ?_;clear hK0 K0;go_wp;refine HK1.out _ (put7 W4 W3.heap.size e9 (.slice Y1 e9.seen.length y1n) (.slice Y2 e9.counts.length y2n) (.slice Y3 e9.items.length y3n)) ?_;clear HK1 K1 e40 e41 e42 e43 e44 e45 e46 ef0 ef1 ef2 ef3 ef4 ef5 ef6;generalize (put7 W4 W3.heap.size e9 (.slice Y1 e9.seen.length y1n) (.slice Y2 e9.counts.length y2n) (.slice Y3 e9.items.length y3n))=W5 at *;obtain⟨rB5,rO5,rR5,rG5,hx5,hPs⟩:=HP5.out;clear HP5;obtain⟨b50,b51,b52⟩:=rB5.p3
      by_cases herr:err=0
      ·subst herr;have HR:=zH (show updS ⟨sa,se,sp⟩ p (dO,k,n,tx)=(⟨setM sa p (z+1),zcg se k e9,sp⟩,0) from HRS4.out);have HC:=zH (zjx H5.out SM.out);clear HRS4;refine wpH ?_;intro K2 HK2;go_wp;refine HK2.out _ _ ?_;clear HK2 K2;refine wpH ?_;intro K3 HK3;go_wp;refine HC.out.mono ?_;rintro r W6 ⟨u1,u2,u3,rfl,hn6,hx6⟩;obtain⟨B1,m1,B2,m2,B3,m3,rfl,rfl,rfl⟩:=hn6.fm;clear HC b50 b51 b52;have hz6:=hx6.size;have rS6:=zaf W6 26 [.slice B1 sa.length m1,.slice B2 se.length m2,.slice B3 sp.length m3];have hxa:=(Ext.refl W6).alloc (.cells #[.slice B1 sa.length m1,.slice B2 se.length m2,.slice B3 sp.length m3] 26);have hol6:w.heap.size+1 < W6.heap.size:=(by omega);have hx67:=hx6.trans hxa;have o61:=(rO5.ext hx67).cell (j:=1) rfl;have s71:=rS6.cell (j:=1) rfl;have rG7:=rG5.ext hx67;have rR7:=rR5.ext hx67;have hx7:=hx5.trans hx67;have HA7:=zH (HA5.out.ext hx67);have HN7:=zH ((hn6.at.mono (S':=fun b=>W5.heap.size<=b/\b < W6.heap.size) (fun b hb h=>⟨h,hb⟩)).ext hxa);have HE7:=zH (OwnL.ext (OwnL.mono hn6.entries (S':=fun b=>(W5.heap.size<=b/\¬ zad (.slice B2 se.length m2) b)/\b < W6.heap.size) (fun b hb h=>⟨h,hb⟩)) hxa);have hE6:∀ b,zad (.slice B2 se.length m2) b->W5.heap.size<=b/\b < W6.heap.size:=fun b hb=>hn6.entries.base_le hb
       have HSR:=zH (zm4 k HN7.out.entries hri.out (Qc SM.out.entries (by decide)));have hS6:=rS6.lt
       have HO6:=zH (show Own (W6.alloc (.cells #[.slice B1 sa.length m1,.slice B2 se.length m2,.slice B3 sp.length m3] 26)) W5.heap.size 97 2 (.slice B1 sa.length m1) sa.length (sa.flatMap zaj)/\Own (W6.alloc (.cells #[.slice B1 sa.length m1,.slice B2 se.length m2,.slice B3 sp.length m3] 26)) W5.heap.size 9 1 (.slice B3 sp.length m3) sp.length (sp.flatMap strC)/\(∀ b,zad (.slice B1 sa.length m1) b->¬ zad (.slice B2 se.length m2) b)/\(∀ b,zad (.slice B3 sp.length m3) b->¬ zad (.slice B2 se.length m2) b) from by obtain⟨xE,hoE⟩:=hn6.entries.own;exact⟨hn6.all.ext hxa,hn6.pruned.ext hxa,hn6.all.apart2 hoE (by decide),hn6.pruned.apart2 hoE (by decide)⟩)
       clear hn6 hx6 hxa hx67 rG5 rR5 hx5 HA5 H5 rO5;rename_i K hK;refine hK _ _ ?_;clear hK K;go_wp;refine HK3.out _ _ ?_;clear HK3 K3;generalize W6.alloc (.cells #[.slice B1 sa.length m1,.slice B2 se.length m2,.slice B3 sp.length m3] 26)=W7 at *;refine wpH ?_;intro K5 HK5;go_wp;refine HSR.out.mono ?_;rintro r W8 ⟨i,is2,rfl,hF,hx8⟩;have rS8:=rS6.ext hx8;have rG8:=rG7.ext hx8;have rR8:=rR7.ext hx8;have hx08:=hx7.trans hx8;have hz8:=hx8.size;clear rS6 rG7 rR7 hx7 HSR o61 s71;rename_i K hK;refine hK _ _ ?_;clear hK K;go_wp;refine HK5.out _ _ ?_;clear HK5 K5;refine wpH ?_;intro K6 HK6
       have REST2:∀ ⦃u13 u14 u15 u16 u17 u18 u19 u20 u21 u22 u23 u24 u25 u26 u27 u28 u29 u30 u31 u32 u33 u34 u35 u36 u37 u38 u39 u40 u41 u42 u43 u44 u45 u46 u47 u48 u49 u50 u51 u52 u53 u54 u55 u56 u57 u58 u59 u60 u61 u62 u63 u64 u65 u66 u67 u68 u69 u70 u71 u72 u73 u74 u75 u76 u77 u78 u79 u80 u81 u82 u83:Value⦄ (AE:Option Addr) (nE cE:Nat) (W9:World),RowIs W9 W6.heap.size 26 [.slice B1 sa.length m1,.slice AE nE cE,.slice B3 sp.length m3] []->RowIs W9 (w.heap.size+1+1) 26 [.slice none 0 0,.slice none 0 0,.slice none 0 0] []->Own W9 W5.heap.size 97 2 (.slice B1 sa.length m1) sa.length (sa.flatMap zaj)->Own W9 W5.heap.size 9 1 (.slice B3 sp.length m3) sp.length (sp.flatMap strC)->Sl entryT W9 (fun b=>W3.heap.size < b/\b ≠ W6.heap.size) (.slice AE nE cE) (zcg se k e9)->Ext w W9->K6 ⟨#[stV (.slice A1 sa.length n1) (.slice A2 se.length n2) (.slice A3 sp.length n3),St p,opV (dO,k,n,tx),.pointer (some ⟨w.heap.size,0,none⟩),Qa,.pointer (some ⟨w.heap.size+1,0,none⟩),.pointer (some ⟨w.heap.size+1+1,0,none⟩),I 0,U z,.pointer (some ⟨W3.heap.size,0,none⟩),.bool is,I 0,.pointer (some ⟨W6.heap.size,0,none⟩),u13,u14,u15,u16,u17,u18,u19,u20,u21,u22,u23,u24,u25,u26,u27,u28,u29,u30,u31,u32,u33,u34,u35,u36,u37,u38,u39,u40,u41,u42,u43,u44,u45,u46,u47,u48,u49,u50,u51,u52,u53,u54,u55,u56,u57,u58,u59,u60,u61,u62,u63,u64,u65,u66,u67,u68,u69,u70,u71,u72,u73,u74,u75,u76,u77,u78,u79,u80,u81,u82,u83,Qa,Qa,Qa,Qa,Qa,Qa,Qa,Qa],[]⟩ W9:=by
        intro u13 u14 u15 u16 u17 u18 u19 u20 u21 u22 u23 u24 u25 u26 u27 u28 u29 u30 u31 u32 u33 u34 u35 u36 u37 u38 u39 u40 u41 u42 u43 u44 u45 u46 u47 u48 u49 u50 u51 u52 u53 u54 u55 u56 u57 u58 u59 u60 u61 u62 u63 u64 u65 u66 u67 u68 u69 u70 u71 u72 u73 u74 u75 u76 u77 u78 u79 u80 u81 u82 u83 AE nE cE W9 rS9 rR9 hO1 hO3 he9 hx9;have HE9:=zH he9;have HS:=zH (zj9 p (z+1) (zbb hO1) (Qc SM.out.all (by decide)));have hz9:=rS9.lt;clear he9 HE7 HA7 HN7 rS8 rG8 rR8 hx08 hx8 HO6 hF HSW;refine HK6.out _ _ ?_;clear HK6 K6;have s90:=rS9.cell (j:=0) rfl;have hwa2:=HWA.out;refine wpH ?_;intro K7 HK7;go_wp;clear s90 hwa2;refine HS.out.mono ?_;rintro r W10 ⟨u,rfl,ho,hx10⟩;obtain⟨U1,un,rfl,-,-⟩:=ho.form;have hz10:=hx10.size;have rS10:=rS9.ext hx10;have rR10:=rR9.ext hx10;obtain⟨y0,y1,y2⟩:=rS10.p3;have yf:=rS10.frozen 0;have rS11:=rS10.set (j:=0) (by simp) (.slice U1 (setM sa p (z+1)).length un);simp only [Qj] at rS11;obtain⟨z0,z1,z2⟩:=rS11.p3;obtain⟨rr0,rr1,rr2⟩:=rR10.p3;obtain⟨ff0,ff1,ff2⟩:=rR10.q3;have rR11:=rR10.other (p:=⟨W6.heap.size,0,none⟩) (by simp;omega) (.slice U1 (setM sa p (z+1)).length un);obtain⟨r0,r1,r2⟩:=rR11.p3;obtain⟨f0,f1,f2⟩:=rR11.q3;have HX:=zH ((hx9.trans hx10).set (p:=⟨W6.heap.size,0,none⟩) (by simp;omega) (.slice U1 (setM sa p (z+1)).length un));have HO:=zH ho;have HE10:=zH (HE9.out.ext (by decide) hx10);have HP10:=zH (hO3.ext hx10);have hP3:∀ b,zad (.slice B3 sp.length m3) b->b ≠ W6.heap.size:=fun b hb e=>(hO3.ext hx10).apart rS10 (by decide) (by rw [<- e];exact hb)
        clear ho rS9 rR9 rS10 rR10 rS11 rR11 hx9 hx10 HS HE9 hO1 hO3;rename_i K hK;refine hK _ _ ?_;clear hK K;go_wp;refine HK7.out _ _ ?_;clear HK7 K7;go_wp2_with fail
        (try simp only [Exit.inBlock,Exit.then])
        refine bodyPost_ret (v:=.tuple #[stV (.slice U1 (setM sa p (z+1)).length un) (.slice AE nE cE) (.slice B3 sp.length m3),I 0]) (by simp [results,Tryz.f36,go_sem,r0,r1,r2,rr0,rr1,rr2]) rfl ?_;have hq:=zbn (q:=w.heap.size+1+1) HX.out (by omega) (.slice U1 (setM sa p (z+1)).length un) (.slice AE nE cE) (.slice B3 sp.length m3);refine ⟨(.slice U1 (setM sa p (z+1)).length un),(.slice AE nE cE),.slice B3 sp.length m3,by (rw [HR.out];try rfl),?_⟩;rw [HR.out];refine ⟨?_,hq⟩;have hkp:∀ b,b ≠ W6.heap.size->b ≠ w.heap.size+1+1->(put3 (W10.setCell ⟨W6.heap.size,0,none⟩ (.slice U1 (setM sa p (z+1)).length un)) (w.heap.size+1+1) (.slice U1 (setM sa p (z+1)).length un) (.slice AE nE cE) (.slice B3 sp.length m3)).heap[b]? = W10.heap[b]?:=fun b h1 h2=>(zda _ _ _ _ _ b h2).trans (Qb _ _ _ _ h1)
        refine ⟨?_,?_,?_⟩
        ·exact (zbb (HO.out.keep fun b hb _=>hkp b (by have:=(HO.out.base_le hb).1;omega) (by have:=(HO.out.base_le hb).1;omega))).mono (by decide) fun b _ h=>by omega
        ·exact (HE10.out.keep (by decide) fun b hb _=>hkp b (by omega) (by omega)).mono (by decide) fun b _ hb=>by omega
        ·exact ((OwnL.flat_iff (S:=fun b=>W5.heap.size<=b)).2 (HP10.out.keep fun b hb _=>hkp b (hP3 b hb) (by have:=(HP10.out.base_le hb).1;omega))).sl (by decide) (fun b _ h=>by omega) (fun b h _=>by omega)
       clear HK6;rcases HSW.out with ⟨rfl,m0,hsome⟩ | ⟨rfl,hlen,hsome⟩
       ·obtain⟨hil,hput⟩:=zx2 (e:=e9) hri.out hF hsome;obtain⟨g,cap,X1,X2,tl,c0,c1x,c2x,c3x,c4,c5,c6,hv,hgb,hg,hX1,hfin⟩:=zz0 (S:=fun b=>W3.heap.size < b/\b < W4.heap.size) (Sx:=fun b=>W3.heap.size < b/\b < W6.heap.size) (OwnL.ext HE7.out hx8) hil (HA7.out.ext hx8) (fun b hb=>⟨fun ho=>by have:=hE6 b ho;omega,by omega⟩) (fun b hb=>⟨hb.1.2,by have:=hb.1.1;have:=hb.2;omega⟩) (fun b hb=>by have:=hE6 b hb;omega);obtain⟨e1,e2⟩:B2=some ⟨g,0,none⟩/\m2=cap:=by injection hv with a b c;exact⟨a,c⟩
        subst e1;subst e2;clear hv;have hm2:0 < m2:=by obtain⟨_,c,e,h1,_⟩:=HE7.out.form;injection e with _ _ e3;subst e3;exact Qw (Ys (Ye i) hil) h1
        have hgE:=hE6 g ⟨g,_,_,rfl,hm2,rfl⟩;obtain⟨k0,k1,k2,k3,k4,k5,k6⟩:=zn9 hg hX1;have kf0:=hg.frozen (i * 7);have kf1:=hg.frozen (i * 7+1);have kf2:=hg.frozen (i * 7+2);have kf3:=hg.frozen (i * 7+3);have kf4:=hg.frozen (i * 7+4);have kf5:=hg.frozen (i * 7+5);have kf6:=hg.frozen (i * 7+6);have hi1:(i:Int) < (se.length:Int):=(by omega);have s1:=rS8.cell (j:=1) rfl;have s0:=rS8.cell (j:=0) rfl;obtain⟨g0,g1,g2,g3,g4,g5,g6⟩:=rG8.p7;have hgs:¬ (W6.heap.size=g):=(by omega);have hgs2:¬ (g=W6.heap.size):=(by omega);have hk9:∀ b,b ≠ g->(((((((W8.setCell ⟨g,i * 7,none⟩ (St e9.key)).setCell ⟨g,i * 7+1,none⟩ (.slice Y1 e9.seen.length y1n)).setCell ⟨g,i * 7+2,none⟩ (.slice Y2 e9.counts.length y2n)).setCell ⟨g,i * 7+3,none⟩ (.slice Y3 e9.items.length y3n)).setCell ⟨g,i * 7+4,none⟩ (U e9.cell.1)).setCell ⟨g,i * 7+5,none⟩ (St e9.cell.2.1)).setCell ⟨g,i * 7+6,none⟩ (.bool e9.cell.2.2)).heap[b]? = W8.heap[b]?:=fun b hb=>((((((Qb _ _ _ b hb).trans (Qb _ _ _ b hb)).trans (Qb _ _ _ b hb)).trans (Qb _ _ _ b hb)).trans (Qb _ _ _ b hb)).trans (Qb _ _ _ b hb)).trans (Qb _ _ _ b hb)
        have HE9:=zH (hfin (((((((W8.setCell ⟨g,i * 7,none⟩ (St e9.key)).setCell ⟨g,i * 7+1,none⟩ (.slice Y1 e9.seen.length y1n)).setCell ⟨g,i * 7+2,none⟩ (.slice Y2 e9.counts.length y2n)).setCell ⟨g,i * 7+3,none⟩ (.slice Y3 e9.items.length y3n)).setCell ⟨g,i * 7+4,none⟩ (U e9.cell.1)).setCell ⟨g,i * 7+5,none⟩ (St e9.cell.2.1)).setCell ⟨g,i * 7+6,none⟩ (.bool e9.cell.2.2)) (RowIs.set7 hg hX1 _ _ _ _ _ _ _) (fun b hb _=>hk9 b hb));have rS9:RowIs (((((((W8.setCell ⟨g,i * 7,none⟩ (St e9.key)).setCell ⟨g,i * 7+1,none⟩ (.slice Y1 e9.seen.length y1n)).setCell ⟨g,i * 7+2,none⟩ (.slice Y2 e9.counts.length y2n)).setCell ⟨g,i * 7+3,none⟩ (.slice Y3 e9.items.length y3n)).setCell ⟨g,i * 7+4,none⟩ (U e9.cell.1)).setCell ⟨g,i * 7+5,none⟩ (St e9.cell.2.1)).setCell ⟨g,i * 7+6,none⟩ (.bool e9.cell.2.2)) _ _ _ _:=rS8.keep (hk9 _ hgs);have rR9:RowIs (((((((W8.setCell ⟨g,i * 7,none⟩ (St e9.key)).setCell ⟨g,i * 7+1,none⟩ (.slice Y1 e9.seen.length y1n)).setCell ⟨g,i * 7+2,none⟩ (.slice Y2 e9.counts.length y2n)).setCell ⟨g,i * 7+3,none⟩ (.slice Y3 e9.items.length y3n)).setCell ⟨g,i * 7+4,none⟩ (U e9.cell.1)).setCell ⟨g,i * 7+5,none⟩ (St e9.cell.2.1)).setCell ⟨g,i * 7+6,none⟩ (.bool e9.cell.2.2)) _ _ _ _:=rR8.keep (hk9 _ (by omega));rw [hput] at HE9;have hO1:=(HO6.out.1.ext hx8).keep (w':=(((((((W8.setCell ⟨g,i * 7,none⟩ (St e9.key)).setCell ⟨g,i * 7+1,none⟩ (.slice Y1 e9.seen.length y1n)).setCell ⟨g,i * 7+2,none⟩ (.slice Y2 e9.counts.length y2n)).setCell ⟨g,i * 7+3,none⟩ (.slice Y3 e9.items.length y3n)).setCell ⟨g,i * 7+4,none⟩ (U e9.cell.1)).setCell ⟨g,i * 7+5,none⟩ (St e9.cell.2.1)).setCell ⟨g,i * 7+6,none⟩ (.bool e9.cell.2.2))) fun b hb _=>hk9 b (fun e=>by subst e;exact HO6.out.2.2.1 _ hb ⟨_,_,_,rfl,hm2,rfl⟩)
        have hO3:=(HO6.out.2.1.ext hx8).keep (w':=(((((((W8.setCell ⟨g,i * 7,none⟩ (St e9.key)).setCell ⟨g,i * 7+1,none⟩ (.slice Y1 e9.seen.length y1n)).setCell ⟨g,i * 7+2,none⟩ (.slice Y2 e9.counts.length y2n)).setCell ⟨g,i * 7+3,none⟩ (.slice Y3 e9.items.length y3n)).setCell ⟨g,i * 7+4,none⟩ (U e9.cell.1)).setCell ⟨g,i * 7+5,none⟩ (St e9.cell.2.1)).setCell ⟨g,i * 7+6,none⟩ (.bool e9.cell.2.2))) fun b hb _=>hk9 b (fun e=>by subst e;exact HO6.out.2.2.2 _ hb ⟨_,_,_,rfl,hm2,rfl⟩)
        have hx9:Ext w (((((((W8.setCell ⟨g,i * 7,none⟩ (St e9.key)).setCell ⟨g,i * 7+1,none⟩ (.slice Y1 e9.seen.length y1n)).setCell ⟨g,i * 7+2,none⟩ (.slice Y2 e9.counts.length y2n)).setCell ⟨g,i * 7+3,none⟩ (.slice Y3 e9.items.length y3n)).setCell ⟨g,i * 7+4,none⟩ (U e9.cell.1)).setCell ⟨g,i * 7+5,none⟩ (St e9.cell.2.1)).setCell ⟨g,i * 7+6,none⟩ (.bool e9.cell.2.2)):=((((((hx08.set (p:=⟨g,i * 7,none⟩) (by simp;omega) _).set (p:=⟨g,i * 7+1,none⟩) (by simp;omega) _).set (p:=⟨g,i * 7+2,none⟩) (by simp;omega) _).set (p:=⟨g,i * 7+3,none⟩) (by simp;omega) _).set (p:=⟨g,i * 7+4,none⟩) (by simp;omega) _).set (p:=⟨g,i * 7+5,none⟩) (by simp;omega) _).set (p:=⟨g,i * 7+6,none⟩) (by simp;omega) _;have hz9:(((((((W8.setCell ⟨g,i * 7,none⟩ (St e9.key)).setCell ⟨g,i * 7+1,none⟩ (.slice Y1 e9.seen.length y1n)).setCell ⟨g,i * 7+2,none⟩ (.slice Y2 e9.counts.length y2n)).setCell ⟨g,i * 7+3,none⟩ (.slice Y3 e9.items.length y3n)).setCell ⟨g,i * 7+4,none⟩ (U e9.cell.1)).setCell ⟨g,i * 7+5,none⟩ (St e9.cell.2.1)).setCell ⟨g,i * 7+6,none⟩ (.bool e9.cell.2.2)).heap.size=W8.heap.size:=(by simp only [Qv]);have HFF:=zH (show _/\_/\_/\_/\_/\_ from ⟨rS9,rR9,hO1,hO3,HE9.out.mono (S':=fun b=>W3.heap.size < b/\b ≠ W6.heap.size) (by decide) (fun b _ h=>⟨h.1,Nat.ne_of_lt h.2⟩),hx9⟩);clear HE7 HA7 HN7 hfin hg hk9 rS8 rG8 rR8 hx08 hx8 HO6 hgE hgb hF hput rS9 rR9 hO1 hO3 HE9 hx9;go_wp;obtain⟨a1,a2,a3,a4,a5,a6⟩:=HFF.out;exact REST2 _ _ _ _ a1 a2 a3 a4 a5 a6
       ·obtain⟨hil,hput⟩:=yba (e:=e9) hri.out hF hsome;have hxv:=(Ext.refl W8).alloc (.cells (entL e9 (.slice Y1 e9.seen.length y1n) (.slice Y2 e9.counts.length y2n) (.slice Y3 e9.items.length y3n)).toArray 46);have rV:=zaf W8 46 (entL e9 (.slice Y1 e9.seen.length y1n) (.slice Y2 e9.counts.length y2n) (.slice Y3 e9.items.length y3n));have hVl:=rV.lt;obtain⟨xs,hown,hone1,hfin⟩:=zs4 (S:=fun b=>W3.heap.size < b/\b < W4.heap.size) (Sx:=fun b=>W3.heap.size < b/\b ≠ W6.heap.size) (OwnL.ext HE7.out (hx8.trans hxv)) hil (HA7.out.ext (hx8.trans hxv)) (fun b hb=>⟨fun ho=>by have:=hE6 b ho;omega,by omega,by omega⟩) (fun b hb=>⟨hb.1.2,by have:=hb.1.1;have:=hb.2;omega,by have:=hb.2;omega⟩) (fun b hb=>by have:=hE6 b hb;omega) (by omega);have hoV:=zgm ((HA7.out.ext (hx8.trans hxv)).rd (S':=fun _=>True) (fun _ _ _=>trivial));have HI:=zH (zs3 hown rV rfl hoV hone1 hil SM.out.entries (by omega) (fun ho=>by have:=hE6 _ ho;omega));obtain⟨g0,g1,g2,g3,g4,g5,g6⟩:=rG8.p7;have s1:=rS8.cell (j:=1) rfl;have hso:∀ b,zad (.slice B2 se.length m2) b->b ≠ W6.heap.size:=fun b hb=>by have:=hE6 b hb;omega
        have rSv:=rS8.ext hxv;have rRv:=rR8.ext hxv;have hx0v:=hx08.trans hxv;have HO8:=zH ((⟨HO6.out.1.ext (hx8.trans hxv),HO6.out.2.1.ext (hx8.trans hxv)⟩:_/\_));clear HE7 HA7 HN7 rG8 rR8 hx08 rS8 hF;go_wp;generalize W8.alloc (.cells (entL e9 (.slice Y1 e9.seen.length y1n) (.slice Y2 e9.counts.length y2n) (.slice Y3 e9.items.length y3n)).toArray 46)=Wv at *;refine HI.out.mono ?_;rintro r W9 ⟨v9,rfl,hown9,hgr⟩;have HE9a:=hfin W9 v9 hown9 hgr;rw [hput] at HE9a;have hlen9:(zcg se k e9).length=se.length+1:=(by rw [<- hput];simp;omega);obtain⟨AV,cV,rfl,-,-⟩:=hown9.form;have rSw:=rSv.keep (hgr.same _ rSv.lt (fun ho=>hso _ ho rfl));have rRw9:=rRv.keep (hgr.same _ rRv.lt (fun ho=>by have:=hE6 _ ho;omega));have hO1w:=HO8.out.1.keep fun b hb hlt=>hgr.same b hlt (fun ho=>HO6.out.2.2.1 b hb ho)
        have hO3w:=HO8.out.2.keep fun b hb hlt=>hgr.same b hlt (fun ho=>HO6.out.2.2.2 b hb ho)
        have hx0w:=hx0v.grew hgr (fun b hb=>by have:=hE6 b hb;omega);have sw0:=rSw.cell (j:=0) rfl;have sw1:=rSw.cell (j:=1) rfl;have swf:=rSw.frozen 1;have rS9:=rSw.set (j:=1) (by simp) (.slice AV (se.length+1) cV);simp only [Qx,Qj] at rS9;have rR9:=rRw9.other (p:=⟨W6.heap.size,1,none⟩) (by simp;omega) (.slice AV (se.length+1) cV);have hO1:=hO1w.keep (w':=W9.setCell ⟨W6.heap.size,1,none⟩ (.slice AV (se.length+1) cV)) fun b hb _=>Qb _ _ _ _ (fun e=>hO1w.apart rSw (by decide) (by have e2:b=W6.heap.size:=e;rw [<- e2];exact hb))
        have hO3:=hO3w.keep (w':=W9.setCell ⟨W6.heap.size,1,none⟩ (.slice AV (se.length+1) cV)) fun b hb _=>Qb _ _ _ _ (fun e=>hO3w.apart rSw (by decide) (by have e2:b=W6.heap.size:=e;rw [<- e2];exact hb))
        have HE9:=zH (HE9a.keep (w':=W9.setCell ⟨W6.heap.size,1,none⟩ (.slice AV (se.length+1) cV)) (by decide) fun b hb _=>Qb _ _ _ _ (fun e=>hb.2 e));have hx9:=hx0w.set (p:=⟨W6.heap.size,1,none⟩) (by simp;omega) (.slice AV (se.length+1) cV);have hz9:(W9.setCell ⟨W6.heap.size,1,none⟩ (.slice AV (se.length+1) cV)).heap.size=W9.heap.size:=Qv _ _ _;have hz9b:=hgr.size;have HFF:=zH (show _/\_/\_/\_/\_/\_ from ⟨rS9,rR9,hO1,hO3,HE9.out,hx9⟩);clear rSv rRv hx0v hO1w hO3w hx0w HE9a hown9 hgr hfin hown HI rSw rRw9 hx8 HO6 HO8 rS9 rR9 hO1 hO3 HE9 hx9;rename_i K hK;refine hK _ _ ?_;clear hK K;go_wp;obtain⟨a1,a2,a3,a4,a5,a6⟩:=HFF.out;exact REST2 _ _ _ _ a1 a2 a3 a4 a5 a6
      ·have HR:=zH (show updS ⟨sa,se,sp⟩ p (dO,k,n,tx)=(za1,err) by rw [HRS4.out];exact zN herr);have hne9:((err:Int) == 0)=false:=neI (by omega);obtain⟨r0,r1,r2⟩:=rR5.p3;obtain⟨f0,f1,f2⟩:=rR5.q3;have HX:=zH hx5;clear hx5 rB5 rR5 rO5 rG5 HA5 H5 HRS4;go_wp2_with fail
       (try simp only [Exit.inBlock,Exit.then])
       refine bodyPost_ret (v:=.tuple #[stV (.slice none 0 0) (.slice none 0 0) (.slice none 0 0),I err]) (by simp [results,Tryz.f36,go_sem,r0,r1,r2]) rfl ?_;have hq:=zbn (q:=w.heap.size+1+1) HX.out (by omega) (.slice none 0 0) (.slice none 0 0) (.slice none 0 0);refine ⟨.slice none 0 0,.slice none 0 0,.slice none 0 0,by (rw [HR.out];try rfl),?_⟩;rw [HR.out];exact⟨StAt.none _ _ _ _ _,hq⟩
     clear HK1;rcases HSW.out with ⟨rfl,m0,hsome⟩ | ⟨rfl,hlen,hsome⟩
     ·go_wp2_with fail
      apply REST1
     ·go_wp2_with fail
      apply REST1
end
section
end
section
open Go.RowKit Go.Shelf
def zc3 (all:List Mark) (p:PrD):Bool:=decide (ofM all p.1=p.2.1) && decide (p.2.2.2+p.2.1<=ofM all p.2.2.1)
theorem zk6 {S:Nat->Prop} {s:State} {a1 a2 a3:Value} {w:World} (p:PrD) (hm:mayP p=true) (hs:StAt w S s a1 a2 a3) :
  Calls Tryz.prog 13 #[stV a1 a2 a3,prV p] w fun e w'=>e=.returned (.bool (zc3 s.all p))/\Ext w w':=by
 obtain⟨sa,se,sp⟩:=s;obtain⟨b,c,o,n⟩:=p
 have hbd:n+c<=281474976710656:=by simp only [mayP,Qd,decide_eq_true_eq] at hm;omega
 obtain⟨A1,n1,A2,n2,A3,n3,rfl,rfl,rfl⟩:=hs.fm;have HS:=zH hs;have HX:=zH (show Ext w ((w.alloc (.cells #[.slice A1 sa.length n1,.slice A2 se.length n2,.slice A3 sp.length n3] 26)).alloc (.cells #[St b,U c,St o,U n] 29)) from ((Ext.refl w).alloc _).alloc _);have rA:RowIs ((w.alloc (.cells #[.slice A1 sa.length n1,.slice A2 se.length n2,.slice A3 sp.length n3] 26)).alloc (.cells #[St b,U c,St o,U n] 29)) w.heap.size 26 [.slice A1 sa.length n1,.slice A2 se.length n2,.slice A3 sp.length n3] []:=(zaf w 26 [.slice A1 sa.length n1,.slice A2 se.length n2,.slice A3 sp.length n3]).alloc _;have rB:RowIs ((w.alloc (.cells #[.slice A1 sa.length n1,.slice A2 se.length n2,.slice A3 sp.length n3] 26)).alloc (.cells #[St b,U c,St o,U n] 29)) (w.heap.size+1) 29 [St b,U c,St o,U n] []:=by have h:=zaf (w.alloc (.cells #[.slice A1 sa.length n1,.slice A2 se.length n2,.slice A3 sp.length n3] 26)) 29 [St b,U c,St o,U n];simp only [Qf] at h;exact h
 obtain⟨u1,hu1⟩:∃ u,ofM sa b=u:=⟨_,rfl⟩
 obtain⟨u2,hu2⟩:∃ u,ofM sa o=u:=⟨_,rfl⟩
 have HO1:=zH hu1;have HO2:=zH hu2;have HR:=zH (show zc3 sa (b,c,o,n)=(decide (u1=c) && decide (n+c<=u2)) by unfold zc3;rw [hu1,hu2]);clear hs hu1 hu2 hm;go_enter Tryz.func13,Tryz.ntmps13;go_wp2_with fail;generalize ((w.alloc (.cells #[.slice A1 sa.length n1,.slice A2 se.length n2,.slice A3 sp.length n3] 26)).alloc (.cells #[St b,U c,St o,U n] 29))=W0 at *
 by_cases hc:u1=c
 ·subst hc;have HQ:=zH (show zc3 sa (b,u1,o,n)=decide (n+u1<=u2) by rw [HR.out];simp);clear HR
  refine zat [fun v _=>v=.pointer (some ⟨w.heap.size,0,none⟩),
   fun v _=>v=.slice A1 sa.length n1,
   fun v _=>v=.pointer (some ⟨w.heap.size+1,0,none⟩),
   fun v _=>v=St b,
   fun v _=>v=U u1,
   fun v _=>v=.pointer (some ⟨w.heap.size+1,1,none⟩),
   fun v _=>v=U u1,
   fun v _=>v=.bool true,
   fun v _=>v=.bool true,
   fun v _=>v=.pointer (some ⟨w.heap.size,0,none⟩),
   fun v _=>v=.slice A1 sa.length n1,
   fun v _=>v=.pointer (some ⟨w.heap.size+1,2,none⟩),
   fun v _=>v=St o,
   fun v _=>v=U u2,
   fun v _=>v=.pointer (some ⟨w.heap.size+1,3,none⟩),
   fun v _=>v=U n,
   fun v _=>v=.pointer (some ⟨w.heap.size+1,1,none⟩),
   fun v _=>v=U u1,
   fun v _=>v=U (n+u1),
   fun v _=>v=.bool (decide (n+u1<=u2)),
   fun v _=>v=.bool (decide (n+u1<=u2))] rfl (by kernel_rfl) ?hR ?hstep ?hend
  case hR=>simp only [zM];exact⟨kP,kP,kP,kP,kP,kP,kP,kP,kP,kP,kP,kP,kP,kP,kP,kP,kP,kP,kP,kP,kP⟩
  case hstep =>
   simp only [zS,zD,Qe,zbj]
   and_intros <;> intro x W he f
   ·have h:x 2=.pointer (some ⟨w.heap.size,0,none⟩):=f.1;have hr:=rA.ext he;obtain⟨k0,k1,k2⟩:=hr.p3;go_wp;exact sQ
   ·have h:_=_:=f.1;have hc:=(rA.ext he).cell (j:=0) rfl;go_wp;exact sQ
   ·have h:x 3=.pointer (some ⟨w.heap.size+1,0,none⟩):=f.1;have hr:=rB.ext he;obtain⟨k0,k1,k2,k3⟩:=hr.p4;go_wp;exact sQ
   ·have h:_=_:=f.1;have hc:=(rB.ext he).cell (j:=0) rfl;go_wp;exact sQ
   ·have h:_=_:=f.1;have h2:_=_:=f.2.1;have HC:=zH (ze1 b (HS.out.all.ext (by decide) (HX.out.trans he)));rw [HO1.out] at HC;go_wp;refine HC.out.mono ?_;rintro r W2 ⟨rfl,hx2⟩;dsimp only;go_wp;exact zaa (v:=U u1) rfl hx2
   ·have h:x 3=.pointer (some ⟨w.heap.size+1,0,none⟩):=f.1;have hr:=rB.ext he;obtain⟨k0,k1,k2,k3⟩:=hr.p4;go_wp;exact sQ
   ·have h:_=_:=f.1;have hc:=(rB.ext he).cell (j:=1) rfl;go_wp;exact sQ
   ·have h0:_=_:=f.1;have h1:_=_:=f.2.1;go_wp;exact sQ
   ·have h0:_=_:=f.1;go_wp;exact sQ
   ·have h:x 2=.pointer (some ⟨w.heap.size,0,none⟩):=f.1;have hg:_=_:=f.2.1;have hr:=rA.ext he;obtain⟨k0,k1,k2⟩:=hr.p3;go_wp;exact sQ
   ·have h:_=_:=f.1;have hg:_=_:=f.2.1;have hc:=(rA.ext he).cell (j:=0) rfl;go_wp;exact sQ
   ·have h:x 3=.pointer (some ⟨w.heap.size+1,0,none⟩):=f.1;have hg:_=_:=f.2.1;have hr:=rB.ext he;obtain⟨k0,k1,k2,k3⟩:=hr.p4;go_wp;exact sQ
   ·have h:_=_:=f.1;have hg:_=_:=f.2.1;have hc:=(rB.ext he).cell (j:=2) rfl;go_wp;exact sQ
   ·have h:_=_:=f.1;have h2:_=_:=f.2.1;have hg:_=_:=f.2.2.1;have HC:=zH (ze1 o (HS.out.all.ext (by decide) (HX.out.trans he)));rw [HO2.out] at HC;go_wp;refine HC.out.mono ?_;rintro r W2 ⟨rfl,hx2⟩;dsimp only;go_wp;exact zaa (v:=U u2) rfl hx2
   ·have h:x 3=.pointer (some ⟨w.heap.size+1,0,none⟩):=f.1;have hg:_=_:=f.2.1;have hr:=rB.ext he;obtain⟨k0,k1,k2,k3⟩:=hr.p4;go_wp;exact sQ
   ·have h:_=_:=f.1;have hg:_=_:=f.2.1;have hc:=(rB.ext he).cell (j:=3) rfl;go_wp;exact sQ
   ·have h:x 3=.pointer (some ⟨w.heap.size+1,0,none⟩):=f.1;have hg:_=_:=f.2.1;have hr:=rB.ext he;obtain⟨k0,k1,k2,k3⟩:=hr.p4;go_wp;exact sQ
   ·have h:_=_:=f.1;have hg:_=_:=f.2.1;have hc:=(rB.ext he).cell (j:=1) rfl;go_wp;exact sQ
   ·have h0:_=_:=f.1;have h1:_=_:=f.2.1;have h2:_=_:=f.2.2.1;go_wp;exact sQ
   ·have h:_=_:=f.1;have h2:_=_:=f.2.1;have hz:decide ((n:Int)+(u1:Int)<=(u2:Int))=decide (n+u1<=u2):=(by rw [decide_eq_decide];omega);have hg:_=_:=f.2.2.1;go_wp;exact sQ
   ·have h0:_=_:=f.1;have h1:_=_:=f.2.1;go_wp;exact sQ
  case hend=>intro x W he f;have h25:x 25=.bool (decide (n+u1<=u2)):=f.2.2.2.2.2.2.2.2.2.2.2.2.2.2.2.2.2.2.2.2.1;clear f;simp only [zS,zD,zU,Qe,Qh,zav,Act.put,h25];have HXX:=zH (HX.out.trans he);clear he;go_wp2_with fail;go_ret;exact⟨by rw [HQ.out];rfl,HXX.out⟩
 ·have HQ:=zH (show zc3 sa (b,c,o,n)=false by rw [HR.out];simp [hc]);have hcb:((u1:Int) == (c:Int))=false:=by simp;omega
  clear HR
  refine zat [fun v _=>v=.pointer (some ⟨w.heap.size,0,none⟩),
   fun v _=>v=.slice A1 sa.length n1,
   fun v _=>v=.pointer (some ⟨w.heap.size+1,0,none⟩),
   fun v _=>v=St b,
   fun v _=>v=U u1,
   fun v _=>v=.pointer (some ⟨w.heap.size+1,1,none⟩),
   fun v _=>v=U c,
   fun v _=>v=.bool false,
   fun v _=>v=.bool false,
   fun _ _=>True,
   fun _ _=>True,
   fun _ _=>True,
   fun _ _=>True,
   fun _ _=>True,
   fun _ _=>True,
   fun _ _=>True,
   fun _ _=>True,
   fun _ _=>True,
   fun _ _=>True,
   fun _ _=>True,
   fun v _=>v=.bool false] rfl (by kernel_rfl) ?hR ?hstep ?hend
  case hR=>simp only [zM];exact⟨kP,kP,kP,kP,kP,kP,kP,kP,kP,kP,kP,kP,kP,kP,kP,kP,kP,kP,kP,kP,kP⟩
  case hstep =>
   simp only [zS,zD,Qe,zbj]
   and_intros <;> intro x W he f
   ·have h:_=_:=f.1;have hr:=rA.ext he;obtain⟨k0,k1,k2⟩:=hr.p3;go_wp;exact sQ
   ·have h:_=_:=f.1;have hc:=(rA.ext he).cell (j:=0) rfl;go_wp;exact sQ
   ·have h:_=_:=f.1;have hr:=rB.ext he;obtain⟨k0,k1,k2,k3⟩:=hr.p4;go_wp;exact sQ
   ·have h:_=_:=f.1;have hc:=(rB.ext he).cell (j:=0) rfl;go_wp;exact sQ
   ·have h:_=_:=f.1;have h2:_=_:=f.2.1;have HC:=zH (ze1 b (HS.out.all.ext (by decide) (HX.out.trans he)));rw [HO1.out] at HC;go_wp;refine HC.out.mono ?_;rintro r W2 ⟨rfl,hx2⟩;dsimp only;go_wp;exact zaa (v:=U u1) rfl hx2
   ·have h:_=_:=f.1;have hr:=rB.ext he;obtain⟨k0,k1,k2,k3⟩:=hr.p4;go_wp;exact sQ
   ·have h:_=_:=f.1;have hc:=(rB.ext he).cell (j:=1) rfl;go_wp;exact sQ
   ·have h0:_=_:=f.1;have h1:_=_:=f.2.1;go_wp;exact sQ
   ·have h0:_=_:=f.1;go_wp;exact sQ
   ·have hg:_=_:=f.2.1;go_wp;exact zaa trivial (Ext.refl _)
   ·have hg:_=_:=f.2.1;go_wp;exact zaa trivial (Ext.refl _)
   ·have hg:_=_:=f.2.1;go_wp;exact zaa trivial (Ext.refl _)
   ·have hg:_=_:=f.2.1;go_wp;exact zaa trivial (Ext.refl _)
   ·have hg:_=_:=f.2.2.1;go_wp;exact zaa trivial (Ext.refl _)
   ·have hg:_=_:=f.2.1;go_wp;exact zaa trivial (Ext.refl _)
   ·have hg:_=_:=f.2.1;go_wp;exact zaa trivial (Ext.refl _)
   ·have hg:_=_:=f.2.1;go_wp;exact zaa trivial (Ext.refl _)
   ·have hg:_=_:=f.2.1;go_wp;exact zaa trivial (Ext.refl _)
   ·have hg:_=_:=f.2.2.1;go_wp;exact zaa trivial (Ext.refl _)
   ·have hg:_=_:=f.2.2.1;go_wp;exact zaa trivial (Ext.refl _)
   ·have h0:_=_:=f.1;go_wp;exact sQ
  case hend=>intro x W he f;have h25:x 25=.bool false:=f.2.2.2.2.2.2.2.2.2.2.2.2.2.2.2.2.2.2.2.2.1;clear f;simp only [zS,zD,zU,Qe,Qh,zav,Act.put,h25];have HXX:=zH (HX.out.trans he);clear he;go_wp2_with fail;go_ret;exact⟨by rw [HQ.out];rfl,HXX.out⟩
end
section
def RiseB (l:List Item):Prop:=(l.Pairwise fun a b=>ltS a.1 b.1=true)/\∀ it ∈ l,it.2 ≠ []/\it.2.Pairwise fun a b=>ltOf cmpD a b=true
theorem zp9:RiseB []:=⟨.nil,by simp⟩
theorem GoodB.rise {l:List Item} (h:GoodB l):RiseB l:=⟨h.1,fun it hit=>(h.2.1 it hit).2⟩
theorem RiseB.nodup {l:List Item} (h:RiseB l):(zab l).Nodup:=(zl4 h.1 fun it hit=>(h.2 it hit).2).imp fun {a b} hab e=>by subst e;rw [zj1] at hab;cases hab
theorem RiseB.ext {a b:List Item} (ha:RiseB a) (hb:RiseB b) (h:∀ q,q ∈ zab a↔q ∈ zab b):a=b:=by
 rw [<- zj6 ha.1 ha.2,<- zj6 hb.1 hb.2];exact zfe (zdl ha.nodup hb.nodup h)
theorem zvn {ks:List zan} (h:ks.Nodup):RiseB (za7 ks):=zf8 _ (zhz h)
end
section
open Go.RowKit
theorem zvo {κ ν:Type} [DecidableEq κ] (L:List (κ × ν)) (k s:κ):(delL L k).lookup s=if s=k then none else L.lookup s:=by
 induction L with
 | nil=>simp [delL]
 | cons p r ih =>
  obtain⟨a,v⟩:=p;unfold delL at ih ⊢
  by_cases ha:a=k
  ·subst ha;rw [Qn (by simp),ih,Yi]
   by_cases hs:s=a
   ·simp [hs]
   ·rw [zN hs,zN hs,zia hs]
  ·rw [Qq (by simpa using ha),Yi,Yi,ih]
   by_cases hs:s=a
   ·subst hs;rw [zN ha];simp [ha]
   ·rw [zia hs]
theorem yaj {κ ν:Type} [DecidableEq κ] (z:ν) (L:List (κ × ν)) (k s:κ):getL z (delL L k) s=if s=k then z else getL z L s:=by
 unfold getL;rw [zvo]
 split <;> rfl
theorem yak {κ ν:Type} [DecidableEq κ] {L:List (κ × ν)} {k s:κ}:s ∈ (delL L k).map Prod.fst↔s ≠ k/\s ∈ L.map Prod.fst:=by
 unfold delL;rw [Qg,Qg]
 constructor
 ·rintro⟨p,hp,rfl⟩;obtain⟨h1,h2⟩:=Qi.1 hp;exact⟨by simpa using h2,p,h1,rfl⟩
 ·rintro⟨h,p,hp,rfl⟩;exact⟨p,Qi.2 ⟨hp,by simpa using h⟩,rfl⟩
theorem zqa {L:List (Str × Nat)} {s:Str} (k:Str):getL 0 (zei L s) k=if k=s then 0 else if k = [] then addU (getL 0 L []) (getL 0 L s) else getL 0 L k:=by
 unfold zei;rw [yaj,zji]
theorem foldP_key {L:List (Str × Nat)} {s k:Str}:k ∈ (zei L s).map Prod.fst↔k ≠ s/\(k = [] ∨ k ∈ L.map Prod.fst):=by
 unfold zei;rw [yak,zkz]
theorem zm5 {L:List (Str × Nat)} (h:(L.map Prod.fst).Nodup) (s:Str):((zei L s).map Prod.fst).Nodup:=(zij h _ _).sublist ((List.filter_sublist (l:=putL L _ _)).map _)
theorem znm (l:List zag) {s:Str} (h:s ≠ []):zbc l s=zdr (zei (zax l) s) (zei (zaz l) s):=by simp [zbc,h]
theorem zhh (l:List zag) (s:Str):GoodC (zbc l s):=by
 unfold zbc
 split
 ·exact zhb (zcd l)
 ·exact zhb (zm5 (zcd l) s)
theorem zbk (l:List zag) {s:Str} (h:s ≠ []) (k:Str):zbr (zbc l s) k=(if k=s then 0 else if k = [] then addU (zbr l []) (zbr l s) else zbr l k)/\zbf (zbc l s) k=(if k=s then 0 else if k = [] then addU (zbf l []) (zbf l s) else zbf l k):=by
 rw [znm l h]
 have:=zlv (Lp:=zei (zax l) s) (Lm:=zei (zaz l) s) (fun k hk=>by rw [foldP_key] at hk ⊢;refine ⟨hk.1,hk.2.imp id fun h=>?_⟩;rw [minusOf_key] at h;rw [plusOf_key];exact h) (zm5 (zcd l) s) k
 rw [zqa,zqa] at this;exact this
theorem zon {l:List zag} {s:Str} (h:s ≠ []) {c:zag} (hc:c ∈ zbc l s):c.1 ≠ s:=by
 rw [znm l h] at hc;exact (foldP_key.1 (listL_mem.1 hc).1).1
theorem zk7 {l:List zag} {s:Str} (h:s ≠ []) (hg:GoodC l) (hb:∀ c ∈ l,c.2.1 < 18446744073709551616/\c.2.2 < 18446744073709551616) (hn:∀ c ∈ l,c.1 ≠ s):zbc l s=l:=by
 have hp:∀ k,zbr l k < 18446744073709551616:=fun k=>Qy (plusC_le.2 fun c hc _=>Qz (hb c hc).1)
 have hm:∀ k,zbf l k < 18446744073709551616:=fun k=>Qy (minusC_le.2 fun c hc _=>Qz (hb c hc).2)
 have h1:=zf4 hn;have h2:=zfi hn;refine (zhh l s).ext hg fun k=>?_
 obtain⟨a,b⟩:=zbk l h k;rw [a,b]
 by_cases hk:k=s
 ·subst hk;simp [h1,h2]
 ·rw [zN hk,zN hk]
  by_cases hk0:k = []
  ·subst hk0;have a1:=hp [];have a2:=hm [];rw [zP rfl,zP rfl,h1,h2];unfold addU;omega
  ·rw [zN hk0,zN hk0];exact⟨rfl,rfl⟩
theorem yal {a b:List Int} (h:a.Perm b):a.sum=b.sum:=by
 induction h with
 | nil=>rfl
 | cons x _ ih=>simp [ih]
 | swap x y l=>simp;omega
 | trans _ _ ih1 ih2=>exact ih1.trans ih2
theorem znn (f:Str->Int):∀ U:List Str,(U.map f).sum=((U.filter fun k=>decide (f k ≠ 0)).map f).sum
 | []=>rfl
 | k :: r=>by
  have ih:=znn f r
  by_cases h:f k=0
  ·rw [Qn (by simpa using h),<- ih];simp [h]
  ·rw [Qq (by simpa using h)];simp [ih]
theorem zyh {f:Str->Int} {U K:List Str} (hU:U.Nodup) (hK:K.Nodup) (h:∀ k,f k ≠ 0->(k ∈ U↔k ∈ K)):(U.map f).sum=(K.map f).sum:=by
 rw [znn f U,znn f K];refine yal ((zdl (hU.filter _) (hK.filter _) fun k=>?_).map f);rw [Qi,Qi]
 constructor
 ·rintro⟨h1,h2⟩;exact⟨(h k (by simpa using h2)).1 h1,h2⟩
 ·rintro⟨h1,h2⟩;exact⟨(h k (by simpa using h2)).2 h1,h2⟩
def netC (l:List zag) (k:Str):Int:=((zbr l k:Nat):Int) - (zbf l k:Nat)
theorem zvp (l:List zag):zgf l=(((zax l).map Prod.fst).map (netC l)).sum:=by
 have hnd:=zcd l;unfold zgf;rw [Yt]
 congr 1
 refine Qu fun p hp=>?_
 simp only [Function.comp,netC];rw [show zbr l p.1=p.2 from zlf hnd hp]
 rfl
theorem zoo {l:List zag} {U:List Str} (hU:U.Nodup) (h:∀ k,netC l k ≠ 0->k ∈ U):zgf l=(U.map (netC l)).sum:=by
 rw [zvp];refine zyh (zcd l) hU fun k hk=>⟨fun _=>h k hk,fun _=>?_⟩
 refine Classical.byContradiction fun hn=>hk ?_
 rw [plusOf_key] at hn;have h1:∀ c ∈ l,c.1 ≠ k:=fun c hc e=>hn ⟨c,hc,e⟩
 unfold netC;rw [zf4 h1,zfi h1]
 rfl
theorem zop (l:List zag):zb7 l=wrap64 (zgf l):=by
 have h:=zrt (zax l) (zaz l) 0;unfold zb7 wrap64 sumL;have e:zgf l=((zax l).map fun p=>(p.2:Int) - ((getL (0:Nat) (zaz l) p.1:Nat):Int)).sum:=rfl;rw [<- e] at h;omega
theorem zr6 {x y:Int} (h:x % 18446744073709551616=y % 18446744073709551616):wrap64 x=wrap64 y:=by
 unfold wrap64;omega
theorem zqr {f g:Str->Int} {U:List Str} (h:∀ k ∈ U,f k=g k):(U.map f).sum=(U.map g).sum:=by
 congr 1
 exact Qu h
theorem ztf (l:List zag) {s:Str} (h:s ≠ []):zb7 (zbc l s)=zb7 l:=by
 rw [zop,zop];refine zr6 ?_;obtain⟨R,hR⟩:∃ R,(((zax l).map Prod.fst).filter fun k=>decide (k ≠ []/\k ≠ s))=R:=⟨_,rfl⟩
 have hRn:R.Nodup:=hR ▸ (zcd l).filter _;have hRm:∀ k,k ∈ R↔k ∈ (zax l).map Prod.fst/\k ≠ []/\k ≠ s:=fun k=>by rw [<- hR,Qi];simp
 have hU:([] :: s :: R).Nodup:=by
  rw [Vb,Vb];refine ⟨fun hm=>?_,fun hm=>((hRm s).1 hm).2.2 rfl,hRn⟩;rcases Yf.1 hm with e | hm
  ·exact h e.symm
  ·exact ((hRm []).1 hm).2.1 rfl
 have hl:∀ k,netC l k ≠ 0->k ∈ [] :: s :: R:=fun k hk=>by
  by_cases h0:k = []
  ·simp [h0]
  ·by_cases h1:k=s
   ·simp [h1]
   ·refine Qr _ (Qr _ ((hRm k).2 ⟨?_,h0,h1⟩));refine Classical.byContradiction fun hn=>hk ?_
    rw [plusOf_key] at hn;have h1:∀ c ∈ l,c.1 ≠ k:=fun c hc e=>hn ⟨c,hc,e⟩
    unfold netC;rw [zf4 h1,zfi h1]
    rfl
 have hf:∀ k,k ≠ []->k ≠ s->netC (zbc l s) k=netC l k:=fun k h0 h1=>by obtain⟨a,b⟩:=zbk l h k;rw [zN h1,zN h0] at a b;unfold netC;rw [a,b]
 rw [zoo hU hl,zoo (l:=zbc l s) hU fun k hk=>by
  by_cases h0:k = []
  ·simp [h0]
  ·by_cases h1:k=s
   ·simp [h1]
   ·exact hl k (by rw [<- hf k h0 h1];exact hk)]
 rw [Yg,Yg,Yg,Yg,Yh,Yh,Yh,Yh,zqr fun k hk=>hf k ((hRm k).1 hk).2.1 ((hRm k).1 hk).2.2];obtain⟨a,b⟩:=zbk l h [];obtain⟨c,d⟩:=zbk l h s;rw [zN (Ne.symm h),zP rfl] at a b;rw [zP rfl] at c d;unfold netC;rw [a,b,c,d];unfold addU;omega
theorem zk8 (l:List Item) (p:PrD):RiseB (zcr l p):=zvn (zdm _)
theorem zr7 {ks:List zan} {q:zan}:q ∈ zab (za7 ks)↔q ∈ ks:=by
 unfold za7;rw [zdw,(zbq ks).mem_iff]
theorem turnB_mem {l:List Item} {p:PrD} {q:zan}:q ∈ zab (zcr l p)↔∃ x ∈ zab l,zci p x=q:=by
 unfold zcr;rw [zr7,mem_setL,Qg]
 constructor
 ·rintro⟨x,hx,e⟩;exact⟨x,mem_setL.1 hx,e⟩
 ·rintro⟨x,hx,e⟩;exact⟨x,mem_setL.2 hx,e⟩
theorem zoq (p:PrD) (q:zan):(zci p q).1=q.1:=by
 unfold zci
 split <;> rfl
theorem zvq {p:PrD} (h:p.2.2.1 ≠ p.1) (q:zan):(zci p q).2.1 ≠ p.1:=by
 unfold zci
 split
 ·exact h
 ·assumption
theorem zk9 {l:List Item} {p:PrD} (hl:RiseB l) (h:∀ q ∈ zab l,q.2.1 ≠ p.1):zcr l p=l :=
 (zk8 l p).ext hl fun q=>by
  rw [turnB_mem]
  constructor
  ·rintro⟨x,hx,rfl⟩;rw [zci,zN (h x hx)];exact hx
  ·intro hq;exact⟨q,hq,by rw [zci,zN (h q hq)]⟩
theorem ztg (l:List Item) (p:PrD):zdo (zcr l p)=zdo l :=
 zrq (zm2 _) (zm2 _) fun t=>by
  rw [zoi,zoi]
  constructor
  ·rintro⟨q,hq,rfl⟩;obtain⟨x,hx,rfl⟩:=turnB_mem.1 hq;exact⟨x,hx,(zoq p x).symm⟩
  ·rintro⟨x,hx,rfl⟩;exact⟨zci p x,turnB_mem.2 ⟨x,hx,rfl⟩,zoq p x⟩
def zaq (p:PrD) (e:Entry):Entry:=⟨e.key,if 0 < ofM e.seen p.1 then setM (zau e.seen p.1) p.2.2.1 (max (ofM e.seen p.2.2.1) (p.2.2.2+p.2.1)) else e.seen,zbc e.counts p.1,zcr e.items p,e.cell⟩
def insP (l:List Str) (s:Str):List Str:=(l.filter fun x=>ltS x s)++s :: (l.filter fun x=>ltS s x)
def zbh (s:State) (p:PrD):State × Nat :=
 if mayS s && mayP p then
  if p.1 ∈ s.pruned then (s,0)
  else if 0 < ofM s.all p.1 then
   if zc3 s.all p then (⟨zau s.all p.1,s.entries.map (zaq p),insP s.pruned p.1⟩,0) else (za1,170)
  else (⟨s.all,s.entries,insP s.pruned p.1⟩,0)
 else (za1,2)
end
section
open Go.RowKit Go.Shelf
section
variable {w w1 w2:World} {g:Nat}
theorem Kept2.trans1 (h:Kept2 w w1 g g) (k:Kept2 w1 w2 g g):Kept2 w w2 g g :=
 ⟨k.os.trans h.os,k.tape.trans h.tape,k.output.trans h.output,Qc h.size k.size,fun j hj h1 h2=>(k.other j (Qw hj h.size) h1 h2).trans (h.other j hj h1 h2)⟩
theorem Kept2.ofExt (h:Ext w w1):Kept2 w w1 g g:=⟨h.os,h.tape,h.output,h.size,fun j hj _ _=>h.block j hj⟩
theorem Kept2.set (h:Kept2 w w1 g g) (j:Nat) (u:Value):Kept2 w (w1.setCell ⟨g,j,none⟩ u) g g :=
 ⟨h.os,h.tape,h.output,by rw [Qv];exact h.size,fun b hb h1 h2=>(Qb _ _ _ _ h1).trans (h.other b hb h1 h2)⟩
end
theorem zqb {tid base:Nat} {v:Value} {l:List zag} {w:World} (h:Own w base tid 3 v l.length (l.flatMap zbx)):Sl zcl w (fun b=>base<=b) v l :=
 (OwnL.flat_iff (S:=fun b=>base<=b).2 h).sl (by decide) (fun _ _ h=>h) (fun _ h _=>h)
theorem RowIs.set2 {w:World} {g T o:Nat} {X1 X2 tail:List Value} {c0 c1 c2 c3 c4 c5 c6:Value} (h:RowIs w g T (X1++([c0,c1,c2,c3,c4,c5,c6]++X2)) tail) (ho:X1.length=o) (u:Value) :
  RowIs (w.setCell ⟨g,o+1,none⟩ u) g T (X1++([c0,u,c2,c3,c4,c5,c6]++X2)) tail/\RowIs (w.setCell ⟨g,o+2,none⟩ u) g T (X1++([c0,c1,u,c3,c4,c5,c6]++X2)) tail/\RowIs (w.setCell ⟨g,o+3,none⟩ u) g T (X1++([c0,c1,c2,u,c4,c5,c6]++X2)) tail:=by
 subst ho;refine ⟨?_,?_,?_⟩
 ·have:=h.set (j:=X1.length+1) (by simp) u;simpa [Yk] using this
 ·have:=h.set (j:=X1.length+2) (by simp) u;simpa [Yk] using this
 ·have:=h.set (j:=X1.length+3) (by simp) u;simpa [Yk] using this
theorem RowIs.apart {w:World} {g B T T':Nat} {xs tl ys tl':List Value} (h:RowIs w g T xs tl) (k:RowIs w B T' ys tl') (hT:T ≠ T'):B ≠ g:=by
 rintro rfl;unfold RowIs at h k;rw [h] at k;injection k with e
 injection e with e1 e2 e3
 exact hT e2
theorem zth {S:Nat->Prop} {p:PrD} {e:Entry} {v1 v2 v3:Value} {w:World} {g B o:Nat} {X1 X2 tail:List Value} (hrow:RowIs w g 46 (X1++(entL e v1 v2 v3++X2)) tail) (ho:X1.length=o) (hat:EntAt w S e v1 v2 v3) (hS:¬ S g)
  (hP:RowIs w B 29 (prC p) []) (hbd:p.2.2.2+p.2.1 < 18446744073709551616) (sm:SmallE e) :
  Calls Tryz.prog 91 #[.pointer (some ⟨g,o,none⟩),.pointer (some ⟨B,0,none⟩)] w fun r w'=>∃ u1 u2 u3,r=.returned (.tuple #[])/\RowIs w' g 46 (X1++(entL (zaq p e) u1 u2 u3++X2)) tail /\
   EntAt w' (fun b=>S b ∨ w.heap.size<=b) (zaq p e) u1 u2 u3/\Kept2 w w' g g:=by
 obtain⟨k,es,ec,ei,cs,ct,cg⟩:=e;obtain⟨b,c,ow,n⟩:=p;obtain⟨A1,n1,A2,n2,A3,n3,rfl,rfl,rfl⟩:=hat.fm;have HLC:ec.length < 1099511627776:=Ys sm.counts (by decide);have HLP:(zab ei).length<=1099511627776:=Qc sm.places (by decide);have HLS:es.length<=1099511627776:=Qc sm.seen (by decide);have HBg:=zH (hrow.apart hP (by decide));have hgw:=hrow.lt;have hwrap:IntKind.u64.wrap ((n:Int)+(c:Int))=((n+c:Nat):Int):=by rw [zca];simp only at hbd;omega
 obtain⟨u1,hu1⟩:∃ u,ofM es b=u:=⟨_,rfl⟩
 obtain⟨u2,hu2⟩:∃ u,ofM es ow=u:=⟨_,rfl⟩
 have HU1:=zH hu1;have HU2:=zH hu2;clear sm hu1 hu2;obtain⟨W0,hW0⟩:∃ W0,W0=w:=⟨_,rfl⟩
 subst hW0;have HA0:=zH hat;have rR0:=zH hrow;have rP0:=hP;have hP0:=zH hP;obtain⟨c0,c1,c2,c3,-,-,-⟩:=zn9 hrow ho;have z2:=hrow.frozen (o+2);clear hat hrow hP;go_enter Tryz.func91,Tryz.ntmps91;go_wp2_with fail;refine zat [fun v _=>v=.pointer (some ⟨g,o,none⟩),fun v _=>v=.pointer (some ⟨g,o,none⟩),fun v _=>v=.pointer (some ⟨g,o,none⟩),fun v _=>v=.pointer (some ⟨g,o+2,none⟩),fun v _=>v=.slice A2 ec.length n2,fun v _=>v=.pointer (some ⟨B,0,none⟩),fun v _=>v=St b,fun v W=>Own W W0.heap.size 54 3 v (zbc ec b).length ((zbc ec b).flatMap zbx)] rfl (by kernel_rfl) ?hR ?hstep ?hend
 case hR=>simp only [zM];exact⟨kP,kP,kP,kP,kP,kP,kP,fun v _ _ h he=>h.ext he⟩
 case hstep =>
  simp only [zS,zD,Qe,zbj]
  and_intros <;> intro x W he f
  ·have h0:x 0=.pointer (some ⟨g,o,none⟩):=f.1;go_wp;exact sQ
  ·have h0:x 0=.pointer (some ⟨g,o,none⟩):=f.1;go_wp;exact sQ
  iterate 2 · have h0:_=_:=f.1;go_wp;exact sQ
  ·have h0:_=_:=f.1;have q:=he.cell c2;go_wp;exact sQ
  ·have h0:x 1=.pointer (some ⟨B,0,none⟩):=f.1;go_wp;exact sQ
  ·have h0:_=_:=f.1;have q0:=(rP0.ext he).cell (j:=0) rfl;go_wp;exact sQ
  ·have h0:_=_:=f.1;have h1:_=_:=f.2.1;have hs:=he.size;have HC:=zH (zyf b (HA0.out.counts.ext (by decide) he) HLC);go_wp;refine HC.out.mono ?_;rintro r W3 ⟨v3,rfl,hv3,hx3⟩;dsimp only;go_wp;exact zaa (v:=v3) (hv3.lower hs) hx3
 case hend =>
  intro x Wz hxz f;have e4:x 4=.pointer (some ⟨g,o,none⟩):=f.1;have f11:Own Wz W0.heap.size 54 3 (x 11) (zbc ec b).length ((zbc ec b).flatMap zbx):=f.2.2.2.2.2.2.2.1;clear f;obtain⟨C2,m2,e11,-,-⟩:=f11.form;rw [e11] at f11;simp only [zS,zD,zU,Qe,Qh,zav,Act.put,e4,e11];have q2:=hxz.cell c2;have y2:Wz.frozen? ⟨g,o+2,none⟩=false:=(hxz.frozen hgw).trans z2;go_wp2_with fail;obtain⟨Wa,hWa⟩:∃ X,Wz.setCell ⟨g,o+2,none⟩ (.slice C2 (zbc ec b).length m2)=X:=⟨_,rfl⟩
  have Ka:=(Kept2.ofExt (g:=g) hxz).set (o+2) (.slice C2 (zbc ec b).length m2);have rRa:=((rR0.out.ext hxz).set2 ho (.slice C2 (zbc ec b).length m2)).2.1;have fC:=f11.keep (w':=Wz.setCell ⟨g,o+2,none⟩ (.slice C2 (zbc ec b).length m2)) fun b hb hlt=>Qb _ _ _ _ (by have:=(f11.base_le hb).1;show b ≠ g;omega)
  rw [hWa] at Ka rRa fC ⊢;have HAa:=zH (HA0.out.kept Ka (fun b hb=>⟨fun e=>hS (e ▸ hb),fun e=>hS (e ▸ hb)⟩));have rPa:=rP0.keep (Ka.other B rP0.lt HBg.out HBg.out);have hza:=Ka.size;obtain⟨-,d1,d2,d3,-,-,-⟩:=zn9 rRa ho;have y3:=rRa.frozen (o+3);have RRa:=zH rRa;have FC:=zH fC;have KA:=zH Ka;clear f11 fC rRa Ka rP0 hxz y2 z2 c0 c1 c2 c3 q2 e4 e11;refine zat [fun v _=>v=.pointer (some ⟨g,o,none⟩),fun v _=>v=.pointer (some ⟨g,o,none⟩),fun v _=>v=.pointer (some ⟨g,o,none⟩),fun v _=>v=.pointer (some ⟨g,o+3,none⟩),fun v _=>v=.slice A3 ei.length n3,fun v _=>v=prV (b,c,ow,n),fun v W=>OwnL itemT 57 W Wa.heap.size (fun b=>Wa.heap.size<=b) v (zcr ei (b,c,ow,n))] rfl (by kernel_rfl) ?hR ?hstep ?hend
  case hR=>simp only [zM];exact⟨kP,kP,kP,kP,kP,kP,fun v _ _ h he=>h.ext he⟩
  case hstep =>
   simp only [zS,zD,Qe,zbj]
   and_intros <;> intro x W he f
   ·have h0:x 0=.pointer (some ⟨g,o,none⟩):=f.1;go_wp;exact sQ
   ·have h0:x 0=.pointer (some ⟨g,o,none⟩):=f.1;go_wp;exact sQ
   iterate 2 · have h0:_=_:=f.1;go_wp;exact sQ
   ·have h0:_=_:=f.1;have q:=he.cell d3;go_wp;exact sQ
   ·have h0:x 1=.pointer (some ⟨B,0,none⟩):=f.1;obtain⟨q0,q1,q2,q3⟩:=(rPa.ext he).p4;go_wp;exact sQ
   ·have h0:_=_:=f.1;have h1:_=_:=f.2.1;have hs:=he.size;have HC:=zH (zyg (b,c,ow,n) (HAa.out.items.ext (by decide) he) HLP);go_wp;refine HC.out.mono ?_;rintro r W3 ⟨v3,rfl,hv3,hx3⟩;dsimp only;go_wp;exact zaa (v:=v3) ((hv3.lower hs).mono fun b _ hb=>Qc hs hb) hx3
  case hend =>
   intro x Wz hxz f;have e14:x 14=.pointer (some ⟨g,o,none⟩):=f.1;have f20:OwnL itemT 57 Wz Wa.heap.size (fun b=>Wa.heap.size<=b) (x 20) (zcr ei (b,c,ow,n)):=f.2.2.2.2.2.2.1;clear f;obtain⟨C3,m3,e20,-,-⟩:=f20.form;rw [e20] at f20;simp only [zS,zD,zU,Qe,Qh,zav,Act.put,e14,e20];have q3:=hxz.cell d3;have y3z:Wz.frozen? ⟨g,o+3,none⟩=false:=(hxz.frozen (Qw hgw hza)).trans y3;go_wp2_with fail;obtain⟨Wb,hWb⟩:∃ X,Wz.setCell ⟨g,o+3,none⟩ (.slice C3 (zcr ei (b,c,ow,n)).length m3)=X:=⟨_,rfl⟩
   have Kb:=(Kept2.ofExt (g:=g) hxz).set (o+3) (.slice C3 (zcr ei (b,c,ow,n)).length m3);have rRb:=((RRa.out.ext hxz).set2 ho (.slice C3 (zcr ei (b,c,ow,n)).length m3)).2.2;have fC:=(FC.out.ext hxz).keep (w':=Wz.setCell ⟨g,o+3,none⟩ (.slice C3 (zcr ei (b,c,ow,n)).length m3)) fun b hb hlt=>Qb _ _ _ _ (by have:=(FC.out.base_le hb).1;show b ≠ g;omega)
   have fI:=f20.keep (w':=Wz.setCell ⟨g,o+3,none⟩ (.slice C3 (zcr ei (b,c,ow,n)).length m3)) (fun b hb hlt=>Qb _ _ _ _ (by show b ≠ g;omega)) fun b hb hlt=>Qb _ _ _ _ (by have:=(f20.base_le hb).1;show b ≠ g;omega)
   rw [hWb] at Kb rRb fC fI ⊢;have Kb:=KA.out.trans1 Kb;have HAb:=zH (HA0.out.kept Kb (fun b hb=>⟨fun e=>hS (e ▸ hb),fun e=>hS (e ▸ hb)⟩));have rPb:=hP0.out.keep (Kb.other B hP0.out.lt HBg.out HBg.out);have hzb:=Kb.size;obtain⟨V3,hV3⟩:∃ V,Value.slice C3 (zcr ei (b,c,ow,n)).length m3=V:=⟨_,rfl⟩
   rw [hV3] at fI rRb ⊢;obtain⟨-,d1,d2,d3,-,-,-⟩:=zn9 rRb ho;have HEND:=zH (⟨fC,fI⟩:Own Wb W0.heap.size 54 3 (.slice C2 (zbc ec b).length m2) (zbc ec b).length ((zbc ec b).flatMap zbx)/\OwnL itemT 57 Wb Wa.heap.size (fun b=>Wa.heap.size<=b) V3 (zcr ei (b,c,ow,n)));have RRb:=zH rRb;have KB:=zH Kb;clear f20 fC fI rRb Kb hxz q3 y3z y3 e14 e20 rPa HAa FC RRa KA;refine zat [fun v _=>v=.pointer (some ⟨g,o,none⟩),fun v _=>v=.pointer (some ⟨g,o,none⟩),fun v _=>v=.pointer (some ⟨g,o+1,none⟩),fun v _=>v=.slice A1 es.length n1,fun v _=>v=.pointer (some ⟨B,0,none⟩),fun v _=>v=St b,fun v _=>v=U u1] rfl (by kernel_rfl) ?hR ?hstep ?hend
   case hR=>simp only [zM];exact⟨kP,kP,kP,kP,kP,kP,kP⟩
   case hstep =>
    simp only [zS,zD,Qe,zbj]
    and_intros <;> intro x W he f
    ·have h0:x 0=.pointer (some ⟨g,o,none⟩):=f.1;go_wp;exact sQ
    iterate 2 · have h0:_=_:=f.1;go_wp;exact sQ
    ·have h0:_=_:=f.1;have q:=he.cell d1;go_wp;exact sQ
    ·have h0:x 1=.pointer (some ⟨B,0,none⟩):=f.1;go_wp;exact sQ
    ·have h0:_=_:=f.1;have q0:=(rPb.ext he).cell (j:=0) rfl;go_wp;exact sQ
    ·have h0:_=_:=f.1;have h1:_=_:=f.2.1;have hs:=he.size;have HC:=zH (ze1 b (HAb.out.seen.ext (by decide) he));rw [HU1.out] at HC;go_wp;refine HC.out.mono ?_;rintro r W3 ⟨rfl,hx3⟩;dsimp only;go_wp;exact zaa (v:=U u1) rfl hx3
   case hend =>
    intro x Wz hxz f;have e29:x 29=U u1:=f.2.2.2.2.2.2.1;clear f;simp only [zS,zD,zU,Qe,Qh,zav,Act.put,e29];rcases Yu u1 with h0 | h0
    ·subst h0;have HKZ:=zH (KB.out.trans1 (Kept2.ofExt hxz));have HT:=zH (show zaq (b,c,ow,n) ⟨k,es,ec,ei,cs,ct,cg⟩=⟨k,es,zbc ec b,zcr ei (b,c,ow,n),cs,ct,cg⟩ by unfold zaq;simp only;rw [HU1.out];rfl);have HX:=zH hxz;clear hxz;go_wp2_with fail
     go_end0
     obtain⟨hC,hI⟩:=HEND.out;refine ⟨_,_,_,rfl,by rw [HT.out];exact RRb.out.ext HX.out,?_,HKZ.out⟩;rw [HT.out];exact⟨((HAb.out.ext HX.out).seen).mono (by decide) fun b _ h=>.inl h,((zqb hC).ext (by decide) HX.out).mono (by decide) fun b _ h=>.inr h,((hI.ext HX.out).sl (by decide) (fun b _ h=>.inr (Qc hza h)) (fun b h _=>.inr (Qc hza h)))⟩
    ·have h1:(u1:Int) > 0:=(by omega);have hxc:=hxz;have HKC:=zH (KB.out.trans1 (Kept2.ofExt hxz));have rPc:=rPb.ext hxz;have dc1:=hxz.cell d1;have dc2:=hxz.cell d2;have dc3:=hxz.cell d3;clear hxz;go_wp2_with fail;obtain⟨Wc,hWc⟩:∃ X,Wz=X:=⟨_,rfl⟩
     rw [hWc] at hxc HKC rPc dc1 dc2 dc3 ⊢;clear hWc;refine zat [fun v _=>v=.pointer (some ⟨g,o,none⟩),fun v _=>v=.pointer (some ⟨g,o,none⟩),fun v _=>v=.pointer (some ⟨g,o+1,none⟩),fun v _=>v=.slice A1 es.length n1,fun v _=>v=.pointer (some ⟨B,2,none⟩),fun v _=>v=St ow,fun v _=>v=U u2,fun v _=>v=.pointer (some ⟨B,3,none⟩),fun v _=>v=U n,fun v _=>v=.pointer (some ⟨B,1,none⟩),fun v _=>v=U c,fun v _=>v=U (n+c),fun v _=>v=U (max u2 (n+c))] rfl (by kernel_rfl) ?hR ?hstep ?hend
     case hR=>simp only [zM];exact⟨kP,kP,kP,kP,kP,kP,kP,kP,kP,kP,kP,kP,kP⟩
     case hstep =>
      simp only [zS,zD,Qe,zbj]
      and_intros <;> intro x W he f
      ·have h0:x 0=.pointer (some ⟨g,o,none⟩):=f.1;go_wp;exact sQ
      iterate 2 · have h0:_=_:=f.1;go_wp;exact sQ
      ·have h0:_=_:=f.1;have q:=he.cell dc1;go_wp;exact sQ
      ·have h0:x 1=.pointer (some ⟨B,0,none⟩):=f.1;go_wp;exact sQ
      ·have h0:_=_:=f.1;have q2:=(rPc.ext he).cell (j:=2) rfl;go_wp;exact sQ
      ·have h0:_=_:=f.1;have h1:_=_:=f.2.1;have hs:=he.size;have HC:=zH (ze1 ow (HAb.out.seen.ext (by decide) (hxc.trans he)));rw [HU2.out] at HC;go_wp;refine HC.out.mono ?_;rintro r W3 ⟨rfl,hx3⟩;dsimp only;go_wp;exact zaa (v:=U u2) rfl hx3
      ·have h0:x 1=.pointer (some ⟨B,0,none⟩):=f.1;go_wp;exact sQ
      ·have h0:_=_:=f.1;have q3:=(rPc.ext he).cell (j:=3) rfl;go_wp;exact sQ
      ·have h0:x 1=.pointer (some ⟨B,0,none⟩):=f.1;go_wp;exact sQ
      ·have h0:_=_:=f.1;have q1:=(rPc.ext he).cell (j:=1) rfl;go_wp;exact sQ
      ·have h0:_=_:=f.1;have h1:_=_:=f.2.1;go_wp;exact sQ
      ·have h0:_=_:=f.1;have h1:_=_:=f.2.1;go_wp;exact zaa (congrArg (Value.int .u64) (by omega)) (Ext.refl _)
     case hend =>
      intro x Wz hxz f;have e43:x 43=U (max u2 (n+c)):=f.2.2.2.2.2.2.2.2.2.2.2.2.1;clear f;simp only [zS,zD,zU,Qe,Qh,zav,Act.put,e43];obtain⟨u3,hu3⟩:∃ u,max u2 (n+c)=u:=⟨_,rfl⟩
      have HU3:=zH hu3;rw [hu3];have hxd:=hxc.trans hxz;have rPd:=rPc.ext hxz;have HAd:=zH (HAb.out.ext hxd);have dd1:=hxz.cell dc1;have dd2:=hxz.cell dc2;have dd3:=hxz.cell dc3;have HKD:=zH (KB.out.trans1 (Kept2.ofExt hxd));clear hu3 hxz rPc dc1 dc2 dc3 e43 HKC;go_wp2_with fail;obtain⟨Wd,hWd⟩:∃ X,Wz=X:=⟨_,rfl⟩
      rw [hWd] at hxd HKD rPd dd1 dd2 dd3 HAd ⊢;clear hWd;refine zat [fun v _=>v=.pointer (some ⟨g,o,none⟩),fun v _=>v=.pointer (some ⟨g,o,none⟩),fun v _=>v=.pointer (some ⟨g,o,none⟩),fun v _=>v=.pointer (some ⟨g,o+1,none⟩),fun v _=>v=.slice A1 es.length n1,fun v _=>v=.pointer (some ⟨B,0,none⟩),fun v _=>v=St b,fun v W=>Own W Wd.heap.size 97 2 v (zau es b).length ((zau es b).flatMap zaj),fun v _=>v=.pointer (some ⟨B,2,none⟩),fun v _=>v=St ow,fun v _=>v=U u3,fun v W=>Own W Wd.heap.size 97 2 v (setM (zau es b) ow u3).length ((setM (zau es b) ow u3).flatMap zaj)] rfl (by kernel_rfl) ?hR ?hstep ?hend
      case hR=>simp only [zM];exact⟨kP,kP,kP,kP,kP,kP,kP,fun v _ _ h he=>h.ext he,kP,kP,kP,fun v _ _ h he=>h.ext he⟩
      case hstep =>
       simp only [zS,zD,Qe,zbj]
       and_intros <;> intro x W he f
       ·have h0:x 0=.pointer (some ⟨g,o,none⟩):=f.1;go_wp;exact sQ
       ·have h0:x 0=.pointer (some ⟨g,o,none⟩):=f.1;go_wp;exact sQ
       iterate 2 · have h0:_=_:=f.1;go_wp;exact sQ
       ·have h0:_=_:=f.1;have q:=he.cell dd1;go_wp;exact sQ
       ·have h0:x 1=.pointer (some ⟨B,0,none⟩):=f.1;go_wp;exact sQ
       ·have h0:_=_:=f.1;have q0:=(rPd.ext he).cell (j:=0) rfl;go_wp;exact sQ
       ·have h0:_=_:=f.1;have h1:_=_:=f.2.1;have hs:=he.size;have HC:=zH (zkr b (HAd.out.seen.ext (by decide) he) HLS);go_wp;refine HC.out.mono ?_;rintro r W3 ⟨v3,rfl,hv3,hx3⟩;dsimp only;go_wp;exact zaa (v:=v3) (hv3.lower hs) hx3
       ·have h0:x 1=.pointer (some ⟨B,0,none⟩):=f.1;go_wp;exact sQ
       ·have h0:_=_:=f.1;have q2:=(rPd.ext he).cell (j:=2) rfl;go_wp;exact sQ
       ·have h0:x 3=U u3:=f.1;go_wp;exact sQ
       ·have h0:Own W Wd.heap.size 97 2 (x 51) (zau es b).length ((zau es b).flatMap zaj):=f.1;obtain⟨CC,cc,hcc,-,-⟩:=h0.form;rw [hcc] at h0;have h1:_=_:=f.2.1;have h2:_=_:=f.2.2.1;have hs:=he.size;have HC:=zH (zj9 ow u3 (zbb h0) (Qc (zh4 es b) HLS));clear h0;go_wp;refine HC.out.mono ?_;rintro r W3 ⟨v3,rfl,hv3,hx3⟩;dsimp only;go_wp;exact zaa (v:=v3) (hv3.lower hs) hx3
      case hend =>
       intro x Wz hxz f;have e44:x 44=.pointer (some ⟨g,o,none⟩):=f.1;have f55:Own Wz Wd.heap.size 97 2 (x 55) (setM (zau es b) ow u3).length ((setM (zau es b) ow u3).flatMap zaj):=f.2.2.2.2.2.2.2.2.2.2.2.1;clear f;obtain⟨C1,m1,e55,-,-⟩:=f55.form;rw [e55] at f55;simp only [zS,zD,zU,Qe,Qh,zav,Act.put,e44,e55];have HSZ:=zH hxd.size;have hzd:=hxd.size;have q1:=hxz.cell dd1;have y1:Wz.frozen? ⟨g,o+1,none⟩=false:=(RRb.out.ext (hxd.trans hxz)).frozen (o+1);go_wp2_with fail
       go_end0
       obtain⟨hC,hI⟩:=HEND.out
       have HT:zaq (b,c,ow,n) ⟨k,es,ec,ei,cs,ct,cg⟩=⟨k,setM (zau es b) ow u3,zbc ec b,zcr ei (b,c,ow,n),cs,ct,cg⟩:=by unfold zaq;simp only;rw [zP (by rw [HU1.out];exact h0),HU2.out,HU3.out]
       have hxe:=hxd.trans hxz;have hgb:g < Wb.heap.size:=RRb.out.lt;refine ⟨.slice C1 (setM (zau es b) ow u3).length m1,.slice C2 (zbc ec b).length m2,V3,rfl,?_,?_,(HKD.out.trans1 (Kept2.ofExt hxz)).set (o+1) _⟩
       ·rw [HT];exact ((RRb.out.ext hxe).set2 ho _).1
       ·rw [HT];have a1:=f55.keep (w':=Wz.setCell ⟨g,o+1,none⟩ (.slice C1 (setM (zau es b) ow u3).length m1)) fun b hb _=>Qb _ _ _ _ (by have:=(f55.base_le hb).1;show b ≠ g;omega)
        have a2:=(hC.ext hxe).keep (w':=Wz.setCell ⟨g,o+1,none⟩ (.slice C1 (setM (zau es b) ow u3).length m1)) fun b hb _=>Qb _ _ _ _ (by have:=(hC.base_le hb).1;show b ≠ g;omega)
        have a3:=(hI.ext hxe).keep (w':=Wz.setCell ⟨g,o+1,none⟩ (.slice C1 (setM (zau es b) ow u3).length m1)) (fun b hb _=>Qb _ _ _ _ (by show b ≠ g;omega)) fun b hb _=>Qb _ _ _ _ (by have:=(hI.base_le hb).1;show b ≠ g;omega)
        exact⟨(zbb a1).mono (by decide) fun b _ h=>.inr (by omega),(zqb a2).mono (by decide) fun b _ h=>.inr h,a3.sl (by decide) (fun b _ h=>.inr (Qc hza h)) (fun b h _=>.inr (Qc hza h))⟩
theorem RowE.turn {W:World} {m z:Nat} {v:Value} {l:List Entry} {i:Nat} {e:Entry} (h:RowE W m z v l) (hi:l[i]? = some e):∃ g cap X1 X2 tail v1 v2 v3,v=.slice (some ⟨g,0,none⟩) l.length cap/\m<=g/\RowIs W g 46 (X1++(entL e v1 v2 v3++X2)) tail/\X1.length=i * 7/\EntAt W (SE m z v) e v1 v2 v3/\¬ SE m z v g /\
  ∀ W' e' u1 u2 u3,RowIs W' g 46 (X1++(entL e' u1 u2 u3++X2)) tail->Kept2 W W' g g->EntAt W' (fun b=>SE m z v b ∨ W.heap.size<=b) e' u1 u2 u3->z < W.heap.size->RowE W' m z v (l.set i e'):=by
 obtain⟨vss,h1,h2,h3⟩:=h;have hil:=(Qk.1 hi).1;obtain⟨g,cap,tail,rfl,hmg,hrow,hnc,hcm,hcl⟩:=h3.row (by omega);have hiv:i < vss.length:=by omega
 obtain⟨vs,hvs⟩:∃ vs,vss[i]? = some vs:=⟨_,Qo hiv⟩
 have hrd:=h2 i e vs hi hvs;have hvi:vss[i]=vs:=(Qk.1 hvs).2;have hsp:vss=vss.take i++vs :: vss.drop (i+1):=by rw [<- hvi,Yp,List.take_append_drop]
 have hfl:vss.flatten=(vss.take i).flatten++(vs++(vss.drop (i+1)).flatten):=by conv=>lhs;rw [hsp];simp
 have hl7:∀ L:List (List Value),(∀ x ∈ L,x.length=7)->L.flatten.length=L.length * 7:=by
  intro L
  induction L with
  | nil=>simp
  | cons a r ih=>intro hL;simp only [List.flatten_cons,Yv,Qp];rw [ih fun x hx=>hL x (by simp [hx]),hL a (by simp)];omega
 have hlen7:∀ x ∈ vss,x.length=7:=fun x hx=>by
  obtain⟨j,hj⟩:=List.getElem?_of_mem hx;have hjl:j < l.length:=by rw [<- h1];exact (Qk.1 hj).1
  exact entryT.len (h2 j _ x (Qo hjl) hj)
 have hX1:(vss.take i).flatten.length=i * 7:=by rw [hl7 _ fun x hx=>hlen7 x (Yq hx),Yc];congr 1;omega
 obtain⟨v1,v2,v3,rfl,g1,g2,g3⟩:=hrd;have hog:zad (.slice (some ⟨g,0,none⟩) l.length cap) g:=⟨g,_,cap,rfl,by omega,rfl⟩
 rw [hfl] at hrow;refine ⟨g,cap,_,_,tail,v1,v2,v3,rfl,hmg,hrow,hX1,⟨g1,g2,g3⟩,fun hs=>hs.2.2 hog,fun W' e' u1 u2 u3 hr hk ha hz=>?_⟩;have hgW:=hrow.lt;have hSE:∀ b,W.heap.size<=b->SE m z (.slice (some ⟨g,0,none⟩) l.length cap) b:=fun b hb=>⟨by omega,by omega,fun ⟨g',n',c',ee,hc,e2⟩=>by cases ee;omega⟩
 refine ⟨vss.take i++entL e' u1 u2 u3 :: vss.drop (i+1),by simp;omega,fun j x ys hx hy=>?_,?_⟩
 ·by_cases hji:j=i
  ·subst hji
   have hy':ys=entL e' u1 u2 u3:=by rw [Qs (by simp;omega)] at hy;simp only [Yc,Yl (Nat.le_of_lt hiv),Yw,List.getElem?_cons_zero,Option.some.injEq] at hy;exact hy.symm
   have hx':x=e':=by rw [List.getElem?_set_self hil] at hx;exact (Option.some.inj hx).symm
   subst hy' hx';exact entryT.mono (ha.rd (S':=fun b=>SE m z (.slice (some ⟨g,0,none⟩) l.length cap) b ∨ W.heap.size<=b) fun b _ h=>h) fun b _ h=>h.elim (fun h=>by simpa using h) fun h=>by simpa using hSE b h
  ·have hx':l[j]? = some x:=by rwa [List.getElem?_set_ne (fun e=>hji e.symm)] at hx
   have hy':vss[j]? = some ys:=by
    rw [hsp]
    by_cases hlt:j < i
    ·rw [List.getElem?_append_left (by simp;omega)] at hy ⊢;exact hy
    ·rw [Qs (by simp;omega)] at hy ⊢;rw [Yc,Yl (Nat.le_of_lt hiv)] at hy ⊢;obtain⟨k,hk⟩:∃ k,j - i=k+1:=⟨j - i - 1,by omega⟩
     rw [hk] at hy ⊢;exact hy
   have:=entryT.keep (w':=W') (h2 j x ys hx' hy') fun b hb hlt=>hk.other b hlt (fun e=>hb.2.2 (e ▸ hog)) (fun e=>hb.2.2 (e ▸ hog))
   simpa using this
 ·have hfl2:(vss.take i++entL e' u1 u2 u3 :: vss.drop (i+1)).flatten=(vss.take i).flatten++(entL e' u1 u2 u3++(vss.drop (i+1)).flatten):=by simp
  rw [List.length_set,hfl2]
  have hln:((vss.take i).flatten++(entL e' u1 u2 u3++(vss.drop (i+1)).flatten)).length=l.length * 7:=by
   rw [<- hfl2,hl7 _ (fun x hx=>?_)]
   ·simp;omega
   ·rcases Vc.1 hx with hx | hx
    ·exact hlen7 x (Yq hx)
    ·rcases Yf.1 hx with rfl | hx
     ·rfl
     ·exact hlen7 x (List.mem_of_mem_drop hx)
  refine hr.own hmg hnc hcm ?_ ?_ hln
  ·rw [hfl] at hcl
   simpa using hcl
  ·rw [show l.length * entryT.k=l.length * 7 from rfl,<- hln,Yj]
theorem zr9 (l:List Str):l.flatMap strC=l.map (fun s=>St s):=by
 induction l with
 | nil=>rfl
 | cons a r ih=>simp [ih,strC]
theorem zvr {l:List Str} {s:Str} {i:Nat} (hR:RiseS l) (hF:Found l s i false):i<=l.length/\l.take i++s :: l.drop i=insP l s:=by
 have hno:=hF.no hR
 have gt:∀ (j:Nat) (x:Str),i<=j->l[j]? = some x->ltS s x=true:=fun j x hj hx=>by
  rcases zcj s x with h | h | h
  ·exact h
  ·exact absurd (h ▸ Ql hx) hno
  ·rw [hF.2.1.2 j _ hj hx] at h;cases h
 refine ⟨hF.1,?_⟩;unfold insP;rw [zj7 (i:=i) (fun j x hj hx=>hF.2.1.1 j _ hj hx) (fun j x hj hx=>hF.2.1.2 j _ hj hx),zj8 (i:=i) (fun j x hj hx=>zc8 (hF.2.1.1 j _ hj hx)) gt]
theorem yap (l:List Str) (s:Str) {i:Nat} (h:l.take i++s :: l.drop i=insP l s) (hi:i<=l.length):(insP l s).length=l.length+1:=by
 rw [<- h];simp;omega
theorem zsa {w W:World} {z m q:Nat} {v1 v2 v3:Value} {s:State} {zs:List Value} (h1:Own W w.heap.size 97 2 v1 s.all.length (s.all.flatMap zaj)) (hE:RowE W m z v2 s.entries) (h3:Own W w.heap.size 9 1 v3 s.pruned.length (s.pruned.flatMap strC))
  (hr:RowIs W q 26 zs []) (hq:q < m) (hw:w.heap.size<=m):StAt (put3 W q v1 v2 v3) (fun b=>w.heap.size<=b) s v1 v2 v3:=by
 have hk:=zda W q v1 v2 v3;have a1:=h1.keep (w':=put3 W q v1 v2 v3) fun b hb _=>hk b (fun e=>h1.apart hr (by decide) (e ▸ hb))
 have a3:=h3.keep (w':=put3 W q v1 v2 v3) fun b hb _=>hk b (fun e=>h3.apart hr (by decide) (e ▸ hb))
 have a2:RowE (put3 W q v1 v2 v3) m z v2 s.entries:=hE.keep fun b hb hlt _=>hk b (by omega)
 exact⟨zbb a1,OwnL.sl a2 (by decide) (fun b _ h=>Qc hw h.1) (fun b h _=>Qc hw h),zjq a3⟩
theorem zvs (b:Str) (c:Nat) (ow:Str) (n:Nat) (w:World):Calls Tryz.prog 41 #[prV (b,c,ow,n)] w fun e w'=>e=.returned (.func (.func 91) #[] #[.pointer (some ⟨w.heap.size,0,none⟩)])/\w'=w.alloc (.cells #[St b,U c,St ow,U n] 29):=by
 go_enter Tryz.func41,Tryz.ntmps41;go_wp2;go_ret;exact⟨rfl,rfl⟩
theorem yaq {α:Type} {T:α->α} {l:List α} {j:Nat} {e:α} (h:l[j]? = some e):((l.take j).map T++l.drop j)[j]? = some e/\((l.take j).map T++l.drop j).set j (T e)=(l.take (j+1)).map T++l.drop (j+1):=by
 have hj:=(Qk.1 h).1;have hd:l.drop j=e :: l.drop (j+1):=by rw [<- (Qk.1 h).2,Yp]
 have hl:((l.take j).map T).length=j:=by simp;omega
 constructor
 ·rw [Qs (by omega),hl,Yw,hd]
  rfl
 ·rw [List.set_append_right _ _ (by omega),hl,Yw,hd,Qj,List.take_add_one,h];simp
theorem ziv {S:Nat->Prop} {s:State} {v1 v2 v3:Value} {w:World} (p:PrD) (h:StAt w S s v1 v2 v3) (sm:SmallS s) :
  Calls Tryz.prog 10 #[stV v1 v2 v3,prV p] w fun r w'=>∃ u1 u2 u3,r=.returned (.tuple #[stV u1 u2 u3,I (zbh s p).2])/\StAt w' (fun b=>w.heap.size<=b) (zbh s p).1 u1 u2 u3/\Ext w w':=by
 have HRS:=zH (show zbh s p=if mayS s && mayP p then (if p.1 ∈ s.pruned then (s,0) else if 0 < ofM s.all p.1 then (if zc3 s.all p then (⟨zau s.all p.1,s.entries.map (zaq p),insP s.pruned p.1⟩,0) else (za1,170)) else (⟨s.all,s.entries,insP s.pruned p.1⟩,0)) else (za1,2) from rfl);have HRI:=zH (fun hm:mayS s=true=>(mayS_iff.1 hm).risep);have HBD:=zH (fun hp:mayP p=true=>(show p.2.2.2+p.2.1 < 18446744073709551616 by simp only [mayP,Qd,decide_eq_true_eq] at hp;omega));have SM:=zH sm;obtain⟨sa,se,sp⟩:=s;obtain⟨b,c,ow,n⟩:=p;obtain⟨A1,n1,A2,n2,A3,n3,rfl,rfl,rfl⟩:=h.fm;obtain⟨W0,hW0⟩:∃ X,((w.alloc (.cells #[.slice A1 sa.length n1,.slice A2 se.length n2,.slice A3 sp.length n3] 26)).alloc (.cells #[St b,U c,St ow,U n] 29)).alloc (.cells #[.slice none 0 0,.slice none 0 0,.slice none 0 0] 26)=X:=⟨_,rfl⟩
 have hx0:Ext w W0:=by rw [<- hW0];exact (((Ext.refl w).alloc _).alloc _).alloc _
 have rB0:RowIs W0 w.heap.size 26 [.slice A1 sa.length n1,.slice A2 se.length n2,.slice A3 sp.length n3] []:=by rw [<- hW0];exact ((zaf w _ _).alloc _).alloc _
 have rP0:RowIs W0 (w.heap.size+1) 29 [St b,U c,St ow,U n] []:=by rw [<- hW0];have h:=zaf (w.alloc (.cells #[.slice A1 sa.length n1,.slice A2 se.length n2,.slice A3 sp.length n3] 26)) 29 [St b,U c,St ow,U n];simp only [Qf] at h;exact h.alloc _
 have rR0:RowIs W0 (w.heap.size+2) 26 [.slice none 0 0,.slice none 0 0,.slice none 0 0] []:=by rw [<- hW0];have h:=zaf ((w.alloc (.cells #[.slice A1 sa.length n1,.slice A2 se.length n2,.slice A3 sp.length n3] 26)).alloc (.cells #[St b,U c,St ow,U n] 29)) 26 [.slice none 0 0,.slice none 0 0,.slice none 0 0];simp only [Qf] at h;exact h
 have hz0:w.heap.size+3<=W0.heap.size:=by rw [<- hW0];simp
 have H0:=zH ((h.mono (S':=fun b=>b < w.heap.size) (fun b hb _=>hb)).ext hx0);have H1:=zH (zng (h.ext hx0) sm);obtain⟨b0,b1,b2⟩:=rB0.p3;clear h sm;go_enter Tryz.func10,Tryz.ntmps10;refine wpH ?_;intro K HK;go_wp2_with fail
 (try rw [hW0])
 clear hW0;refine HK.out _ _ ?_;clear HK K;refine wpH ?_;intro K HK;go_wp2_with fail;refine H1.out.mono ?_;rintro r W1 ⟨rfl,hx1⟩;have hx01:=hx0.trans hx1;have rB1:=rB0.ext hx1;have rP1:=rP0.ext hx1;have rR1:=rR0.ext hx1;have hz1:=Qc hz0 hx1.size;have H1:=zH (H0.out.ext hx1);clear hx0 rB0 rP0 rR0 hz0 hx1 b0 b1 b2
 cases hm:mayS ⟨sa,se,sp⟩ with
 | false =>
  have HR:=zH (show zbh ⟨sa,se,sp⟩ (b,c,ow,n)=(za1,2) by rw [HRS.out,hm];rfl);clear HRS HRI hm;obtain⟨r0,r1,r2⟩:=rR1.p3;obtain⟨f0,f1,f2⟩:=rR1.q3;have HX:=zH hx01;go_wp2_with fail
  (try simp only [Exit.inBlock,Exit.then])
  refine bodyPost_ret (v:=.tuple #[stV (.slice none 0 0) (.slice none 0 0) (.slice none 0 0),I 2]) (by simp [results,Tryz.f10,go_sem,r0,r1,r2]) rfl ?_;have hq:=zbn (q:=w.heap.size+2) HX.out (by omega) (.slice none 0 0) (.slice none 0 0) (.slice none 0 0);refine ⟨.slice none 0 0,.slice none 0 0,.slice none 0 0,by (rw [HR.out];try rfl),?_⟩;rw [HR.out];exact⟨StAt.none _ _ _ _ _,hq⟩
 | true =>
  have HMP:=zH (zr5 (b,c,ow,n) W1);obtain⟨p0,p1,p2,p3⟩:=rP1.p4;have HRP:=zH (HRI.out hm);have HRS2:=HRS;have HM:=zH hm;clear HRI hm;go_wp2_with fail;refine HMP.out.mono ?_;rintro r W2 ⟨rfl,hx2⟩;have hx02:=hx01.trans hx2;have rB2:=rB1.ext hx2;have rP2:=rP1.ext hx2;have rR2:=rR1.ext hx2;have hz2:=Qc hz1 hx2.size;have H2:=zH (H1.out.ext hx2);clear rB1 rP1 rR1 hz1 hx2 p0 p1 p2 p3 hx01 HMP H1
  cases hp:mayP (b,c,ow,n) with
  | false =>
   have HR:=zH (show zbh ⟨sa,se,sp⟩ (b,c,ow,n)=(za1,2) by rw [HRS.out,HM.out,hp];rfl);clear HRS HM hp;obtain⟨r0,r1,r2⟩:=rR2.p3;obtain⟨f0,f1,f2⟩:=rR2.q3;have HX:=zH hx02;go_wp2_with fail
   (try simp only [Exit.inBlock,Exit.then])
   refine bodyPost_ret (v:=.tuple #[stV (.slice none 0 0) (.slice none 0 0) (.slice none 0 0),I 2]) (by simp [results,Tryz.f10,go_sem,r0,r1,r2]) rfl ?_;have hq:=zbn (q:=w.heap.size+2) HX.out (by omega) (.slice none 0 0) (.slice none 0 0) (.slice none 0 0);refine ⟨.slice none 0 0,.slice none 0 0,.slice none 0 0,by (rw [HR.out];try rfl),?_⟩;rw [HR.out];exact⟨StAt.none _ _ _ _ _,hq⟩
  | true =>
   have hbd:=HBD.out hp;have HPM:=zH hp;have HRS3:=zH (show zbh ⟨sa,se,sp⟩ (b,c,ow,n)=if b ∈ sp then (⟨sa,se,sp⟩,0) else if 0 < ofM sa b then (if zc3 sa (b,c,ow,n) then (⟨zau sa b,se.map (zaq (b,c,ow,n)),insP sp b⟩,0) else (za1,170)) else (⟨sa,se,insP sp b⟩,0) by rw [HRS.out,HM.out,hp];rfl);have HC:=zH (zk2 H2.out SM.out);obtain⟨b0,b1,b2⟩:=rB2.p3;clear HRS HM hp HBD HRS2;go_wp2_with fail;refine HK.out _ _ ?_;clear HK K;refine wpH ?_;intro K HK;go_wp2_with fail;refine HC.out.mono ?_;rintro r W3 ⟨u1,u2,u3,rfl,⟨ho1,ho3,m,hm2,hmz,hbl,hoE⟩,hx3⟩;obtain⟨C1,c1,rfl,-,-⟩:=ho1.form;obtain⟨C2,c2,rfl,-,-⟩:=hoE.form;obtain⟨C3,c3,rfl,-,-⟩:=ho3.form;simp only at ho1 ho3 hoE ⊢;have hx03:=hx02.trans hx3;obtain⟨z6,hz6⟩:∃ z,W3.heap.size=z:=⟨_,rfl⟩
   rw [hz6] at hmz;have hE3:RowE W3 m z6 (.slice C2 se.length c2) se:=OwnL.mono hoE.toT fun b hb h=>⟨h.1,by omega,h.2⟩
   obtain⟨W4,hW4⟩:∃ X,W3.alloc (.cells #[.slice C1 sa.length c1,.slice C2 se.length c2,.slice C3 sp.length c3] 26)=X:=⟨_,rfl⟩
   have hx4:Ext W3 W4:=(by rw [<- hW4];exact (Ext.refl W3).alloc _);have r64:RowIs W4 z6 26 [.slice C1 sa.length c1,.slice C2 se.length c2,.slice C3 sp.length c3] []:=(by rw [<- hW4,<- hz6];exact zaf W3 _ _);have hx04:=hx03.trans hx4;have hB:w.heap.size+3<=m:=Qc hz2 hm2;have hbw:w.heap.size<=W2.heap.size:=hx02.size;have ho14:=(ho1.ext hx4).lower hbw;have ho34:=(ho3.ext hx4).lower hbw;have hE4:=hE3.ext hx4;have HBS:=zH (zti b (zjq ho34) HRP.out (Qc SM.out.pruned (by decide)));have rB4:=(rB2.ext hx3).ext hx4;have rP4:=(rP2.ext hx3).ext hx4;have rR4:=(rR2.ext hx3).ext hx4;have q2:=r64.cell (j:=2) rfl;have p0:=rP4.cell (j:=0) rfl;have hz4:w.heap.size+3<=z6:=(by rw [<- hz6];exact Qc hz2 hx3.size);have H4:=zH ((H2.out.ext hx3).ext hx4);clear ho1 ho3 hoE hE3 hx3 hx4 hx03 hx02 hm2 rB2 rP2 rR2 hz2 b0 b1 b2 H2;go_wp2_with fail
   (try rw [hz6])
   (try rw [hW4])
   clear hW4 hz6;refine HK.out _ _ ?_;clear HK K;refine wpH ?_;intro K HK;go_wp2_with fail;refine HBS.out.mono ?_;rintro r W5 ⟨i,is,rfl,hF,hx5⟩;have hx05:=hx04.trans hx5;have r65:=r64.ext hx5;have ho15:=ho14.ext hx5;have ho35:=ho34.ext hx5;have hE5:=hE4.ext hx5;have rB5:=rB4.ext hx5;have rP5:=rP4.ext hx5;have rR5:=rR4.ext hx5;have H5:=zH (H4.out.ext hx5);clear hx04 r64 ho14 ho34 hE4 rB4 rP4 rR4 hx5 q2 p0 HBS H4;go_wp2_with fail;refine HK.out _ _ ?_;clear HK K;refine wpH ?_;intro K HK
   cases is with
   | true =>
    have hbm:b ∈ sp:=Ql hF.yes;have HR:=zH (show zbh ⟨sa,se,sp⟩ (b,c,ow,n)=(⟨sa,se,sp⟩,0) by rw [HRS3.out,zP hbm]);obtain⟨q0,q1,q2⟩:=r65.p3;obtain⟨r0,r1,r2⟩:=rR5.p3;obtain⟨f0,f1,f2⟩:=rR5.q3;have HX:=zH hx05;clear hbm hF;go_wp2_with fail
    (try simp only [Exit.inBlock,Exit.then])
    refine bodyPost_ret (v:=.tuple #[stV (.slice C1 sa.length c1) (.slice C2 se.length c2) (.slice C3 sp.length c3),I 0]) (by simp [results,Tryz.f10,go_sem,r0,r1,r2]) rfl ?_;have hq:=zbn (q:=w.heap.size+2) HX.out (by omega) (.slice C1 sa.length c1) (.slice C2 se.length c2) (.slice C3 sp.length c3);have he:=zsa (s:=⟨sa,se,sp⟩) ho15 hE5 ho35 rR5 (by omega) (by omega);refine ⟨_,_,_,by (rw [HR.out];try rfl),?_⟩;rw [HR.out];exact⟨he,hq⟩
   | false =>
    have hbm:=hF.no HRP.out;have HRS4:=zH (show zbh ⟨sa,se,sp⟩ (b,c,ow,n)=if 0 < ofM sa b then (if zc3 sa (b,c,ow,n) then (⟨zau sa b,se.map (zaq (b,c,ow,n)),insP sp b⟩,0) else (za1,170)) else (⟨sa,se,insP sp b⟩,0) by rw [HRS3.out,zN hbm]);have HIP:=zH (zvr HRP.out hF);have HOF:=zH (ze1 b (H5.out.all));have q0:=rB5.cell (j:=0) rfl;have p0:=rP5.cell (j:=0) rfl;clear hbm HRS3 hF;go_wp2_with fail;refine HK.out _ _ ?_;clear HK K;refine wp_seq_k ?_;intro K hK
    have REST:∀ ⦃u9 u10 u11 u12 u13 u14 u15 u16 u17 u18 u19 u20 u21 u22 u23 u24 u25 u26 u27 u28 u29 u30 u31 u32 u33 u34 u35 u36 u37 u38 u39 u40 u41 u42 u43 u44 u45 u46 u47 u48 u49 u50 u51 u52 u53 u54 u55 u56 u57 u58 u59 u60 u61 u62 u63:Value⦄ (W:World) (al:List Mark) (en:List Entry) (D1:Option Addr) (d1:Nat),en.length=se.length ->
      RowIs W z6 26 [.slice D1 al.length d1,.slice C2 se.length c2,.slice C3 sp.length c3] []->RowIs W (w.heap.size+1) 29 [St b,U c,St ow,U n] []->RowIs W (w.heap.size+2) 26 [.slice none 0 0,.slice none 0 0,.slice none 0 0] [] ->
      Own W w.heap.size 97 2 (.slice D1 al.length d1) al.length (al.flatMap zaj)->RowE W m z6 (.slice C2 se.length c2) en->Own W w.heap.size 9 1 (.slice C3 sp.length c3) sp.length (sp.flatMap strC)->Ext w W->zbh ⟨sa,se,sp⟩ (b,c,ow,n)=(⟨al,en,insP sp b⟩,0) ->
      K ⟨#[stV (.slice A1 sa.length n1) (.slice A2 se.length n2) (.slice A3 sp.length n3),prV (b,c,ow,n),.pointer (some ⟨w.heap.size,0,none⟩),.pointer (some ⟨w.heap.size+1,0,none⟩),.pointer (some ⟨w.heap.size+1+1,0,none⟩),.int .i64 0,.pointer (some ⟨z6,0,none⟩),I i,.bool false,u9,u10,u11,u12,u13,u14,u15,u16,u17,u18,u19,u20,u21,u22,u23,u24,u25,u26,u27,u28,u29,u30,u31,u32,u33,u34,u35,u36,u37,u38,u39,u40,u41,u42,u43,u44,u45,u46,u47,u48,u49,u50,u51,u52,u53,u54,u55,u56,u57,u58,u59,u60,u61,u62,u63,Qa,Qa,Qa,Qa,Qa,Qa,Qa,Qa,Qa],[]⟩ W:=by
     intro u9 u10 u11 u12 u13 u14 u15 u16 u17 u18 u19 u20 u21 u22 u23 u24 u25 u26 u27 u28 u29 u30 u31 u32 u33 u34 u35 u36 u37 u38 u39 u40 u41 u42 u43 u44 u45 u46 u47 u48 u49 u50 u51 u52 u53 u54 u55 u56 u57 u58 u59 u60 u61 u62 u63 W al en D1 d1 hen r6 rP rR h1 hE h3 hx hR;have HR:=zH hR;have HSP:=zH SM.out.pruned;refine hK _ _ ?_;have q2:=r6.cell (j:=2) rfl;have p0:=rP.cell (j:=0) rfl;have hil:=HIP.out.1;clear hK K hR HRS4 HOF q0 HRP SM H5 HPM;obtain⟨vb,hvb⟩:∃ z,W.heap.size=z:=⟨_,rfl⟩
     obtain⟨Wb,hWb⟩:∃ X,W.alloc (.cells #[St b] 9)=X:=⟨_,rfl⟩
     have hxb:Ext W Wb:=(by rw [<- hWb];exact (Ext.refl W).alloc _);have rV:RowIs Wb vb 9 [St b] []:=(by rw [<- hWb,<- hvb];exact zaf W _ _);have hws:=hx.size;have hwb:=(hx.trans hxb).size;have h3b:=h3.ext hxb;have HI:=zH (ztk (i:=i) h3b rV rfl (by intro u hu;simp at hu;subst hu;rfl) (by intro u hu;rw [zr9] at hu;obtain⟨y,-,rfl⟩:=Qg.1 hu;rfl) hil HSP.out hwb (fun ho=>by have:=(h3.base_le ho).2;omega));have HB1:=zH (fun b' (ho:zad (.slice C3 sp.length c3) b')=>(h3.base_le ho).1);have HN6:=zH (h3.apart r6 (by decide));have HNR:=zH (h3.apart rR (by decide));have HN1:=zH (h1.apart2 h3 (by decide));obtain⟨xE,hoE⟩:=hE.own;have HN2:=zH (hoE.apart2 h3 (by decide));have r6b:=r6.ext hxb;have rRb:=rR.ext hxb;have h1b:=h1.ext hxb;have hEb:=hE.ext hxb;have hxw:=hx.trans hxb;clear r6 rP rR h1 hE h3 hx hxb h3b hoE;go_wp2_with fail
     (try rw [hvb])
     (try rw [hWb])
     clear hWb;refine HI.out.mono ?_;rintro r W6 ⟨v',rfl,hv',hgr⟩;have hm6:=hgr.moved (Ext.refl Wb);have r66:=r6b.mvR hm6.mv HN6.out;have rR6:=rRb.mvR hm6.mv HNR.out;have h16:=h1b.mvR hm6.mv HN1.out;have hE6:RowE W6 m z6 (.slice C2 se.length c2) en:=hEb.keep fun b' hb' hlt hor=>hm6.mv.2 b' hlt fun ho=>hor.elim (fun _=>by have:=hbl b' (.inr ho);omega) fun h2=>HN2.out b' h2 ho
     have hxw6:=hxw.moved hm6 HB1.out
     have hv6:Own W6 w.heap.size 9 1 v' (insP sp b).length ((insP sp b).flatMap strC):=by
      rw [yap sp b HIP.out.2 hil,<- HIP.out.2];rw [zr9] at hv' ⊢;rw [<- List.map_take,<- List.map_drop] at hv'
      simpa using hv'
     obtain⟨D3,d3,rfl,-,-⟩:=hv6.form;have y2:=r66.cell (j:=2) rfl;have g2:=r66.frozen 2;have hS:=r66.set (j:=2) (by simp) (.slice D3 (insP sp b).length d3);simp only [Qx,Qj] at hS;obtain⟨W7,hW7⟩:∃ X,W6.setCell ⟨z6,2,none⟩ (.slice D3 (insP sp b).length d3)=X:=⟨_,rfl⟩
     have hk7:∀ b',b' ≠ z6->W7.heap[b']? = W6.heap[b']?:=fun b' hb'=>by rw [<- hW7];exact Qb _ _ _ _ hb'
     have h17:=h16.keep (w':=W7) fun b' hb' _=>hk7 b' (fun e=>h16.apart r66 (by decide) (e ▸ hb'))
     have hv7:=hv6.keep (w':=W7) fun b' hb' _=>hk7 b' (fun e=>hv6.apart r66 (by decide) (e ▸ hb'))
     have hE7:RowE W7 m z6 (.slice C2 se.length c2) en:=(by rw [<- hW7];exact hE6.set r66 (by decide));have rR7:=rR6.keep (hk7 _ (by omega));have hx7:Ext w W7:=(by rw [<- hW7];exact hxw6.set (by simp;omega) _);rw [hW7] at hS;obtain⟨q0,q1,q2⟩:=hS.p3;obtain⟨r0,r1,r2⟩:=rR7.p3;obtain⟨f0,f1,f2⟩:=rR7.q3;have HX:=zH hx7;clear hv' hgr hm6 r66 rR6 h16 hE6 hxw6 hv6 hS hk7 hx7;go_wp2_with fail
     (try simp only [Exit.inBlock,Exit.then])
     refine bodyPost_ret (v:=.tuple #[stV (.slice D1 al.length d1) (.slice C2 se.length c2) (.slice D3 (insP sp b).length d3),I 0]) (by simp [results,Tryz.f10,go_sem,r0,r1,r2]) rfl ?_;have hq:=zbn (q:=w.heap.size+2) HX.out (by omega) (.slice D1 al.length d1) (.slice C2 se.length c2) (.slice D3 (insP sp b).length d3);have he:=zsa (s:=⟨al,en,insP sp b⟩) h17 hE7 hv7 rR7 (by omega) (by omega);refine ⟨_,_,_,by (rw [HR.out];try rfl),?_⟩;rw [HR.out];exact⟨he,hq⟩
    have HRST:=zH REST;clear REST hK;go_wp2_with fail;refine HOF.out.mono ?_;rintro r W6 ⟨rfl,hx6⟩;have hx06:=hx05.trans hx6;have r66:=r65.ext hx6;have ho16:=ho15.ext hx6;have ho36:=ho35.ext hx6;have hE6:=hE5.ext hx6;have rB6:=rB5.ext hx6;have rP6:=rP5.ext hx6;have rR6:=rR5.ext hx6;have H6:=zH (H5.out.ext hx6);clear hx05 r65 ho15 ho35 hE5 rB5 rP5 rR5 hx6 q0 p0 HOF H5;obtain⟨zz,hzz⟩:∃ z,ofM sa b=z:=⟨_,rfl⟩
    rw [hzz] at HRS4;rw [hzz];rcases Yu zz with h0 | h0
    ·subst h0;have HR:=zH (show zbh ⟨sa,se,sp⟩ (b,c,ow,n)=(⟨sa,se,insP sp b⟩,0) by rw [HRS4.out,zN (by omega)])
     have HEND:=zH (⟨r66,rP6,rR6,ho16,hE6,ho36,hx06⟩:RowIs W6 z6 26 [.slice C1 sa.length c1,.slice C2 se.length c2,.slice C3 sp.length c3] []/\RowIs W6 (w.heap.size+1) 29 [St b,U c,St ow,U n] []/\RowIs W6 (w.heap.size+2) 26 [.slice none 0 0,.slice none 0 0,.slice none 0 0] [] /\
      Own W6 w.heap.size 97 2 (.slice C1 sa.length c1) sa.length (sa.flatMap zaj)/\RowE W6 m z6 (.slice C2 se.length c2) se/\Own W6 w.heap.size 9 1 (.slice C3 sp.length c3) sp.length (sp.flatMap strC)/\Ext w W6)
     clear r66 rB6 rP6 rR6 ho16 ho36 hE6 hx06 H6;go_wp2_with fail;obtain⟨e1,e2,e3,e4,e5,e6,e7⟩:=HEND.out;exact HRST.out W6 sa se C1 c1 rfl e1 e2 e3 e4 e5 e6 e7 HR.out
    ·have hgt:(zz:Int) > 0:=(by omega);have HRS5:=zH (show zbh ⟨sa,se,sp⟩ (b,c,ow,n)=if zc3 sa (b,c,ow,n) then (⟨zau sa b,se.map (zaq (b,c,ow,n)),insP sp b⟩,0) else (za1,170) by rw [HRS4.out,zP h0]);have HRY:=zH (zk6 (b,c,ow,n) HPM.out H6.out);obtain⟨b0,b1,b2⟩:=rB6.p3;obtain⟨p0,p1,p2,p3⟩:=rP6.p4;clear HRS4 H6 h0 hzz;go_wp2_with fail;refine HRY.out.mono ?_;rintro r W7 ⟨rfl,hx7⟩;simp only at HRS5 ⊢;have hx07:=hx06.trans hx7;have r67:=r66.ext hx7;have ho17:=ho16.ext hx7;have ho37:=ho36.ext hx7;have hE7:=hE6.ext hx7;have rP7:=rP6.ext hx7;have rR7:=rR6.ext hx7;clear hx06 r66 ho16 ho36 hE6 rB6 rP6 rR6 hx7 b0 b1 b2 p0 p1 p2 p3 HRY hgt
     cases hr:zc3 sa (b,c,ow,n) with
     | false =>
      have HR:=zH (show zbh ⟨sa,se,sp⟩ (b,c,ow,n)=(za1,170) by rw [HRS5.out,hr];rfl);clear HRS5 hr HRST;obtain⟨r0,r1,r2⟩:=rR7.p3;obtain⟨f0,f1,f2⟩:=rR7.q3;have HX:=zH hx07;go_wp2_with fail
      (try simp only [Exit.inBlock,Exit.then])
      refine bodyPost_ret (v:=.tuple #[stV (.slice none 0 0) (.slice none 0 0) (.slice none 0 0),I 170]) (by simp [results,Tryz.f10,go_sem,r0,r1,r2]) rfl ?_;have hq:=zbn (q:=w.heap.size+2) HX.out (by omega) (.slice none 0 0) (.slice none 0 0) (.slice none 0 0);refine ⟨.slice none 0 0,.slice none 0 0,.slice none 0 0,by (rw [HR.out];try rfl),?_⟩;rw [HR.out];exact⟨StAt.none _ _ _ _ _,hq⟩
     | true =>
      have HR:=zH (show zbh ⟨sa,se,sp⟩ (b,c,ow,n)=(⟨zau sa b,se.map (zaq (b,c,ow,n)),insP sp b⟩,0) by rw [HRS5.out,hr];rfl);obtain⟨p0,p1,p2,p3⟩:=rP7.p4;have HTN:=zH (zvs b c ow n W7);clear HRS5 hr;go_wp2_with fail;refine HTN.out.mono ?_;rintro r W8 ⟨rfl,hW8⟩;have hx8:Ext W7 W8:=(by rw [hW8];exact (Ext.refl W7).alloc _);obtain⟨pb,hpb⟩:∃ z,W7.heap.size=z:=⟨_,rfl⟩
      have rPB:RowIs W8 pb 29 [St b,U c,St ow,U n] []:=(by rw [hW8,<- hpb];exact zaf W7 _ _);have q1:=(r67.ext hx8).cell (j:=1) rfl
      have HLOOP:=zH (⟨r67.ext hx8,rP7.ext hx8,rR7.ext hx8,rPB,ho17.ext hx8,hE7.ext hx8,ho37.ext hx8,hx07.trans hx8⟩:RowIs W8 z6 26 [.slice C1 sa.length c1,.slice C2 se.length c2,.slice C3 sp.length c3] []/\RowIs W8 (w.heap.size+1) 29 [St b,U c,St ow,U n] []/\RowIs W8 (w.heap.size+2) 26 [.slice none 0 0,.slice none 0 0,.slice none 0 0] [] /\
       RowIs W8 pb 29 [St b,U c,St ow,U n] []/\Own W8 w.heap.size 97 2 (.slice C1 sa.length c1) sa.length (sa.flatMap zaj)/\RowE W8 m z6 (.slice C2 se.length c2) se/\Own W8 w.heap.size 9 1 (.slice C3 sp.length c3) sp.length (sp.flatMap strC)/\Ext w W8)
      have hz68:z6 < W8.heap.size:=(r67.ext hx8).lt;have eg:∀ args w,(callFunc 91 args).run Tryz.prog w=.ok (.enter 91 args) w:=enters_of Tryz.func91 (by kernel_rfl) rfl;clear hW8 hx8 r67 rP7 rR7 rPB ho17 hE7 ho37 hx07 p0 p1 p2 p3;go_wp2_with fail
      (try rw [hpb])
      clear hpb;have hseb:se.length<=549755813888:=SM.out.entries
      go_loopw [48] (fun i wr=>∃ j:Nat,i=I j/\j<=se.length/\z6 < wr.heap.size/\Hid (RowIs wr z6 26 [.slice C1 sa.length c1,.slice C2 se.length c2,.slice C3 sp.length c3] []/\RowIs wr (w.heap.size+1) 29 [St b,U c,St ow,U n] []/\RowIs wr (w.heap.size+2) 26 [.slice none 0 0,.slice none 0 0,.slice none 0 0] [] /\
       RowIs wr pb 29 [St b,U c,St ow,U n] []/\Own wr w.heap.size 97 2 (.slice C1 sa.length c1) sa.length (sa.flatMap zaj)/\RowE wr m z6 (.slice C2 se.length c2) ((se.take j).map (zaq (b,c,ow,n))++se.drop j)/\Own wr w.heap.size 9 1 (.slice C3 sp.length c3) sp.length (sp.flatMap strC)/\Ext w wr)) (fun i _=>se.length - (intOf i).toNat)
      case atStart=>exact⟨0,rfl,Ye _,hz68,by simpa using HLOOP⟩
      case round =>
       obtain⟨j,rfl,hj,hzr,hI⟩:=hrel
       by_cases hlt:j < se.length
       ·obtain⟨e,hej⟩:∃ e,se[j]? = some e:=⟨_,Qo hlt⟩
        obtain⟨t1,t2⟩:=yaq (T:=zaq (b,c,ow,n)) hej;obtain⟨i1,i2,i3,i4,i5,i6,i7,i8⟩:=hI.out;obtain⟨g,cap,X1,X2,tail,w1,w2,w3,hv,hmg,hrow,hX1,hat,hnS,hback⟩:=RowE.turn i6 t1;injection hv with hv1 hv2 hv3
        subst hv1;have HT:=zH (zth (p:=(b,c,ow,n)) hrow hX1 hat hnS i4 hbd (SM.out.each e (Ql hej)));have k1:=i1.cell (j:=1) rfl;have HJ:=zH hej;have HI:=zH (⟨hrow,hback,t2,hmg⟩:RowIs wr g 46 (X1++(entL e w1 w2 w3++X2)) tail/\_/\_/\_);clear i1 i2 i3 i4 i5 i6 i7 i8 t1 t2 hrow hback hat hnS hX1 hej q1 hv2 hv3;go_wp2_with fail;refine HT.out.mono ?_;rintro r W9 ⟨x1,x2,x3,rfl,hr9,ha9,hk9⟩;obtain⟨hrow,hback,t2,hmg⟩:=HI.out;obtain⟨i1,i2,i3,i4,i5,i6,i7,i8⟩:=hI.out;have hE9:=hback W9 _ x1 x2 x3 hr9 hk9 ha9 hzr;rw [t2] at hE9;have kp:∀ {b' T:Nat} {ys tl:List Value},RowIs wr b' T ys tl->46 ≠ T->RowIs W9 b' T ys tl:=fun hr hT=>hr.keep (hk9.other _ hr.lt (hrow.apart hr hT) (hrow.apart hr hT))
        have HN:=zH (⟨kp i1 (by decide),kp i2 (by decide),kp i3 (by decide),kp i4 (by decide),i5.keep fun b' hb' hlt'=>hk9.other b' hlt' (fun e=>i5.apart hrow (by decide) (e ▸ hb')) (fun e=>i5.apart hrow (by decide) (e ▸ hb')),hE9,i7.keep fun b' hb' hlt'=>hk9.other b' hlt' (fun e=>i7.apart hrow (by decide) (e ▸ hb')) (fun e=>i7.apart hrow (by decide) (e ▸ hb')),Ext.kept2 i8 hk9 (by omega) (by omega)⟩ :
         RowIs W9 z6 26 [.slice C1 sa.length c1,.slice (some ⟨g,0,none⟩) se.length c2,.slice C3 sp.length c3] []/\RowIs W9 (w.heap.size+1) 29 [St b,U c,St ow,U n] []/\RowIs W9 (w.heap.size+2) 26 [.slice none 0 0,.slice none 0 0,.slice none 0 0] [] /\
       RowIs W9 pb 29 [St b,U c,St ow,U n] []/\Own W9 w.heap.size 97 2 (.slice C1 sa.length c1) sa.length (sa.flatMap zaj)/\RowE W9 m z6 (.slice (some ⟨g,0,none⟩) se.length c2) ((se.take (j+1)).map (zaq (b,c,ow,n))++se.drop (j+1))/\Own W9 w.heap.size 9 1 (.slice C3 sp.length c3) sp.length (sp.flatMap strC)/\Ext w W9)
        have hz9:=Qw hzr hk9.size;clear hI i1 i2 i3 i4 i5 i6 i7 i8 hE9 hr9 ha9 hk9 hback hrow t2 kp k1 HI HT;go_wp2_with fail;go_roundw
        case rel=>exact⟨j+1,by simp,hlt,hz9,HN⟩
        case measure=>simp [intOf];omega
       ·obtain rfl:j=se.length:=by omega
        obtain⟨i1,i2,i3,i4,i5,i6,i7,i8⟩:=hI.out;rw [Yj,List.drop_length,Ym] at i6;have HD:=zH (zkr b (zbb i5) (Qc SM.out.all (by decide)));have y0:=i1.cell (j:=0) rfl;have p0:=i2.cell (j:=0) rfl;have HI:=zH i6;clear i2 i3 i4 i5 i6 i7 i8 i1 q1;go_wp2_with fail;refine HD.out.mono ?_;rintro r W9 ⟨v',rfl,hv9,hx9⟩;obtain⟨D1,d1,rfl,-,-⟩:=hv9.form;obtain⟨i1,i2,i3,i4,i5,i6,i7,i8⟩:=hI.out;have r69:=i1.ext hx9;have y9:=r69.cell (j:=0) rfl;have g9:=r69.frozen 0;have hS:=r69.set (j:=0) (by simp) (.slice D1 (zau sa b).length d1);simp only [Qj] at hS;obtain⟨Wq,hWq⟩:∃ X,W9.setCell ⟨z6,0,none⟩ (.slice D1 (zau sa b).length d1)=X:=⟨_,rfl⟩
        have hkq:∀ b',b' ≠ z6->Wq.heap[b']? = W9.heap[b']?:=fun b' hb'=>by rw [<- hWq];exact Qb _ _ _ _ hb'
        have hv9':=hv9.lower (i8.size);have e4:=hv9'.keep (w':=Wq) fun b' hb' _=>hkq b' (fun e=>hv9'.apart r69 (by decide) (e ▸ hb'))
        have i79:=i7.ext hx9;have e6:=i79.keep (w':=Wq) fun b' hb' _=>hkq b' (fun e=>i79.apart r69 (by decide) (e ▸ hb'))
        have e5:RowE Wq m z6 (.slice C2 se.length c2) (se.map (zaq (b,c,ow,n))):=(by rw [<- hWq];exact (RowE.ext HI.out hx9).set r69 (by decide));have e2:=(i2.ext hx9).keep (w':=Wq) (hkq _ (by omega));have e3:=(i3.ext hx9).keep (w':=Wq) (hkq _ (by omega));have e7:Ext w Wq:=(by rw [<- hWq];exact (i8.trans hx9).set (by simp;omega) _);rw [hWq] at hS
        have HEND:=zH (⟨hS,e2,e3,e4,e5,e6,e7⟩:RowIs Wq z6 26 [.slice D1 (zau sa b).length d1,.slice C2 se.length c2,.slice C3 sp.length c3] []/\RowIs Wq (w.heap.size+1) 29 [St b,U c,St ow,U n] []/\RowIs Wq (w.heap.size+2) 26 [.slice none 0 0,.slice none 0 0,.slice none 0 0] [] /\
         Own Wq w.heap.size 97 2 (.slice D1 (zau sa b).length d1) (zau sa b).length ((zau sa b).flatMap zaj)/\RowE Wq m z6 (.slice C2 se.length c2) (se.map (zaq (b,c,ow,n)))/\Own Wq w.heap.size 9 1 (.slice C3 sp.length c3) sp.length (sp.flatMap strC)/\Ext w Wq)
        clear i1 i2 i3 i4 i5 i6 i7 i8 r69 hS hkq hv9 hv9' i79 e2 e3 e4 e5 e6 e7 hI hx9;go_wp2_with fail;obtain⟨e1,e2,e3,e4,e5,e6,e7⟩:=HEND.out;exact HRST.out Wq (zau sa b) (se.map (zaq (b,c,ow,n))) D1 d1 (by simp) e1 e2 e3 e4 e5 e6 e7 HR.out
def zdk (s:State) (x:Str):State:=⟨s.all,s.entries,s.pruned.filter fun p=>!(p == x)⟩
theorem ztm (s m:Str) {b:Nat} {w:World} (hb:w.cell? ⟨b,0,none⟩=some (St s)):Calls Tryz.prog 69 #[St m,.pointer (some ⟨b,0,none⟩)] w fun e w'=>e=.returned (.bool (m == s))/\Ext w w':=by
 go_enter Tryz.func69,Tryz.ntmps69;go_wp2;go_ret;exact⟨by simp,Ext.refl _⟩
theorem ztn (s:Str) (b base:Nat) (hb:b < base):PredS Tryz.prog 69 #[.pointer (some ⟨b,0,none⟩)] base (fun W=>W.cell? ⟨b,0,none⟩=some (St s)) (fun m=>m == s) where
 enters:=enters_of Tryz.func69 (by kernel_rfl) rfl
 keep W W' h hB:=(Below.cell hB (p:=⟨b,0,none⟩) hb).trans h
 does m W h:=ztm s m h
theorem zfk {S:Nat->Prop} {s:State} {v1 v2 v3:Value} {w:World} (x:Str) (h:StAt w S s v1 v2 v3) (sm:SmallS s) :
  Calls Tryz.prog 31 #[stV v1 v2 v3,St x] w fun r w'=>∃ u1 u2 u3,r=.returned (stV u1 u2 u3)/\StAt w' (fun b=>w.heap.size<=b) (zdk s x) u1 u2 u3/\Ext w w':=by
 have HRS:=zH (show zdk s x=⟨s.all,s.entries,s.pruned.filter fun p=>!(p == x)⟩ from rfl);obtain⟨sa,se,sp⟩:=s;obtain⟨A1,n1,A2,n2,A3,n3,rfl,rfl,rfl⟩:=h.fm;obtain⟨W0,hW0⟩:∃ X,((w.alloc (.cells #[.slice A1 sa.length n1,.slice A2 se.length n2,.slice A3 sp.length n3] 26)).alloc (.cells #[St x] 9)).alloc (.cells #[.slice none 0 0,.slice none 0 0,.slice none 0 0] 26)=X:=⟨_,rfl⟩
 have hx0:Ext w W0:=by rw [<- hW0];exact (((Ext.refl w).alloc _).alloc _).alloc _
 have rB0:RowIs W0 w.heap.size 26 [.slice A1 sa.length n1,.slice A2 se.length n2,.slice A3 sp.length n3] []:=by rw [<- hW0];exact ((zaf w _ _).alloc _).alloc _
 have rP0:RowIs W0 (w.heap.size+1) 9 [St x] []:=by rw [<- hW0];have h:=zaf (w.alloc (.cells #[.slice A1 sa.length n1,.slice A2 se.length n2,.slice A3 sp.length n3] 26)) 9 [St x];simp only [Qf] at h;exact h.alloc _
 have rR0:RowIs W0 (w.heap.size+2) 26 [.slice none 0 0,.slice none 0 0,.slice none 0 0] []:=by rw [<- hW0];have h:=zaf ((w.alloc (.cells #[.slice A1 sa.length n1,.slice A2 se.length n2,.slice A3 sp.length n3] 26)).alloc (.cells #[St x] 9)) 26 [.slice none 0 0,.slice none 0 0,.slice none 0 0];simp only [Qf] at h;exact h
 have hz0:w.heap.size+3<=W0.heap.size:=by rw [<- hW0];simp
 have HC:=zH (zk2 (h.ext hx0) sm);obtain⟨b0,b1,b2⟩:=rB0.p3;have HSP:=zH sm.pruned;clear h sm;go_enter Tryz.func31,Tryz.ntmps31;refine wpH ?_;intro K HK;go_wp2_with fail
 (try rw [hW0])
 clear hW0;refine HK.out _ _ ?_;clear HK K;refine wpH ?_;intro K HK;go_wp2_with fail;refine HC.out.mono ?_;rintro r W3 ⟨u1,u2,u3,rfl,⟨ho1,ho3,m,hm2,hmz,hbl,hoE⟩,hx3⟩;obtain⟨C1,c1,rfl,-,-⟩:=ho1.form;obtain⟨C2,c2,rfl,-,-⟩:=hoE.form;obtain⟨C3,c3,rfl,-,-⟩:=ho3.form;simp only at ho1 ho3 hoE ⊢;obtain⟨z6,hz6⟩:∃ z,W3.heap.size=z:=⟨_,rfl⟩
 rw [hz6] at hmz;have hE3:RowE W3 m z6 (.slice C2 se.length c2) se:=OwnL.mono hoE.toT fun b hb h=>⟨h.1,by omega,h.2⟩
 obtain⟨W4,hW4⟩:∃ X,W3.alloc (.cells #[.slice C1 sa.length c1,.slice C2 se.length c2,.slice C3 sp.length c3] 26)=X:=⟨_,rfl⟩
 have hx4:Ext W3 W4:=by rw [<- hW4];exact (Ext.refl W3).alloc _
 have r64:RowIs W4 z6 26 [.slice C1 sa.length c1,.slice C2 se.length c2,.slice C3 sp.length c3] []:=by rw [<- hW4,<- hz6];exact zaf W3 _ _
 have hz4:w.heap.size+3<=z6:=by rw [<- hz6];exact Qc hz0 hx3.size
 have ho14:=ho1.ext hx4;have ho34:=ho3.ext hx4;have hE4:=hE3.ext hx4;have rP4:=(rP0.ext hx3).ext hx4;have rR4:=(rR0.ext hx3).ext hx4;have hx04:=(hx3.trans hx4)
 have HD:=zH (ztl (base:=W0.heap.size) ho34 (ztn x (w.heap.size+1) W0.heap.size (by omega)) (rP4.cell (j:=0) rfl) hx04.size);have HB1:=zH (fun b' (ho:zad (.slice C3 sp.length c3) b')=>(ho34.base_le ho).1);have HN6:=zH (ho34.apart r64 (by decide));have HNR:=zH (ho34.apart rR4 (by decide));have HN1:=zH (ho14.apart2 ho34 (by decide));obtain⟨xE,hxE⟩:=hE4.own;have HN2:=zH (hxE.apart2 ho34 (by decide));have q2:=r64.cell (j:=2) rfl;clear ho1 ho3 hoE hE3 hx3 hx4 rB0 rP0 rR0 b0 b1 b2 ho34 rP4 hxE HC;go_wp2_with fail
 (try rw [hz6])
 (try rw [hW4])
 clear hW4 hz6;refine HK.out _ _ ?_;clear HK K;refine wpH ?_;intro K HK;go_wp2_with fail;refine HD.out.mono ?_;rintro r W6 ⟨v',rfl,hv',hB6,hk6⟩;have kp:∀ {b' T:Nat} {ys tl:List Value},RowIs W4 b' T ys tl->¬ zad (.slice C3 sp.length c3) b'->RowIs W6 b' T ys tl:=fun hr hn=>hr.keep (hk6 _ hr.lt hn)
 have r66:=kp r64 HN6.out;have rR6:=kp rR4 HNR.out;have h16:=ho14.keep (w':=W6) fun b' hb' hlt=>hk6 b' hlt (HN1.out b' hb')
 have hE6:RowE W6 m z6 (.slice C2 se.length c2) se:=hE4.keep fun b' hb' hlt hor=>hk6 b' hlt fun ho=>hor.elim (fun _=>by have:=hbl b' (.inr ho);omega) fun h2=>HN2.out b' h2 ho
 have hxw6:Ext w W6:=Below.trans hx0 (Below.mono (Below.trans hx04 hB6) hx0.size);obtain⟨pr,hpr⟩:∃ p,(sp.filter fun m=>!(m == x))=p:=⟨_,rfl⟩
 rw [hpr] at hv';have HR:=zH (show zdk ⟨sa,se,sp⟩ x=⟨sa,se,pr⟩ by rw [HRS.out,<- hpr]);obtain⟨D3,d3,rfl,-,-⟩:=hv'.form;have y2:=r66.cell (j:=2) rfl;have g2:=r66.frozen 2;have hS:=r66.set (j:=2) (by simp) (.slice D3 pr.length d3);simp only [Qx,Qj] at hS;obtain⟨W7,hW7⟩:∃ X,W6.setCell ⟨z6,2,none⟩ (.slice D3 pr.length d3)=X:=⟨_,rfl⟩
 have hk7:∀ b',b' ≠ z6->W7.heap[b']? = W6.heap[b']?:=fun b' hb'=>by rw [<- hW7];exact Qb _ _ _ _ hb'
 have h17:=(h16.keep (w':=W7) fun b' hb' _=>hk7 b' (fun e=>h16.apart r66 (by decide) (e ▸ hb'))).lower hx0.size;have hv7:=(hv'.keep (w':=W7) fun b' hb' _=>hk7 b' (fun e=>hv'.apart r66 (by decide) (e ▸ hb'))).lower hx0.size;have hE7:RowE W7 m z6 (.slice C2 se.length c2) se:=by rw [<- hW7];exact hE6.set r66 (by decide)
 have rR7:=rR6.keep (hk7 _ (by omega));have hx7:Ext w W7:=by rw [<- hW7];exact hxw6.set (by simp;omega) _
 rw [hW7] at hS;obtain⟨q0,q1,q2⟩:=hS.p3;obtain⟨r0,r1,r2⟩:=rR7.p3;obtain⟨f0,f1,f2⟩:=rR7.q3;have HX:=zH hx7;clear hv' hB6 hk6 kp r66 rR6 h16 hE6 hxw6 hS hk7 hx7 hE4 r64 rR4 ho14 hx04 hpr;go_wp2_with fail;refine HK.out _ _ ?_;clear HK K;go_wp2_with fail
 (try simp only [Exit.inBlock,Exit.then])
 refine bodyPost_ret (v:=stV (.slice C1 sa.length c1) (.slice C2 se.length c2) (.slice D3 pr.length d3)) (by simp [results,Tryz.f31,go_sem,r0,r1,r2]) rfl ?_;have hq:=zbn (q:=w.heap.size+2) HX.out (by omega) (.slice C1 sa.length c1) (.slice C2 se.length c2) (.slice D3 pr.length d3);have he:=zsa (s:=⟨sa,se,pr⟩) h17 hE7 hv7 rR7 (by omega) (by omega);refine ⟨_,_,_,rfl,?_⟩;rw [HR.out];exact⟨he,hq⟩
theorem zyj (l:List zag) (s:Str):(zbc l s).length<=l.length+1:=by
 unfold zbc
 split
 ·have:=zp5 (zax l) (zaz l);have:=zg1 l;omega
 ·have h1:=zp5 (zei (zax l) s) (zei (zaz l) s);have h2:(zei (zax l) s).length<=(zax l).length+1:=Qc (zr4 _ _) (zkp _ _ _);have h3:=zg1 l;omega
theorem zyk {n:Nat} {e:Entry} (p:PrD) (h:LimE n e):LimE (n+1) (zaq p e):=by
 have hk:(setL ((setL (zab e.items)).map (zci p))).length<=n+1:=by have h1:=zgj ((setL (zab e.items)).map (zci p));have h2:=zgj (zab e.items);have h3:=h.places;rw [Yn] at h1;omega
 obtain⟨h1,h2,h3⟩:=zya hk;refine ⟨?_,Qc (zyj _ _) (Va h.counts),h1,h2,h3⟩;unfold zaq;simp only;have hs:=h.seen
 split
 ·have h4:=yad (zau e.seen p.1) p.2.2.1 (max (ofM e.seen p.2.2.1) (p.2.2.2+p.2.1));have h5:=zh4 e.seen p.1;omega
 ·omega
theorem ybd (l:List Str) (s:Str):(insP l s).length<=l.length+1:=by
 unfold insP;simp only [Yv,Qp]
 have:∀ l:List Str,(l.filter fun x=>ltS x s).length+(l.filter fun x=>ltS s x).length<=l.length:=by
  intro l
  induction l with
  | nil=>simp
  | cons a r ih =>
   cases h1:ltS a s with
   | true=>rw [Qq (by simpa using h1),Qn (by rw [zc8 h1];simp)];simp only [Qp];omega
   | false =>
    rw [Qn (by simp [h1])]
    cases h2:ltS s a with
    | true=>rw [Qq (by simpa using h2)];simp only [Qp];omega
    | false=>rw [Qn (by simp [h2])];simp only [Qp];omega
 have:=this l;omega
theorem zlb {n:Nat} {s:State} (p:PrD) (h:LimS n s):LimS (n+1) (zbh s p).1:=by
 have hz:LimS (n+1) za1:=⟨Ye _,Ye _,Ye _,fun e he=>by cases he⟩
 have hi:=Qc (ybd s.pruned p.1) (Va h.pruned);unfold zbh
 split
 ·split
  ·exact⟨Qm h.all,Qm h.entries,Qm h.pruned,fun e he=>(h.each e he).mono (Nat.le_succ n)⟩
  ·split
   ·split
    ·refine ⟨Qm (Qc (zh4 _ _) h.all),?_,hi,fun e he=>?_⟩
     ·simpa using Qm h.entries
     ·obtain⟨x,hx,rfl⟩:=Qg.1 he;exact zyk p (h.each x hx)
    ·exact hz
   ·exact⟨Qm h.all,Qm h.entries,hi,fun e he=>(h.each e he).mono (Nat.le_succ n)⟩
 ·exact hz
def zie (db:List Mark) (s:State) (p:PrD):List Mark × State × Nat:=if (zbh s p).2=0 then (zau db p.1,zbh s p) else ([],za1,(zbh s p).2)
theorem zvu {S S0:Nat->Prop} {s:State} {v0 v1 v2 v3:Value} {db:List Mark} {w:World} (p:PrD) (h:StAt w S s v1 v2 v3) (h0:Sl markT w S0 v0 db) (sm:SmallS s) (HLB:db.length<=1099511627776) :
  Calls Tryz.prog 26 #[dltV v0 v1 v2 v3,prV p] w fun r w'=>∃ u0 u1 u2 u3,r=.returned (.tuple #[dltV u0 u1 u2 u3,I (zie db s p).2.2])/\StAt w' (fun b=>w.heap.size<=b) (zie db s p).2.1 u1 u2 u3/\Sl markT w' (fun b=>w.heap.size<=b) u0 (zie db s p).1/\Ext w w':=by
 have HRS:=zH (show zie db s p=if (zbh s p).2=0 then (zau db p.1,zbh s p) else ([],za1,(zbh s p).2) from rfl);have HP:=zH (fun (W:World) (hx:Ext w W)=>ziv p (h.ext hx) sm);obtain⟨sa,se,sp⟩:=s;obtain⟨b,c,ow,n⟩:=p;obtain⟨A0,n0,rfl,-,-⟩:=h0.form;obtain⟨A1,n1,A2,n2,A3,n3,rfl,rfl,rfl⟩:=h.fm;obtain⟨W0,hW0⟩:∃ X,((w.alloc (.cells #[.slice A0 db.length n0,.slice A1 sa.length n1,.slice A2 se.length n2,.slice A3 sp.length n3] 83)).alloc (.cells #[St b,U c,St ow,U n] 29)).alloc (.cells #[.slice none 0 0,.slice none 0 0,.slice none 0 0,.slice none 0 0] 83)=X:=⟨_,rfl⟩
 have hx0:Ext w W0:=by rw [<- hW0];exact (((Ext.refl w).alloc _).alloc _).alloc _
 have rB0:RowIs W0 w.heap.size 83 [.slice A0 db.length n0,.slice A1 sa.length n1,.slice A2 se.length n2,.slice A3 sp.length n3] []:=by rw [<- hW0];exact ((zaf w _ _).alloc _).alloc _
 have rP0:RowIs W0 (w.heap.size+1) 29 [St b,U c,St ow,U n] []:=by rw [<- hW0];have h:=zaf (w.alloc (.cells #[.slice A0 db.length n0,.slice A1 sa.length n1,.slice A2 se.length n2,.slice A3 sp.length n3] 83)) 29 [St b,U c,St ow,U n];simp only [Qf] at h;exact h.alloc _
 have rR0:RowIs W0 (w.heap.size+2) 83 [.slice none 0 0,.slice none 0 0,.slice none 0 0,.slice none 0 0] []:=by rw [<- hW0];have h:=zaf ((w.alloc (.cells #[.slice A0 db.length n0,.slice A1 sa.length n1,.slice A2 se.length n2,.slice A3 sp.length n3] 83)).alloc (.cells #[St b,U c,St ow,U n] 29)) 83 [.slice none 0 0,.slice none 0 0,.slice none 0 0,.slice none 0 0];simp only [Qf] at h;exact h
 have hz0:w.heap.size+3<=W0.heap.size:=by rw [<- hW0];simp
 have HDB0:=zH (fun (W:World) (hx:Ext w W)=>h0.ext (by decide) hx);have b1:=rB0.cell (j:=1) rfl;have b2:=rB0.cell (j:=2) rfl;have b3:=rB0.cell (j:=3) rfl;obtain⟨p0,p1,p2,p3⟩:=rP0.p4;clear h h0 sm;go_enter Tryz.func26,Tryz.ntmps26;refine wpH ?_;intro K HK;go_wp2_with fail
 (try rw [hW0])
 clear hW0;refine HK.out _ _ ?_;clear HK K;refine wpH ?_;intro K HK;go_wp2_with fail;refine (HP.out W0 hx0).mono ?_;rintro r W1 ⟨u1,u2,u3,rfl,hS,hx1⟩;obtain⟨rr,hrr⟩:∃ rr,zbh ⟨sa,se,sp⟩ (b,c,ow,n)=rr:=⟨_,rfl⟩
 rw [hrr] at hS HRS ⊢;obtain⟨st,er⟩:=rr;simp only at hS HRS ⊢;obtain⟨C1,c1,C2,c2,C3,c3,rfl,rfl,rfl⟩:=hS.fm;obtain⟨z6,hz6⟩:∃ z,W1.heap.size=z:=⟨_,rfl⟩
 obtain⟨W2,hW2⟩:∃ X,W1.alloc (.cells #[.slice C1 st.all.length c1,.slice C2 st.entries.length c2,.slice C3 st.pruned.length c3] 26)=X:=⟨_,rfl⟩
 have hx2:Ext W1 W2:=by rw [<- hW2];exact (Ext.refl W1).alloc _
 have r6:RowIs W2 z6 26 [.slice C1 st.all.length c1,.slice C2 st.entries.length c2,.slice C3 st.pruned.length c3] []:=by rw [<- hW2,<- hz6];exact zaf W1 _ _
 have rD:=(rB0.ext hx1).ext hx2;have rP:=(rP0.ext hx1).ext hx2;have rR:=(rR0.ext hx1).ext hx2;have hx02:=(hx0.trans hx1).trans hx2;have HS2:=zH (hS.ext hx2);have hw0:=hx0.size;clear hS hx1 hx2 rB0 rP0 rR0 b1 b2 b3 p0 p1 p2 p3 HP hrr hx0;go_wp2_with fail
 (try rw [hz6])
 (try rw [hW2])
 clear hW2 hz6;refine HK.out _ _ ?_;clear HK K;refine wpH ?_;intro K HK
 by_cases he:er=0
 ·subst he;have HR:=zH (show zie db ⟨sa,se,sp⟩ (b,c,ow,n)=(zau db b,st,0) by rw [HRS.out,zP rfl]);have HDB:=zH (HDB0.out W2 hx02);clear HRS HDB0;go_wp2_with fail;refine HK.out _ _ ?_;clear HK K;obtain⟨Wx,hWx⟩:∃ X,W2=X:=⟨_,rfl⟩
  rw [hWx] at r6 rD rP rR hx02 HS2 HDB ⊢;clear hWx;refine wpH ?_;intro K HK;refine zat [fun v _=>v=.pointer (some ⟨w.heap.size,0,none⟩),fun v _=>v=.slice A0 db.length n0,fun v _=>v=.pointer (some ⟨w.heap.size+1,0,none⟩),fun v _=>v=St b,fun v W=>Own W Wx.heap.size 97 2 v (zau db b).length ((zau db b).flatMap zaj),fun v _=>v=stV (.slice C1 st.all.length c1) (.slice C2 st.entries.length c2) (.slice C3 st.pruned.length c3),fun v W=>∃ u,v=.agg #[u,.slice C1 st.all.length c1,.slice C2 st.entries.length c2,.slice C3 st.pruned.length c3]/\Own W Wx.heap.size 97 2 u (zau db b).length ((zau db b).flatMap zaj)] rfl (by kernel_rfl) ?hR ?hstep ?hend
  case hR=>simp only [zM];exact⟨kP,kP,kP,kP,fun v _ _ h he=>h.ext he,kP,fun v _ _ h he=>(by obtain⟨u,e,h⟩:=h;exact⟨u,e,h.ext he⟩)⟩
  case hstep =>
   simp only [zS,zD,Qe,zbj]
   and_intros <;> intro x W he f
   ·have h0:x 2=.pointer (some ⟨w.heap.size,0,none⟩):=f.1;go_wp;exact sQ
   ·have h0:_=_:=f.1;have q0:=(rD.ext he).cell (j:=0) rfl;go_wp;exact sQ
   ·have h0:x 3=.pointer (some ⟨w.heap.size+1,0,none⟩):=f.1;go_wp;exact sQ
   ·have h0:_=_:=f.1;have q0:=(rP.ext he).cell (j:=0) rfl;go_wp;exact sQ
   ·have h0:_=_:=f.1;have h1:_=_:=f.2.1;have hs:=he.size;have HC:=zH (zkr b (HDB.out.ext (by decide) he) HLB);go_wp;refine HC.out.mono ?_;rintro r W3 ⟨v3,rfl,hv3,hx3⟩;dsimp only;go_wp;exact zaa (v:=v3) (hv3.lower hs) hx3
   ·have h0:x 6=.pointer (some ⟨z6,0,none⟩):=f.1;obtain⟨q0,q1,q2⟩:=(r6.ext he).p3;go_wp;exact sQ
   ·have h0:Own W Wx.heap.size 97 2 (x 23) (zau db b).length ((zau db b).flatMap zaj):=f.1;have h1:_=_:=f.2.1;obtain⟨E,e,he2,-,-⟩:=h0.form;rw [he2] at h0;go_wp;exact zaa (v:=.agg #[.slice E (zau db b).length e,.slice C1 st.all.length c1,.slice C2 st.entries.length c2,.slice C3 st.pruned.length c3]) ⟨_,rfl,h0⟩ (Ext.refl _)
  case hend =>
   intro x Wz hxz f;obtain⟨u25,e25,f25⟩:∃ u,x 25=.agg #[u,.slice C1 st.all.length c1,.slice C2 st.entries.length c2,.slice C3 st.pruned.length c3]/\Own Wz Wx.heap.size 97 2 u (zau db b).length ((zau db b).flatMap zaj):=f.2.2.2.2.2.2.1;clear f;obtain⟨E,e,rfl,-,-⟩:=f25.form;simp only [zS,zD,zU,Qe,Qh,zav,Act.put,e25];have r6z:=r6.ext hxz;have rRz:=rR.ext hxz;obtain⟨y0,y1,y2,y3⟩:=rRz.p4;obtain⟨g0,g1,g2,g3⟩:=rRz.q4;have HX:=zH (hx02.trans hxz);have HSZ:=zH (HS2.out.ext hxz);have HF:=zH (f25.lower hx02.size);have hzz:=hx02.size;have RZ:=zH rRz;clear hxz hx02 r6 rD rP rR r6z f25 rRz;go_wp2_with fail;refine HK.out _ _ ?_;clear HK K;go_wp2_with fail
   (try simp only [Exit.inBlock,Exit.then])
   refine bodyPost_ret (v:=.tuple #[dltV (.slice E (zau db b).length e) (.slice C1 st.all.length c1) (.slice C2 st.entries.length c2) (.slice C3 st.pruned.length c3),I 0]) (by simp [results,Tryz.f26,go_sem,y0,y1,y2,y3]) rfl ?_;have hk:∀ b',b' ≠ w.heap.size+2->((((Wz.setCell ⟨w.heap.size+2,0,none⟩ (.slice E (zau db b).length e)).setCell ⟨w.heap.size+2,1,none⟩ (.slice C1 st.all.length c1)).setCell ⟨w.heap.size+2,2,none⟩ (.slice C2 st.entries.length c2)).setCell ⟨w.heap.size+2,3,none⟩ (.slice C3 st.pruned.length c3)).heap[b']? = Wz.heap[b']?:=fun b' hb=>((((Qb _ _ _ _ hb).trans (Qb _ _ _ _ hb)).trans (Qb _ _ _ _ hb)).trans (Qb _ _ _ _ hb))
   have rRz:=RZ.out;have hF:=HF.out.keep (w':=((((Wz.setCell ⟨w.heap.size+2,0,none⟩ (.slice E (zau db b).length e)).setCell ⟨w.heap.size+2,1,none⟩ (.slice C1 st.all.length c1)).setCell ⟨w.heap.size+2,2,none⟩ (.slice C2 st.entries.length c2)).setCell ⟨w.heap.size+2,3,none⟩ (.slice C3 st.pruned.length c3))) fun b' hb' _=>hk b' (fun e=>HF.out.apart rRz (by decide) (e ▸ hb'))
   have hS4:=HSZ.out.keep (w:=((((Wz.setCell ⟨w.heap.size+2,0,none⟩ (.slice E (zau db b).length e)).setCell ⟨w.heap.size+2,1,none⟩ (.slice C1 st.all.length c1)).setCell ⟨w.heap.size+2,2,none⟩ (.slice C2 st.entries.length c2)).setCell ⟨w.heap.size+2,3,none⟩ (.slice C3 st.pruned.length c3))) fun b' hb' _=>hk b' (by omega)
   have hx4:=(((HX.out.set (p:=⟨w.heap.size+2,0,none⟩) (by simp) (.slice E (zau db b).length e)).set (p:=⟨w.heap.size+2,1,none⟩) (by simp) (.slice C1 st.all.length c1)).set (p:=⟨w.heap.size+2,2,none⟩) (by simp) (.slice C2 st.entries.length c2)).set (p:=⟨w.heap.size+2,3,none⟩) (by simp) (.slice C3 st.pruned.length c3);refine ⟨_,_,_,_,by (rw [HR.out];try rfl),?_⟩;rw [HR.out];exact⟨hS4.mono fun b' _ h=>Qc hw0 h,zbb hF,hx4⟩
 ·have hne:((er:Int) == 0)=false:=by rw [beq_eq_false_iff_ne];omega
  have HR:=zH (show zie db ⟨sa,se,sp⟩ (b,c,ow,n)=([],za1,er) by rw [HRS.out,zN he]);obtain⟨y0,y1,y2,y3⟩:=rR.p4;obtain⟨g0,g1,g2,g3⟩:=rR.q4;have HX:=zH hx02;clear HRS HDB0 he hx02 r6 rD rP HS2 rR;go_wp2_with fail
  (try simp only [Exit.inBlock,Exit.then])
  refine bodyPost_ret (v:=.tuple #[dltV (.slice none 0 0) (.slice none 0 0) (.slice none 0 0) (.slice none 0 0),I er]) (by simp [results,Tryz.f26,go_sem,y0,y1,y2,y3]) rfl ?_;have hx4:=(((HX.out.set (p:=⟨w.heap.size+2,0,none⟩) (by simp) (.slice none 0 0)).set (p:=⟨w.heap.size+2,1,none⟩) (by simp) (.slice none 0 0)).set (p:=⟨w.heap.size+2,2,none⟩) (by simp) (.slice none 0 0)).set (p:=⟨w.heap.size+2,3,none⟩) (by simp) (.slice none 0 0);refine ⟨_,_,_,_,by (rw [HR.out];try rfl),?_⟩;rw [HR.out];exact⟨StAt.none _ _ _ _ _,Sl.nil _ _ (by decide),hx4⟩
abbrev prT:Shape PrD:=flat 4 prC (fun _=>rfl) (fun _ u hu=>by simp [prC] at hu;rcases hu with rfl | rfl | rfl | rfl <;> rfl)
theorem yb9 {w wr:World} {S:Nat->Prop} {A:Option Addr} {n c:Nat} {l pre post:List PrD} {m:PrD} (h:Sl prT w S (.slice A n c) l) (hb:Ext w wr) (hl:l=pre++m :: post) :
  ∃ b o,A=some ⟨b,o,none⟩/\wr.cell? ⟨b,o+pre.length * 4,none⟩=some (St m.1)/\wr.cell? ⟨b,o+pre.length * 4+1,none⟩=some (U m.2.1)/\wr.cell? ⟨b,o+pre.length * 4+2,none⟩=some (St m.2.2.1)/\wr.cell? ⟨b,o+pre.length * 4+3,none⟩=some (U m.2.2.2):=by
 obtain⟨b,o,vs,c',hv,hS,rfl,hc⟩:=h.at_ hl;injection hv with e1 e2 e3
 subst e1;exact⟨b,o,rfl,hb.cell (hc 0 _ rfl),hb.cell (hc 1 _ rfl),hb.cell (hc 2 _ rfl),hb.cell (hc 3 _ rfl)⟩
def allP:State->List PrD->State × Nat
 | s,[]=>(s,0)
 | s,p :: r=>if (zbh s p).2=0 then allP (zbh s p).1 r else (za1,(zbh s p).2)
theorem zno {S S0:Nat->Prop} {s:State} {v1 v2 v3 vl:Value} {ps:List PrD} {N:Nat} {w:World} (h:StAt w S s v1 v2 v3) (hl:Sl prT w S0 vl ps) (hlim:LimS N s) (hN:N+ps.length<=549755813888) :
  Calls Tryz.prog 30 #[stV v1 v2 v3,vl] w fun r w'=>∃ u1 u2 u3,r=.returned (.tuple #[stV u1 u2 u3,I (allP s ps).2])/\StAt w' (fun b=>w.heap.size<=b) (allP s ps).1 u1 u2 u3/\Ext w w':=by
 have hl':=hl;obtain⟨AL,nl,rfl,-,-⟩:=hl.form;have HAT:=zH (fun (pre post:List PrD) (m:PrD) (wr:World) (h:Ext w wr) (hl:ps=pre++m :: post)=>yb9 hl' h hl);have HLIM:=zH hlim;obtain⟨ALL,hALL⟩:∃ a,allP s ps=a:=⟨_,rfl⟩
 rw [hALL];have HALL:=zH hALL;obtain⟨A1,n1,A2,n2,A3,n3,rfl,rfl,rfl⟩:=h.fm;obtain⟨W0,hW0⟩:∃ X,(w.alloc (.cells #[.slice A1 s.all.length n1,.slice A2 s.entries.length n2,.slice A3 s.pruned.length n3] 26)).alloc (.cells #[.slice none 0 0,.slice none 0 0,.slice none 0 0] 26)=X:=⟨_,rfl⟩
 have hx0:Ext w W0:=by rw [<- hW0];exact ((Ext.refl w).alloc _).alloc _
 have rB0:RowIs W0 w.heap.size 26 [.slice A1 s.all.length n1,.slice A2 s.entries.length n2,.slice A3 s.pruned.length n3] []:=by rw [<- hW0];exact (zaf w _ _).alloc _
 have rR0:RowIs W0 (w.heap.size+1) 26 [.slice none 0 0,.slice none 0 0,.slice none 0 0] []:=by rw [<- hW0];have h:=zaf (w.alloc (.cells #[.slice A1 s.all.length n1,.slice A2 s.entries.length n2,.slice A3 s.pruned.length n3] 26)) 26 [.slice none 0 0,.slice none 0 0,.slice none 0 0];simp only [Qf] at h;exact h
 have hz0:w.heap.size+2<=W0.heap.size:=by rw [<- hW0];simp
 have HC:=zH (zjx (h.ext hx0) (hlim.small (by omega)));obtain⟨b0,b1,b2⟩:=rB0.p3;clear h hl hl' hlim hALL;go_enter Tryz.func30,Tryz.ntmps30;refine wpH ?_;intro K HK;go_wp2_with fail
 (try rw [hW0])
 clear hW0;refine HK.out _ _ ?_;clear HK K;refine wpH ?_;intro K HK;go_wp2_with fail;refine HC.out.mono ?_;rintro r W1 ⟨u1,u2,u3,rfl,hn,hx1⟩;have hS:=hn.at;obtain⟨C1,c1,C2,c2,C3,c3,rfl,rfl,rfl⟩:=hS.fm;obtain⟨z6,hz6⟩:∃ z,W1.heap.size=z:=⟨_,rfl⟩
 obtain⟨W2,hW2⟩:∃ X,W1.alloc (.cells #[.slice C1 s.all.length c1,.slice C2 s.entries.length c2,.slice C3 s.pruned.length c3] 26)=X:=⟨_,rfl⟩
 have hx2:Ext W1 W2:=by rw [<- hW2];exact (Ext.refl W1).alloc _
 have r6:RowIs W2 z6 26 [.slice C1 s.all.length c1,.slice C2 s.entries.length c2,.slice C3 s.pruned.length c3] []:=by rw [<- hW2,<- hz6];exact zaf W1 _ _
 have hz62:w.heap.size+2<=z6:=by rw [<- hz6];exact Qc hz0 hx1.size
 have HL:=zH (⟨_,_,_,r6,(hS.mono (S':=fun b=>w.heap.size+2<=b/\b ≠ z6) fun b hb h=>⟨by omega,by omega⟩).ext hx2,(rR0.ext hx1).ext hx2⟩:∃ x1 x2 x3,RowIs W2 z6 26 [x1,x2,x3] []/\StAt W2 (fun b=>w.heap.size+2<=b/\b ≠ z6) s x1 x2 x3/\RowIs W2 (w.heap.size+1) 26 [.slice none 0 0,.slice none 0 0,.slice none 0 0] []);have hx02:=(hx0.trans hx1).trans hx2;clear hn hS hx0 hx1 hx2 rB0 rR0 b0 b1 b2 HC r6 hz0;go_wp2_with fail
 (try rw [hz6])
 (try rw [hW2])
 clear hW2 hz6;refine HK.out _ _ ?_;clear HK K;refine wpH ?_;intro K HK;go_wp2_with fail
 go_loopw [14] (fun i wr=>∃ pre post st,ps=pre++post/\i=I pre.length/\Hid (allP st post=ALL/\LimS (N+pre.length) st)/\Hid (∃ x1 x2 x3,RowIs wr z6 26 [x1,x2,x3] []/\StAt wr (fun b=>w.heap.size+2<=b/\b ≠ z6) st x1 x2 x3/\RowIs wr (w.heap.size+1) 26 [.slice none 0 0,.slice none 0 0,.slice none 0 0] [])/\Ext w wr) (fun i _=>ps.length - (intOf i).toNat)
 case atStart=>exact⟨[],ps,s,rfl,rfl,zH ⟨HALL.out,by simpa using HLIM.out⟩,HL,hx02⟩
 case round =>
  obtain⟨pre,post,st,hl,rfl,hA,hI,hx⟩:=hrel;obtain⟨x1,x2,x3,r6,hS,rR⟩:=hI.out;obtain⟨C1,c1,C2,c2,C3,c3,rfl,rfl,rfl⟩:=hS.fm
  cases post with
  | cons p post =>
   obtain⟨b,o,rfl,e0,e1,e2,e3⟩:=HAT.out pre post p wr hx hl;obtain⟨pb,pc,pw,pn⟩:=p;have hlt:pre.length < ps.length:=(by rw [hl];simp);obtain⟨W5,hW5⟩:∃ X,wr.alloc (.cells #[St pb,U pc,St pw,U pn] 29)=X:=⟨_,rfl⟩
   have hx5:Ext wr W5:=(by rw [<- hW5];exact (Ext.refl wr).alloc _);obtain⟨z8,hz8⟩:∃ z,wr.heap.size=z:=⟨_,rfl⟩
   have r8:RowIs W5 z8 29 [St pb,U pc,St pw,U pn] []:=(by rw [<- hW5,<- hz8];exact zaf wr _ _);have r65:=r6.ext hx5;obtain⟨y0,y1,y2⟩:=r65.p3;obtain⟨d0,d1,d2,d3⟩:=r8.p4;have HP:=zH (ziv (pb,pc,pw,pn) (hS.ext hx5) (hA.out.2.small (by omega)));have HLL:=zH hl;have rR5:=rR.ext hx5;have hx05:=hx.trans hx5;simp only at e0 e1 e2 e3;have hpl:N+ps.length<=549755813888:=hN;clear hl r6 hS rR hx hI r8;go_wp2_with fail
   (try rw [hz8])
   (try rw [hW5])
   clear hW5 hz8;refine HP.out.mono ?_;rintro r W6 ⟨u1,u2,u3,rfl,hS6,hx6⟩;obtain⟨rr,hrr⟩:∃ rr,zbh st (pb,pc,pw,pn)=rr:=⟨_,rfl⟩
   have HA6:=zH (show allP st ((pb,pc,pw,pn) :: post)=if (zbh st (pb,pc,pw,pn)).2=0 then allP (zbh st (pb,pc,pw,pn)).1 post else (za1,(zbh st (pb,pc,pw,pn)).2) from rfl);have HLM:=zH (zlb (pb,pc,pw,pn) hA.out.2);rw [hrr] at hS6 HA6 HLM ⊢;obtain⟨s2,er⟩:=rr;simp only at hS6 HA6 HLM ⊢;obtain⟨D1,d1',rfl,-,-⟩:=hS6.all.form;obtain⟨D2,d2',rfl,-,-⟩:=hS6.entries.form;obtain⟨D3,d3',rfl,-,-⟩:=hS6.pruned.form;have r66:=r65.ext hx6;obtain⟨y0,y1,y2⟩:=r66.p3;obtain⟨g0,g1,g2⟩:=r66.q3;have hz65:z6 < W5.heap.size:=r65.lt;have hk:=zda W6 z6 (.slice D1 s2.all.length d1') (.slice D2 s2.entries.length d2') (.slice D3 s2.pruned.length d3');have hS7:=(hS6.mono (S':=fun b=>w.heap.size+2<=b/\b ≠ z6) fun b _ h=>⟨by omega,by omega⟩).keep (w:=put3 W6 z6 (.slice D1 s2.all.length d1') (.slice D2 s2.entries.length d2') (.slice D3 s2.pruned.length d3')) fun b hb _=>hk b hb.2
   have r67:=((r66.set (j:=0) (by simp) (.slice D1 s2.all.length d1')).set (j:=1) (by simp) (.slice D2 s2.entries.length d2')).set (j:=2) (by simp) (.slice D3 s2.pruned.length d3');simp only [Qx,Qj] at r67;have rR7:=(rR5.ext hx6).keep (hk _ (by omega));have hx07:=zbn (q:=z6) (hx05.trans hx6) (by omega) (.slice D1 s2.all.length d1') (.slice D2 s2.entries.length d2') (.slice D3 s2.pruned.length d3');have HN:=zH (⟨_,_,_,r67,hS7,rR7⟩:∃ x1 x2 x3,RowIs (put3 W6 z6 (.slice D1 s2.all.length d1') (.slice D2 s2.entries.length d2') (.slice D3 s2.pruned.length d3')) z6 26 [x1,x2,x3] []/\StAt (put3 W6 z6 (.slice D1 s2.all.length d1') (.slice D2 s2.entries.length d2') (.slice D3 s2.pruned.length d3')) (fun b=>w.heap.size+2<=b/\b ≠ z6) s2 x1 x2 x3/\RowIs (put3 W6 z6 (.slice D1 s2.all.length d1') (.slice D2 s2.entries.length d2') (.slice D3 s2.pruned.length d3')) (w.heap.size+1) 26 [.slice none 0 0,.slice none 0 0,.slice none 0 0] []);have hrz:=rR7.cell (j:=0) rfl;have HRR:=zH rR7;have HX7:=zH hx07;clear hS6 hx6 r65 rR5 r66 hk hS7 r67 rR7 hx07 hx05 hrr hrz d0 d1 d2 d3 e0 e1 e2 e3 HP;obtain⟨W7,hW7⟩:∃ X,put3 W6 z6 (.slice D1 s2.all.length d1') (.slice D2 s2.entries.length d2') (.slice D3 s2.pruned.length d3')=X:=⟨_,rfl⟩
   rw [hW7] at HN HRR HX7
   by_cases he:er=0
   ·subst he;have HAN:=zH (show allP s2 post=ALL/\LimS (N+(pre++[(pb,pc,pw,pn)]).length) s2 from ⟨by rw [<- hA.out.1,HA6.out,zP rfl],by simpa [Nat.add_assoc] using HLM.out⟩);clear HA6 HLM hA HRR;go_wp2_with fail
    (try rw [hW7])
    go_roundw
    case rel=>exact⟨pre++[(pb,pc,pw,pn)],post,s2,by rw [HLL.out];simp,by simp,HAN,HN,HX7.out⟩
    case measure=>simp [intOf];omega
   ·have hne:((er:Int) == 0)=false:=(by rw [beq_eq_false_iff_ne];omega);have HR:=zH (show ALL=(za1,er) by rw [<- hA.out.1,HA6.out,zN he]);obtain⟨r0,r1,r2⟩:=HRR.out.p3;obtain⟨f0,f1,f2⟩:=HRR.out.q3;clear HA6 HLM hA HRR HN he;go_wp2_with fail
    (try simp only [Exit.inBlock,Exit.then])
    refine bodyPost_ret (v:=.tuple #[stV (.slice none 0 0) (.slice none 0 0) (.slice none 0 0),I er]) (by simp [results,Tryz.f30,go_sem,r0,r1,r2]) rfl ?_;have hq:=zbn (q:=w.heap.size+1) HX7.out (by omega) (.slice none 0 0) (.slice none 0 0) (.slice none 0 0);refine ⟨.slice none 0 0,.slice none 0 0,.slice none 0 0,by (rw [HR.out];try rfl),?_⟩;rw [HR.out];exact⟨StAt.none _ _ _ _ _,hq⟩
  | nil =>
   rw [Ym] at hl;have HR:=zH (show ALL=(st,0) from hA.out.1.symm);obtain⟨y0,y1,y2⟩:=r6.p3;obtain⟨r0,r1,r2⟩:=rR.p3;obtain⟨f0,f1,f2⟩:=rR.q3;have HX:=zH hx;have HS:=zH hS;have hlen:ps.length=pre.length:=(by rw [hl]);clear hl hA hI hx hS r6 rR;go_wp2_with fail;refine HK.out _ _ ?_;go_wp2_with fail
   (try simp only [Exit.inBlock,Exit.then])
   refine bodyPost_ret (v:=.tuple #[stV (.slice C1 st.all.length c1) (.slice C2 st.entries.length c2) (.slice C3 st.pruned.length c3),I 0]) (by simp [results,Tryz.f30,go_sem,r0,r1,r2]) rfl ?_;have hq:=zbn (q:=w.heap.size+1) HX.out (by omega) (.slice C1 st.all.length c1) (.slice C2 st.entries.length c2) (.slice C3 st.pruned.length c3);have hk:=zda wr (w.heap.size+1) (.slice C1 st.all.length c1) (.slice C2 st.entries.length c2) (.slice C3 st.pruned.length c3);refine ⟨_,_,_,by (rw [HR.out];try rfl),?_⟩;rw [HR.out];exact⟨(HS.out.keep (w:=put3 wr (w.heap.size+1) (.slice C1 st.all.length c1) (.slice C2 st.entries.length c2) (.slice C3 st.pruned.length c3)) fun b hb _=>hk b (by omega)).mono fun b _ h=>by omega,hq⟩
end
section
abbrev q1:Str:=[49]
abbrev q11:Str:=[49,46,49]
abbrev kN:Str:=[35,110]
abbrev kS:Str:=[64,115]
abbrev opN:OpD:=(1,kN,2,[])
abbrev opS:OpD:=(2,kS,0,[97])
abbrev pQ:PrD:=(q11,2,q1,5)
def eN:Entry:=⟨kN,[(q11,1)],[(q11,2,0)],[],0,[],false⟩
def eS:Entry:=⟨kS,[(q11,2)],[],[([97],[(q11,2)])],0,[],false⟩
def eNt:Entry:=⟨kN,[(q1,7)],[([],2,0)],[],0,[],false⟩
def eSt:Entry:=⟨kS,[(q1,7)],[],[([97],[(q1,7)])],0,[],false⟩
def st0:State:=⟨[(q1,5)],[],[]⟩
def stP:State:=⟨[(q1,5),(q11,1)],[eN],[]⟩
def stQ:State:=⟨[(q1,5),(q11,2)],[eN,eS],[]⟩
def stV7:State:=⟨[(q1,7),(q11,2)],[eN,eS],[]⟩
def stT:State:=⟨[(q1,7)],[eNt,eSt],[q11]⟩
def stF:State:=⟨[(q1,7)],[eNt,eSt],[]⟩
theorem ybo:updS st0 q11 opN=(stP,0):=by kernel_rfl
theorem ybp:updS stP q11 opS=(stQ,0):=by kernel_rfl
theorem ybq:zbh stQ pQ=(za1,170):=by kernel_rfl
theorem ybr:zee stQ q1 2=(stV7,0):=by kernel_rfl
theorem zsb:zbh stV7 pQ=(stT,0):=by kernel_rfl
theorem ybe:zbh stT pQ=(stT,0):=by kernel_rfl
theorem ybs:zdk stT q11=stF:=by kernel_rfl
theorem ybt:allP stV7 [pQ,pQ]=(stT,0):=by
 unfold allP;rw [zsb,zP rfl];unfold allP;rw [ybe,zP rfl]
 rfl
theorem ybu:zic stV7 []=stV7:=by kernel_rfl
theorem ybf:za0 [] [] = []:=by kernel_rfl
theorem ybv:zie [] stV7 pQ=([],stT,0):=by
 unfold zie;rw [zsb,zP rfl]
 rfl
theorem ybw:atE stT.entries kN=eNt:=by kernel_rfl
theorem ybx:zas eNt.key=1:=by kernel_rfl
theorem yby:zb7 eNt.counts=2:=by kernel_rfl
theorem ybz:za4 stT.entries kS=some eSt:=by kernel_rfl
theorem zsc:mayP pQ=true:=by kernel_rfl
theorem yb0:zc3 stV7.all pQ=true:=by kernel_rfl
theorem yb1:zc3 stT.all pQ=false:=by kernel_rfl
theorem zif {s:State} (h:(decide (s.all.length<=10) && (decide (s.entries.length<=10) && (decide (s.pruned.length<=10) && s.entries.all fun e=>decide (e.seen.length<=10) && (decide (e.counts.length<=10) && (decide (e.items.length<=10) && ((e.items.all fun it=>decide (it.2.length<=10)) && decide ((zab e.items).length<=10)))))))=true):LimS 10 s:=by
 simp only [Qd,decide_eq_true_eq,Yd] at h;obtain⟨h1,h2,h3,h4⟩:=h
 exact⟨h1,h2,h3,fun e he=>by obtain⟨a,b,c,d,f⟩:=h4 e he;exact⟨a,b,c,d,f⟩⟩
theorem lim_st0:LimS 10 st0:=zif (by kernel_rfl)
theorem lim_stP:LimS 10 stP:=zif (by kernel_rfl)
theorem lim_stQ:LimS 10 stQ:=zif (by kernel_rfl)
theorem lim_stR:LimS 10 stV7:=zif (by kernel_rfl)
theorem lim_stT:LimS 10 stT:=zif (by kernel_rfl)
end
section
open Go.RowKit
structure OthersE (p:PrD) (x y:Entry):Prop where
 key:y.key=x.key
 same:ofM x.seen p.1=0->y=x
 value:zb7 y.counts=zb7 x.counts
 texts:zdo y.items=zdo x.items
 cell:y.cell=x.cell
 seen:ofM y.seen p.1=0
 counts:∀ c ∈ y.counts,c.1 ≠ p.1
 items:∀ it ∈ y.items,∀ d ∈ it.2,d.1 ≠ p.1
theorem zqg {e:Entry} (h:mayE e=true):zas e.key=1 ∨ zas e.key=2 ∨ zas e.key=3:=by
 unfold mayE at h;simp only [Qd] at h;obtain⟨-,-,h3⟩:=h
 by_cases h1:zas e.key=1
 ·exact .inl h1
 ·rw [zN h1] at h3
  by_cases h2:zas e.key=2
  ·exact .inr (.inl h2)
  ·rw [zN h2] at h3
   by_cases h4:zas e.key=3
   ·exact .inr (.inr h4)
   ·rw [zN h4] at h3;cases h3
structure CleanE (e:Entry):Prop where
 counts:GoodC e.counts
 items:GoodB e.items
 count:∀ c ∈ e.counts,c.1 ≠ []->ofM e.seen c.1 ≠ 0
 dot:∀ q ∈ zab e.items,ofM e.seen q.2.1 ≠ 0
theorem zj0:GoodC []:=⟨.nil,by simp⟩
theorem zvw {e:Entry} (h:mayE e=true):CleanE e:=by
 have hp:=zrh h;rcases zqg h with hk | hk | hk
 ·obtain⟨h1,h2,h3⟩:=hp.one hk
  have h4:GoodC e.counts:=by unfold mayE at h;simp only [Qd] at h;obtain⟨-,-,h3⟩:=h;rw [zP hk] at h3;simp only [may1,Qd] at h3;exact mayL_iff.1 h3.1
  exact⟨h4,h1 ▸ zjw,fun c hc h0=>(h3 c hc).resolve_left h0,fun q hq=>by rw [h1] at hq;simp [zab] at hq⟩
 ·obtain⟨h1,h2,h3,h4⟩:=hp.two hk;refine ⟨h3 ▸ zj0,h1,fun c hc=>(by rw [h3] at hc;cases hc),fun q hq h0=>?_⟩;have hd:q.2 ∈ zcx e.items:=by rw [zcn];exact Qg.2 ⟨q,hq,rfl⟩
  have:=h2 _ hd;unfold hasM at this;simp only [Qd,decide_eq_true_eq] at this;omega
 ·obtain⟨h1,h2⟩:=hp.three hk;exact⟨h1 ▸ zj0,h2 ▸ zjw,fun c hc=>(by rw [h1] at hc;cases hc),fun q hq=>(by rw [h2] at hq;simp [zab] at hq)⟩
theorem zvx {l:List Item} {s:Str} (h:∀ q ∈ zab l,q.2.1 ≠ s):∀ it ∈ l,∀ d ∈ it.2,d.1 ≠ s:=fun it hit d hd=>h (it.1,d) (ze4 hit hd)
theorem zse {p:PrD} {x:Entry} (hp:mayP p=true) (hx:mayE x=true) (hb:∀ c ∈ x.counts,c.2.1 < 18446744073709551616/\c.2.2 < 18446744073709551616):OthersE p x (zaq p x):=by
 have hp':=hp;simp only [mayP,Qd,Yy,decide_eq_true_eq,beq_eq_false_iff_ne] at hp';obtain⟨h1,h2,h3,-,-⟩:=hp';have h1':p.1 ≠ []:=by simpa using h1
 have hc:=zvw hx;have hne:p.2.2.1 ≠ p.1:=Ne.symm h3;refine ⟨rfl,fun h0=>?_,ztf _ h1',ztg _ _,rfl,?_,fun c hc=>zon h1' hc,zvx fun q hq=>?_⟩
 ·have e1:zbc x.counts p.1=x.counts:=zk7 h1' hc.counts hb fun c hm e=>hc.count c hm (by rw [e];exact h1') (by rw [e];exact h0)
  have e2:zcr x.items p=x.items:=zk9 hc.items.rise fun q hq e=>hc.dot q hq (by rw [e];exact h0)
  unfold zaq;rw [zN (by omega),e1,e2]
 ·unfold zaq;simp only
  split
  ·rw [zho,zN h3,zcs,zP rfl]
  ·omega
 ·obtain⟨y,hy,rfl⟩:=turnB_mem.1 hq;exact zvq hne y
structure PrOk (p:PrD):Prop where
 by_:p.1 ≠ []
 own:p.2.2.1 ≠ []
 ne:p.1 ≠ p.2.2.1
 le:p.2.2.2+p.2.1<=281474976710656
theorem prOk_iff {p:PrD}:mayP p=true↔PrOk p:=by
 simp only [mayP,Qd,Yy,decide_eq_true_eq,beq_eq_false_iff_ne]
 constructor
 ·rintro⟨h1,h2,h3,h4,h5⟩;exact⟨by simpa using h1,by simpa using h2,h3,by omega⟩
 ·rintro⟨h1,h2,h3,h4⟩;exact⟨by simpa using h1,by simpa using h2,h3,by omega,by omega⟩
def topP (l:List Mark) (p:PrD) (t:Str):Nat:=if t=p.1 then 0 else if t=p.2.2.1/\0 < ofM l p.1 then max (ofM l t) (p.2.2.2+p.2.1) else ofM l t
theorem zc4 {p:PrD} (h:PrOk p) (x:Entry) (t:Str):ofM (zaq p x).seen t=topP x.seen p t:=by
 have hn:=h.ne;have ho:=h.own;unfold zaq topP;simp only
 by_cases h0:0 < ofM x.seen p.1
 ·rw [zP h0,zho,zcs]
  by_cases h1:t=p.2.2.1
  ·subst h1;rw [zP rfl,zN ho,zN (Ne.symm hn),zP ⟨rfl,h0⟩]
  ·rw [zN h1,zN (c:=t=p.2.2.1/\_) fun k=>h1 k.1]
 ·rw [zN h0,zN (c:=t=p.2.2.1/\_) fun k=>h0 k.2]
  by_cases h1:t=p.1
  ·subst h1;rw [zP rfl];omega
  ·rw [zN h1]
theorem zez {p:PrD} {x:Entry} (h:GoodM x.seen):GoodM (zaq p x).seen:=by
 unfold zaq;simp only
 split
 ·exact zft _ _ _
 ·exact h
theorem yc4 {p:PrD} (h:p.1 ≠ []):zaq p zak=zak:=by
 have e1:zbc [] p.1 = []:=zk7 h zj0 (by simp) (by simp);have e2:zcr [] p = []:=zk9 zp9 (by simp [zab]);unfold zaq zak;simp only [zff,Nat.lt_irrefl,if_false,e1,e2]
def zfc (p:PrD) (d:Dot):Dot:=if d.1=p.1 then (p.2.2.1,addU p.2.2.2 d.2) else d
theorem zjm (p:PrD) (q:zan):zci p q=(q.1,zfc p q.2):=by
 unfold zci zfc
 split <;> rfl
structure DotOk (p:PrD) (d:Dot):Prop where
 by_:d.1=p.1->1<=d.2/\d.2<=p.2.1
 own:d.1=p.2.2.1->d.2<=p.2.2.2 ∨ p.2.2.2+p.2.1 < d.2
theorem zgn {p:PrD} (hp:PrOk p) {d:Dot} (h:DotOk p d) (he:d.1=p.1):zfc p d=(p.2.2.1,p.2.2.2+d.2):=by
 have h1:=h.by_ he;have h2:=hp.le;unfold zfc addU;rw [zP he,Nat.mod_eq_of_lt (by omega)]
theorem zgo {p:PrD} {d:Dot} (he:d.1 ≠ p.1):zfc p d=d:=zN he
theorem zyn {p:PrD} (hp:PrOk p) {d e:Dot} (hd:DotOk p d) (he:DotOk p e) (h:zfc p d=zfc p e):d=e:=by
 by_cases h1:d.1=p.1 <;> by_cases h2:e.1=p.1
 ·rw [zgn hp hd h1,zgn hp he h2] at h;injection h with _ h
  exact Prod.ext (h1.trans h2.symm) (by omega)
 ·rw [zgn hp hd h1,zgo h2] at h;have a1:=hd.by_ h1;have a2:=he.own (by rw [<- h]);rw [<- h] at a2;simp only at a2;omega
 ·rw [zgo h1,zgn hp he h2] at h;have a1:=he.by_ h2;have a2:=hd.own (by rw [h]);rw [h] at a2;simp only at a2;omega
 ·rwa [zgo h1,zgo h2] at h
theorem ydq {p:PrD} (hp:PrOk p) {a b:zan} (ha:DotOk p a.2) (hb:DotOk p b.2) (h:zci p a=zci p b):a=b:=by
 rw [zjm,zjm] at h;injection h with h1 h2
 exact Prod.ext h1 (zyn hp ha hb h2)
theorem yat {p:PrD} (hp:PrOk p) {d:Dot} (h:DotOk p d) (hd:OkD d):OkD (zfc p d):=by
 by_cases h1:d.1=p.1
 ·have a1:=h.by_ h1;have a2:=hp.le;rw [zgn hp h h1];exact⟨hp.own,show 1<=p.2.2.2+d.2 by omega,show p.2.2.2+d.2<=281474976710656 by omega⟩
 ·rw [zgo h1];exact hd
theorem zvy {p:PrD} (hp:PrOk p) {l:List Item} (hl:GoodB l) (h:∀ q ∈ zab l,DotOk p q.2):GoodB (zcr l p):=by
 have hn:(((zab l).map (zci p)).map (·.2)).Nodup:=by
  have h1:=hl.2.2.2;rw [zcn] at h1;unfold List.Nodup at h1 ⊢;rw [Ya,Ya];rw [Ya] at h1;refine h1.imp_of_mem fun {a b} ha hb hab e=>hab ?_
  rw [zjm,zjm] at e;exact zyn hp (h a ha) (h b hb) e
 have hn2:((zab l).map (zci p)).Nodup:=by unfold List.Nodup at hn ⊢;rw [Ya] at hn;exact hn.imp fun hab e=>hab (by rw [e])
 unfold zcr;rw [zlx hl.nodup,zlx hn2];refine zh0 hn (fun q hq=>?_) fun q hq=>?_
 ·obtain⟨x,hx,rfl⟩:=Qg.1 hq;rw [zjm];exact yat hp (h x hx) (zc2 hl hx).1
 ·obtain⟨x,hx,rfl⟩:=Qg.1 hq;rw [zjm];exact (zc2 hl hx).2.1
theorem zqh {p:PrD} (hp:PrOk p) {x:Entry} {d:Dot} (hd:DotOk p d) (h:hasM x.seen d=true):hasM (zaq p x).seen (zfc p d)=true:=by
 unfold hasM at h ⊢;simp only [Qd,decide_eq_true_eq] at h ⊢;rw [zc4 hp];unfold topP
 by_cases h1:d.1=p.1
 ·have a1:=hd.by_ h1;rw [zgn hp hd h1];rw [h1] at h
  show 1<=p.2.2.2+d.2/\p.2.2.2+d.2<=if p.2.2.1=p.1 then 0 else if p.2.2.1=p.2.2.1/\0 < ofM x.seen p.1 then max (ofM x.seen p.2.2.1) (p.2.2.2+p.2.1) else ofM x.seen p.2.2.1
  rw [zN (Ne.symm hp.ne),zP ⟨rfl,by omega⟩];omega
 ·rw [zgo h1,zN h1]
  split <;> omega
theorem ydb {p:PrD} (hp:PrOk p) {x:Entry} {d:Dot} (hd:DotOk p d) (h:d.1=p.1 ∨ (d.1=p.2.2.1/\d.2<=p.2.2.2)->hasM x.seen d=true):hasM (zaq p x).seen (zfc p d)=hasM x.seen d:=by
 by_cases h0:d.1=p.1 ∨ (d.1=p.2.2.1/\d.2<=p.2.2.2)
 ·rw [h h0];exact zqh hp hd (h h0)
 ·have h1:d.1 ≠ p.1:=fun e=>h0 (.inl e)
  rw [zgo h1];unfold hasM;rw [zc4 hp];unfold topP;rw [zN h1]
  by_cases h2:d.1=p.2.2.1/\0 < ofM x.seen p.1
  ·rw [zP h2];have h3:=hd.own h2.1;have h4:¬ d.2<=p.2.2.2:=fun k=>h0 (.inr ⟨h2.1,k⟩)
   rw [Bool.eq_iff_iff];simp only [Qd,decide_eq_true_eq];omega
  ·rw [zN h2]
structure TurnOk (p:PrD) (x:Entry):Prop where
 seen:GoodM x.seen
 cnt:GoodC x.counts
 most:∀ c ∈ x.counts,c.2.1 < 18446744073709551616/\c.2.2 < 18446744073709551616
 its:GoodB x.items
 has:∀ q ∈ zab x.items,hasM x.seen q.2=true
 of:ofM x.seen p.1<=p.2.1
 own:∀ q ∈ zab x.items,q.2.1=p.2.2.1->q.2.2<=p.2.2.2 ∨ p.2.2.2+p.2.1 < q.2.2
theorem TurnOk.dot {p:PrD} {x:Entry} (h:TurnOk p x) {q:zan} (hq:q ∈ zab x.items):DotOk p q.2 :=
 ⟨fun e=>by have h1:=h.has q hq;have h2:=h.of;unfold hasM at h1;simp only [Qd,decide_eq_true_eq] at h1;rw [e] at h1;omega,h.own q hq⟩
theorem TurnOk.items {p:PrD} (hp:PrOk p) {x:Entry} (h:TurnOk p x):GoodB (zaq p x).items:=zvy hp h.its fun _ hq=>h.dot hq
theorem turn_place {p:PrD} {x:Entry} {q:zan}:q ∈ zab (zaq p x).items↔∃ y ∈ zab x.items,(y.1,zfc p y.2)=q:=by
 show q ∈ zab (zcr x.items p)↔_
 rw [turnB_mem];simp only [zjm]
theorem zvz {l:List zag} {s:Str} (h:∀ c ∈ l,c.2.1 < 18446744073709551616/\c.2.2 < 18446744073709551616) (hs:s ≠ []):∀ c ∈ zbc l s,c.2.1 < 18446744073709551616/\c.2.2 < 18446744073709551616:=fun c hc=>by
 have hp:∀ k,zbr l k < 18446744073709551616:=fun k=>Qy (plusC_le.2 fun c hc _=>Qz (h c hc).1)
 have hm:∀ k,zbf l k < 18446744073709551616:=fun k=>Qy (minusC_le.2 fun c hc _=>Qz (h c hc).2)
 have a:=plusC_le.1 (Yb (zbr (zbc l s) c.1)) c hc rfl;have b:=minusC_le.1 (Yb (zbf (zbc l s) c.1)) c hc rfl;rw [(zbk l hs c.1).1] at a;rw [(zbk l hs c.1).2] at b;have:=hp c.1;have:=hm c.1;unfold addU at a b
 constructor
 ·split at a
  ·omega
  ·split at a <;> omega
 ·split at b
  ·omega
  ·split at b <;> omega
theorem zyo {p:PrD} (hp:PrOk p) {x:Entry} (h:TurnOk p x) (hm:mayE x=true) (hl:x.seen.length<=511):mayE (zaq p x)=true:=by
 have hG:=zez (p:=p) h.seen;have hS:=zc4 hp x;have hP:=zrh hm;have hle:=hp.le;have hof:=h.of
 have hxl:x.seen.length ≠ 0:=by intro e;unfold mayE at hm;simp [e] at hm
 have hle2:∀ t,ofM x.seen t<=281474976710656:=fun t=>ofM_le.2 fun m hm _ _=>hP.most m hm
 have h1:mayM (zaq p x).seen=true:=by
  refine mayM_iff.2 ⟨?_,hG,fun m hm=>?_⟩
  ·have:=zd3 hG (ps:=p.2.2.1 :: x.seen.map (·.1)) fun t ht=>by
    rw [hS] at ht;unfold topP at ht
    by_cases h1:t=p.1
    ·rw [zP h1] at ht;exact absurd rfl ht
    ·rw [zN h1] at ht
     by_cases h2:t=p.2.2.1
     ·simp [h2]
     ·rw [zN fun k=>h2 k.1] at ht;obtain⟨m,hm,e,-⟩:=ziz ht;exact Qr _ (Qg.2 ⟨m,hm,e⟩)
   simp only [Qp,Yn] at this;omega
  ·have h2:=hG.1.of hm (hG.2 m hm).1;rw [hS] at h2;have:=hle2 m.1;unfold topP at h2
   split at h2
   ·omega
   ·split at h2 <;> omega
 have h2:(zaq p x).seen.length ≠ 0:=fun e=>by
  have e:=List.length_eq_zero_iff.1 e
  by_cases h0:0 < ofM x.seen p.1
  ·have:=hS p.2.2.1;unfold topP at this;rw [e,zff,zN (Ne.symm hp.ne),zP ⟨rfl,h0⟩] at this;omega
  ·unfold zaq at e;simp only [zN h0] at e;exact hxl (by rw [e];rfl)
 unfold mayE;rw [h1,show (zaq p x).key=x.key from rfl,decide_eq_false h2,Qt,Bool.not_false,Qt];rcases zqg hm with hk | hk | hk
 ·obtain⟨a1,a2,a3⟩:=hP.one hk;rw [zP hk]
  have e1:(zaq p x).items = []:=by
   show zcr x.items p = []
   rw [a1];exact zk9 zp9 (by simp [zab])
  have e2:(zaq p x).cell=zgd:=a2;have e3:mayL (zaq p x).counts=true:=mayL_iff.2 (zhh _ _);simp only [may1,e1,e2,e3,Qt,Yo,decide_true,Yr,zfv];refine Yd.2 fun c hc=>?_
  have hne:=zon hp.by_ hc
  by_cases h0:c.1 = []
  ·simp [h0]
  ·have:ofM (zaq p x).seen c.1 ≠ 0:=by
    have hk2:∃ y ∈ x.counts,y.1=c.1:=by
     have hc2:c ∈ zbc x.counts p.1:=hc;rw [znm _ hp.by_] at hc2;rcases (foldP_key.1 (listL_mem.1 hc2).1).2 with e | e
     ·exact absurd e h0
     ·exact plusOf_key.1 e
    obtain⟨y,hy,e⟩:=hk2;have:=(a3 y hy).resolve_left (by rw [e];exact h0);rw [e] at this;rw [hS];unfold topP;rw [zN hne]
    split <;> omega
   simp [this]
 ·obtain⟨a1,a2,a3,a4⟩:=hP.two hk;rw [zN (by omega),zP hk]
  have e1:(zaq p x).counts = []:=by
   show zbc x.counts p.1 = []
   rw [a3];exact zk7 hp.by_ zj0 (by simp) (by simp)
  have e2:(zaq p x).cell=zgd:=a4;have e3:mayB (zaq p x).items=true:=mayB_iff.2 (h.items hp);simp only [may2,e1,e2,e3,Qt,Yo,decide_true,Yr,zgt];refine Yd.2 fun it hit=>Yd.2 fun d hd=>?_
  obtain⟨y,hy,e⟩:=turn_place.1 (ze4 hit hd);injection e with _ e
  rw [<- e];exact zqh hp (h.dot hy) (h.has y hy)
 ·obtain⟨a1,a2⟩:=hP.three hk;rw [zN (by omega),zN (by omega),zP hk]
  have e1:(zaq p x).counts = []:=by
   show zbc x.counts p.1 = []
   rw [a1];exact zk7 hp.by_ zj0 (by simp) (by simp)
  have e2:(zaq p x).items = []:=by
   show zcr x.items p = []
   rw [a2];exact zk9 zp9 (by simp [zab])
  have e3:mayC x.cell=true:=by unfold mayE at hm;simp only [Qd] at hm;have:=hm.2.2;rw [zN (by omega),zN (by omega),zP hk] at this;simp only [may3,Qd] at this;exact this.1
  have e4:(zaq p x).cell=x.cell:=rfl;simp only [may3,e1,e2,e4,e3,Yo,decide_true,Yr]
end
section
theorem yc5 (b:Entry):zbz zak b=b:=by unfold zbz;rw [zP (sameE_iff.2 rfl)]
theorem yc6 {a:Entry} (h:a.key ≠ []):zbz a zak=a:=by
 unfold zbz;rw [zN (fun e=>h (by rw [sameE_iff.1 e];rfl)),zN (fun e=>h (by rw [e];rfl))]
theorem ydh (l:List Entry) (k:Str):getE l k=zak ∨ (getE l k ∈ l/\(getE l k).key=k):=by
 unfold getE
 cases hf:za4 l k with
 | none=>exact .inl rfl
 | some y=>exact .inr ⟨zjy hf,zpt hf⟩
def dd (o:List Str) (x:Str):List Str:=if o.getLast? = some x then o else o++[x]
theorem ydu (l:List Str):(l.foldl dd []).getLast? = l.getLast?:=by
 induction l using zhq with
 | h0=>rfl
 | h1 l x ih =>
  rw [Yz,Vd,Ve];unfold dd
  split
  ·rename_i h;rw [h];simp
  ·simp
theorem ydi (l:List Str):Lib.compact l=l.foldl dd []:=by
 have key:∀ m,m<=l.length->Lib.compactUpTo l.toArray m=(l.take m).foldl dd []:=by
  intro m
  induction m with
  | zero=>intro _;simp [Lib.compactUpTo]
  | succ m ih =>
   intro hm;have hlt:m < l.length:=(by omega);rw [Lib.compactUpTo_succ,ih (by omega),List.take_succ_eq_append_getElem hlt,Yz,Vd,Ve];have hl:((l.take m).foldl dd []).getLast? = (l.take m).getLast?:=ydu _;have e1:(l.toArray)[m]! = l[m]:=(by rw [getElem!_pos l.toArray m (by simpa using hlt)];simp);unfold dd;rw [e1]
   by_cases h0:m=0
   ·subst h0;rw [zP (by simp [Lib.keeps]),zN (by simp)]
   ·have e2:(l.toArray)[m - 1]! = l[m - 1]:=by rw [getElem!_pos l.toArray (m - 1) (by simp;omega)];simp
    have hg:(l.take m).getLast? = some l[m - 1]:=by rw [List.getLast?_eq_getElem?,Yc,Yl (by omega),List.getElem?_take_of_lt (by omega),Qo (by omega)]
    have hd:((l.take m).foldl dd []).getLast? = some l[m - 1]:=hl.trans hg;rw [show (List.foldl (fun o x=>if o.getLast? = some x then o else o++[x]) [] (l.take m))=(l.take m).foldl dd [] from rfl,hd]
    by_cases h:l[m - 1]=l[m]
    ·rw [zN,zP (by rw [h]),Ym];rw [Lib.keeps_neg (by omega) (by rw [e1,e2,h])];simp
    ·rw [zP,zN (fun k=>h (Option.some.inj k))];exact Lib.keeps_pos (by rw [e1,e2];exact fun k=>h k.symm)
 have:=key l.length (Yb _);rw [Yj] at this;exact this
end
section
open Go.RowKit
structure TurnTwo (p:PrD) (x y:Entry):Prop where
 plus:zbr x.counts p.1=zbr y.counts p.1/\zbr x.counts []=zbr y.counts []
 minus:zbf x.counts p.1=zbf y.counts p.1/\zbf x.counts []=zbf y.counts []
 hasy:∀ q ∈ zab x.items,q.2.1=p.1 ∨ (q.2.1=p.2.2.1/\q.2.2<=p.2.2.2)->hasM y.seen q.2=true
 hasx:∀ q ∈ zab y.items,q.2.1=p.1 ∨ (q.2.1=p.2.2.1/\q.2.2<=p.2.2.2)->hasM x.seen q.2=true
theorem TurnTwo.refl {p:PrD} {x:Entry} (h:TurnOk p x):TurnTwo p x x:=⟨⟨rfl,rfl⟩,⟨rfl,rfl⟩,fun q hq _=>h.has q hq,fun q hq _=>h.has q hq⟩
theorem ydr {a b:Entry} (g1:a.key=b.key) (g2:a.seen=b.seen) (g3:a.counts=b.counts) (g4:a.items=b.items) (g5:a.cell=b.cell):a=b:=by
 cases a;cases b;simp only at g1 g2 g3 g4 g5;simp only [g1,g2,g3,g4,g5]
theorem ydj (a:List Item) (sa:List Mark) (b:List Item) (sb:List Mark):RiseB (ze8 a sa b sb):=zvn (zd9 _ _ (zms _ _ _))
theorem ydc {p:PrD} (hp:PrOk p) {x y:Entry} (hx:TurnOk p x) (hy:TurnOk p y) (hk:x.key=y.key) (h0:x.key ≠ []) (h:TurnTwo p x y):zbz (zaq p x) (zaq p y)=zaq p (zbz x y):=by
 have hJ:∀ {a b:Entry},a.key=b.key->a.key ≠ []->zbz a b=⟨a.key,za0 a.seen b.seen,zef a.counts b.counts,ze8 a.items a.seen b.items b.seen,ze0 a.cell b.cell⟩:=fun {a b} h1 h2=>by unfold zbz;rw [zN fun h=>zp0 h2 (sameE_iff.1 h),zP h1]
 rw [hJ hk h0,hJ (a:=zaq p x) (b:=zaq p y) hk h0];have gx:=zez (p:=p) hx.seen;have gy:=zez (p:=p) hy.seen;have hn:=hp.ne;refine ydr rfl ?_ ?_ ?_ rfl
 ·refine (zcp _ _).ext (zez (zcp _ _)) fun t=>?_
  show ofM (za0 (zaq p x).seen (zaq p y).seen) t=_
  rw [zfs,zc4 hp,zc4 hp,zc4 hp];unfold topP;simp only [zfs]
  by_cases c1:t=p.1
  ·simp only [zP c1];omega
  ·simp only [zN c1]
   by_cases c2:t=p.2.2.1
   ·simp only [c2,true_and]
    repeat' split
    all_goals omega
   ·simp only [c2,false_and,if_false]
 ·refine (zuu _ _).ext (zhh _ _) fun k=>?_
  show zbr (zef (zbc x.counts p.1) (zbc y.counts p.1)) k=zbr (zbc (zef x.counts y.counts) p.1) k/\zbf (zef (zbc x.counts p.1) (zbc y.counts p.1)) k=zbf (zbc (zef x.counts y.counts) p.1) k
  rw [(zpr _ _ k).1,(zpr _ _ k).2];rw [(zbk _ hp.by_ k).1,(zbk _ hp.by_ k).2,(zbk _ hp.by_ k).1,(zbk _ hp.by_ k).2,(zbk _ hp.by_ k).1,(zbk _ hp.by_ k).2];simp only [(zpr _ _ _).1,(zpr _ _ _).2]
  by_cases c1:k=p.1
  ·simp only [zP c1,Nat.max_self,and_self]
  ·simp only [zN c1]
   by_cases c2:k = []
   ·simp only [zP c2,h.plus.1,h.plus.2,h.minus.1,h.minus.2,Nat.max_self,and_self]
   ·simp only [zN c2,and_self]
 ·refine (ydj _ _ _ _).ext (zk8 _ _) fun k=>?_
  show k ∈ zab (ze8 (zaq p x).items (zaq p x).seen (zaq p y).items (zaq p y).seen)↔k ∈ zab (zcr (ze8 x.items x.seen y.items y.seen) p)
  rw [zrn gx gy,turnB_mem];simp only [zrn hx.seen hy.seen]
  have inj:∀ {u v:Entry},TurnOk p u->TurnOk p v->∀ q ∈ zab u.items,(zci p q ∈ zab (zaq p v).items↔q ∈ zab v.items):=fun {u v} hu hv q hq=>by
   rw [turn_place]
   constructor
   ·rintro⟨z,hz,e⟩;rw [<- zjm] at e;have:=ydq hp (hv.dot hz) (hu.dot hq) e;rw [<- this];exact hz
   ·intro hz;exact⟨q,hz,(zjm p q).symm⟩
  have side:∀ {u v:Entry},TurnOk p u->TurnOk p v->(∀ q ∈ zab u.items,q.2.1=p.1 ∨ (q.2.1=p.2.2.1/\q.2.2<=p.2.2.2)->hasM v.seen q.2=true)->∀ q ∈ zab u.items,((zci p q ∈ zab (zaq p v).items ∨ hasM (zaq p v).seen (zci p q).2=false)↔(q ∈ zab v.items ∨ hasM v.seen q.2=false)):=fun {u v} hu hv hh q hq=>by rw [inj hu hv q hq,zjm,ydb hp (hu.dot hq) (hh q hq)]
  have sx:=side hx hy h.hasy;have sy:=side hy hx h.hasx
  constructor
  ·rintro (⟨h1,h2⟩ | ⟨h1,h2⟩)
   ·obtain⟨q,hq,e⟩:=turn_place.1 h1;rw [<- zjm] at e;subst e;exact⟨q,.inl ⟨hq,(sx q hq).1 h2⟩,rfl⟩
   ·obtain⟨q,hq,e⟩:=turn_place.1 h1;rw [<- zjm] at e;subst e;exact⟨q,.inr ⟨hq,(sy q hq).1 h2⟩,rfl⟩
  ·rintro⟨q,⟨h1,h2⟩ | ⟨h1,h2⟩,rfl⟩
   ·exact .inl ⟨turn_place.2 ⟨q,h1,(zjm p q).symm⟩,(sx q h1).2 h2⟩
   ·exact .inr ⟨turn_place.2 ⟨q,h1,(zjm p q).symm⟩,(sy q h1).2 h2⟩
def turnS (p:PrD) (s:State):State:=⟨zau s.all p.1,s.entries.map (zaq p),insP s.pruned p.1⟩
theorem ydk (p:PrD) (l:List Entry) (k:Str):za4 (l.map (zaq p)) k=(za4 l k).map (zaq p):=by
 unfold za4;rw [List.find?_map]
 rfl
theorem yc9 {p:PrD} (h:p.1 ≠ []) (l:List Entry) (k:Str):getE (l.map (zaq p)) k=zaq p (getE l k):=by
 unfold getE;rw [ydk]
 cases za4 l k with
 | none=>exact (yc4 h).symm
 | some x=>rfl
theorem zyp (p:PrD) (l:List Entry):(l.map (zaq p)).map (·.key)=l.map (·.key):=by
 rw [Yt]
 rfl
theorem yde {p:PrD} (hp:PrOk p) {a b:List Entry} (ha:∀ x ∈ a,TurnOk p x/\x.key ≠ []) (hb:∀ x ∈ b,TurnOk p x/\x.key ≠ []) (h:∀ x ∈ a,∀ y ∈ b,x.key=y.key->TurnTwo p x y):zhd (a.map (zaq p)) (b.map (zaq p))=(zhd a b).map (zaq p):=by
 unfold zhd zb8;rw [zyp,zyp,Yt];refine Qu fun k _=>?_
 show zbz (getE (a.map (zaq p)) k) (getE (b.map (zaq p)) k)=zaq p (zbz (getE a k) (getE b k))
 rw [yc9 hp.by_,yc9 hp.by_];rcases ydh a k with e1 | ⟨m1,k1⟩
 ·rw [e1,yc4 hp.by_,yc5,yc5]
 ·rcases ydh b k with e2 | ⟨m2,k2⟩
  ·rw [e2,yc4 hp.by_,yc6 (ha _ m1).2,yc6 (a:=zaq p (getE a k)) (ha _ m1).2]
  ·exact ydc hp (ha _ m1).1 (hb _ m2).1 (k1.trans k2.symm) (ha _ m1).2 (h _ m1 _ m2 (k1.trans k2.symm))
theorem ydl (a b:List Mark) (s:Str):za0 (zau a s) (zau b s)=zau (za0 a b) s:=(zcp _ _).ext (ze7 _ _) fun t=>by
 rw [zfs,zcs,zcs,zcs,zfs]
 split <;> omega
theorem ydf (s:Str):Lib.compact (zbw ([s]++[s])) = [s]:=by
 have h:zbw ([s]++[s]) = [s,s]:=List.mergeSort_of_pairwise (by simp [Yx,leS]);rw [h,ydi];simp [dd]
theorem yc7 {p:PrD} (hp:PrOk p) {a b:State} (ha:∀ x ∈ a.entries,TurnOk p x/\x.key ≠ []) (hb:∀ x ∈ b.entries,TurnOk p x/\x.key ≠ []) (h:∀ x ∈ a.entries,∀ y ∈ b.entries,x.key=y.key->TurnTwo p x y) (pa:a.pruned = []) (pb:b.pruned = []):zb9 (turnS p a) (turnS p b)=turnS p (zb9 a b):=by
 unfold zb9 turnS;simp only [pa,pb];rw [yde hp ha hb h,ydl,zm3,show insP [] p.1 = [p.1] from rfl,ydf]
structure TurnS (p:PrD) (s:State):Prop where
 may:mayS s=true
 each:∀ x ∈ s.entries,TurnOk p x/\x.key ≠ []/\x.seen.length<=511
 new:p.1 ∉ s.pruned
 ready:ofM s.all p.1 ≠ 0->zc3 s.all p=true
theorem zv1 {p:PrD} (hp:PrOk p) {x:Entry} (hx:mayE x=true) (h:TurnOk p x) (h0:ofM x.seen p.1=0):zaq p x=x:=(zse (prOk_iff.2 hp) hx h.most).same h0
theorem TurnS.prune {p:PrD} (hp:PrOk p) {s:State} (h:TurnS p s):zbh s p=(turnS p s,0):=by
 have hM:=mayS_iff.1 h.may;have hg:GoodM s.all:=(mayM_iff.1 hM.all).2.1;unfold zbh;rw [h.may,prOk_iff.2 hp,Qt,zP rfl,zN h.new]
 by_cases h0:0 < ofM s.all p.1
 ·rw [zP h0,zP (h.ready (by omega))]
  rfl
 ·rw [zN h0]
  have e1:s.all=zau s.all p.1:=hg.ext (ze7 _ _) fun t=>by
   rw [zcs]
   split
   ·rename_i e;rw [e];omega
   ·rfl
  have e2:s.entries.map (zaq p)=s.entries:=by refine (Qu fun x hx=>?_).trans (List.map_id _);have hc:=coversM_iff.1 (hM.each x hx).2 p.1;exact zv1 hp (hM.each x hx).1 (h.each x hx).1 (by omega)
  unfold turnS;rw [e2,<- e1]
theorem zsf {l:List Str} {s t:Str} (h:s ∉ l):t ∈ insP l s↔t=s ∨ t ∈ l:=by
 unfold insP;simp only [Vc,Qi,Yf]
 constructor
 ·rintro (h | h | h)
  ·exact .inr h.1
  ·exact .inl h
  ·exact .inr h.1
 ·rintro (h1 | h1)
  ·exact .inr (.inl h1)
  ·rcases zcj t s with h2 | h2 | h2
   ·exact .inl ⟨h1,h2⟩
   ·exact absurd (h2 ▸ h1) h
   ·exact .inr (.inr ⟨h1,h2⟩)
theorem zyq {l:List Str} (h:RiseS l) (s:Str):RiseS (insP l s):=by
 unfold insP RiseS at *;refine List.pairwise_append.2 ⟨h.filter _,Yx.2 ⟨fun x hx=>?_,h.filter _⟩,fun a ha b hb=>?_⟩
 ·simpa using (Qi.1 hx).2
 ·have h1:ltS a s=true:=by simpa using (Qi.1 ha).2
  rcases Yf.1 hb with rfl | hb
  ·exact h1
  ·exact zay h1 (by simpa using (Qi.1 hb).2)
theorem ybh {p:PrD} {a b:List Mark} (h:∀ t,ofM a t<=ofM b t) (hr:ofM b p.1 ≠ 0->zc3 b p=true) (t:Str):topP a p t<=if t=p.1 then 0 else ofM b t:=by
 unfold topP
 split
 ·exact Yb _
 ·split
  ·rename_i h1 h2;have h3:=h p.1;have h4:=hr (by omega);unfold zc3 at h4;simp only [Qd,decide_eq_true_eq] at h4;have:=h t;rw [h2.1] at this ⊢;omega
  ·exact h t
theorem TurnS.may_turn {p:PrD} (hp:PrOk p) {s:State} (h:TurnS p s):mayS (turnS p s)=true:=by
 have hM:=mayS_iff.1 h.may;obtain⟨m1,m2,m3⟩:=mayM_iff.1 hM.all;refine mayS_iff.2 ⟨mayM_iff.2 ⟨?_,ze7 _ _,fun m hm=>?_⟩,fun x hx=>?_,?_,fun t ht=>?_,zyq hM.risep _⟩
 ·have:=zd3 (ze7 s.all p.1) (ps:=s.all.map (·.1)) fun t ht=>by
   rw [zcs] at ht
   by_cases h1:t=p.1
   ·rw [zP h1] at ht;exact absurd rfl ht
   ·rw [zN h1] at ht;obtain⟨m,hm,e,-⟩:=ziz ht;exact Qg.2 ⟨m,hm,e⟩
  simp only [Yn] at this;exact Qc this m1
 ·have h1:=(ze7 s.all p.1).1.of hm ((ze7 s.all p.1).2 m hm).1;rw [zcs] at h1;have h2:ofM s.all m.1<=281474976710656:=ofM_le.2 fun x hx _ _=>m3 x hx
  split at h1 <;> omega
 ·obtain⟨y,hy,rfl⟩:=Qg.1 (show x ∈ s.entries.map (zaq p) from hx);obtain⟨k1,k2,k3⟩:=h.each y hy;refine ⟨zyo hp k1 (hM.each y hy).1 k3,coversM_iff.2 fun t=>?_⟩
  show ofM (zaq p y).seen t<=ofM (zau s.all p.1) t
  rw [zc4 hp,zcs];exact ybh (coversM_iff.1 (hM.each y hy).2) h.ready t
 ·show RiseS ((s.entries.map (zaq p)).map (·.key))
  rw [zyp];exact hM.rise
 ·show t ≠ []/\ofM (zau s.all p.1) t=0
  rw [zcs];rcases (zsf h.new).1 (show t ∈ insP s.pruned p.1 from ht) with rfl | ht
  ·exact⟨hp.by_,zP rfl⟩
  ·have:=hM.pruned t ht;refine ⟨this.1,?_⟩
   split
   ·rfl
   ·exact this.2
theorem TurnS.again {p:PrD} (hp:PrOk p) {s:State} (h:TurnS p s):zbh (turnS p s) p=(turnS p s,0):=by
 unfold zbh;rw [h.may_turn hp,prOk_iff.2 hp,Qt,zP rfl,zP (show p.1 ∈ (turnS p s).pruned from (zsf h.new).2 (.inl rfl))]
theorem IsE.turnOk {E:List Ev} (H:HistOk E) {pr:List Str} {s:State} (hs:IsS E pr s) {p:PrD} (hof:ofM s.all p.1<=p.2.1) (hown:∀ e ∈ E,zao (vecS s) e=true->e.path=p.2.2.1->e.num<=p.2.2.2 ∨ p.2.2.2+p.2.1 < e.num) {x:Entry} {k:Str} (hx:IsE E (vecS s) k x):TurnOk p x where
 seen:=hx.seenG
 cnt:=hx.cntG
 most c hc:=by
  have h1:=plusC_le.1 (Yb (zbr x.counts c.1)) c hc rfl;have h2:=minusC_le.1 (Yb (zbf x.counts c.1)) c hc rfl;rw [hx.plus] at h1;rw [hx.minus] at h2
  have h3:=zis H (f:=upK (vecS s) k c.1) fun e he=>by
   unfold upK
   split
   ·exact (zke (H.ok e he).lo (H.ok e he).hi).1
   ·omega
  have h4:=zis H (f:=zb1 (vecS s) k c.1) fun e he=>by
   unfold zb1
   split
   ·exact (zke (H.ok e he).lo (H.ok e he).hi).2
   ·omega
  omega
 its:=hx.itG
 has q hq:=by obtain⟨i,e,h1,h2,h3,-,rfl,-⟩:=(hx.items q).1 hq;exact (hx.hasM H.toHist h1 h3).2 h2
 of:=Qc (zhr hs hx p.1) hof
 own q hq he:=by obtain⟨i,e,h1,h2,-,-,rfl,-⟩:=(hx.items q).1 hq;exact hown e (Ql h1) h2 he
theorem zqt {p:PrD} (hp:PrOk p) {x:Entry} (h:GoodM x.seen):(zaq p x).seen.length<=x.seen.length+1:=by
 have:=zd3 (zez (p:=p) h) (ps:=p.2.2.1 :: x.seen.map (·.1)) fun t ht=>by
  rw [zc4 hp] at ht;unfold topP at ht
  by_cases h1:t=p.1
  ·rw [zP h1] at ht;exact absurd rfl ht
  ·rw [zN h1] at ht
   by_cases h2:t=p.2.2.1
   ·simp [h2]
   ·rw [zN fun k=>h2 k.1] at ht;obtain⟨m,hm,e,-⟩:=ziz ht;exact Qr _ (Qg.2 ⟨m,hm,e⟩)
 simpa using this
theorem IsS.turnS {E:List Ev} (H:HistOk E) {ps:List Str} {s:State} (hs:IsS E [] s) (hv:VecOk ps s) {p:PrD} (hof:ofM s.all p.1=p.2.1) (hr:p.2.2.2+p.2.1<=ofM s.all p.2.2.1) (hown:∀ e ∈ E,zao (vecS s) e=true->e.path=p.2.2.1->e.num<=p.2.2.2 ∨ p.2.2.2+p.2.1 < e.num):TurnS p s where
 may:=hs.may H hv (by simp) .nil
 each x hx:=by
  obtain⟨h1,h2⟩:=hs.each x hx;refine ⟨h1.turnOk H hs (Nat.le_of_eq hof) hown,h2,?_⟩;have:=zd3 h1.seenG (ps:=ps) fun t ht=>hv.paths t (by have:=zhr hs h1 t;omega)
  have:=hv.few;omega
 new:=by rw [hs.pruned];simp
 ready _:=by
  unfold zc3;rw [decide_eq_true hof,decide_eq_true hr]
  rfl
theorem yau {V V':Vec} {p:Str} (h1:∀ t,t ≠ p->V' t=V t) (h2:V p<=V' p) {E:List Ev} (hall:∀ e ∈ E,e.path=p->zao V e=true) {e:Ev} (he:e ∈ E):zao V' e=zao V e:=by
 by_cases hp:e.path=p
 ·have h3:=hall e he hp;rw [h3];unfold zao at h3 ⊢;simp only [decide_eq_true_eq] at h3 ⊢;rw [hp] at h3 ⊢;omega
 ·unfold zao;rw [h1 _ hp]
theorem IsS.up {E:List Ev} {pr:List Str} {s:State} (hs:IsS E pr s) {p:Str} {n:Nat} (hp:p ≠ []) (hn:ofM s.all p<=n) (hall:∀ e ∈ E,e.path=p->zao (vecS s) e=true):IsS E pr { s with all:=setM s.all p n }:=by
 have hv:∀ t,vecS { s with all:=setM s.all p n } t=if t=p then n else vecS s t:=fun t=>by
  show ofM (setM s.all p n) t=_
  rw [zho,zN hp]
 have hk:∀ e ∈ E,zao (vecS { s with all:=setM s.all p n }) e=zao (vecS s) e:=fun e he=>yau (p:=p) (fun t ht=>by rw [hv,zN ht]) (by rw [hv,zP rfl];exact hn) hall he
 refine ⟨zft _ _ _,hs.pruned,hs.rise,fun x hx=>?_,fun k=>?_,fun i j a b h1 h2 h3 h4=>?_⟩
 ·obtain⟨h1,h2⟩:=hs.each x hx;exact⟨h1.congr fun e he _=>(hk e he).symm,h2⟩
 ·rw [hs.has k]
  constructor
  ·rintro⟨e,he,h1,h2⟩;exact⟨e,he,by rw [hk e he];exact h1,h2⟩
  ·rintro⟨e,he,h1,h2⟩;exact⟨e,he,by rw [<- hk e he];exact h1,h2⟩
 ·rw [hk b (Ql h2)] at h3;rw [hk a (Ql h1)];exact hs.closed i j a b h1 h2 h3 h4
theorem zys {k n:Nat} (h:k < n):zac k ∈ zf9 n:=Qg.2 ⟨k,List.mem_range.2 h,rfl⟩
end
end Go.Proofs.YtaabaflgeljbjaaGreat
