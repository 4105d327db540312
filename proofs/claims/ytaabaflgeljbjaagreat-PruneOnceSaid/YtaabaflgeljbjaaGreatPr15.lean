/- Laws. -/
import Derived.Test.YtaabaflgeljbjaaGreatPr14
import Derived.Test.YtaabaflgeljbjaaGreatPr07
import Derived.Test.YtaabaflgeljbjaaGreatPr12
set_option linter.unusedVariables false
set_option linter.unusedSimpArgs false
set_option maxRecDepth 100000
set_option maxHeartbeats 40000000
namespace Go.Proofs.YtaabaflgeljbjaaGreat
section
open Go.RowKit Go.Shelf
attribute [local go_sem] Oper.semAt_some
abbrev Pair:=Str × Nat × Nat
def zg2 (p:Pair):Value:=.agg #[St p.1,U p.2.1,U p.2.2]
def za3:List Mark->List Mark->List Pair
 | [],[]=>[]
 | a :: r,[]=>(a.1,a.2,0) :: za3 r []
 | [],b :: s=>(b.1,0,b.2) :: za3 [] s
 | a :: r,b :: s =>
  if a.1 == b.1 then (b.1,a.2,b.2) :: za3 r s
  else if ltS a.1 b.1 then (a.1,a.2,0) :: za3 r (b :: s)
  else (b.1,0,b.2) :: za3 (a :: r) s
termination_by a b=>a.length+b.length
theorem zgq {w wr:World} {S:Nat->Prop} {A:Option Addr} {n c N:Nat} {l pre post:List Mark} {m:Mark} (h:Sl markT w S (.slice A n c) l) (hn:∀ b,S b->b < w.heap.size->b < N) (hb:KpS S N w wr) (hl:l=pre++m :: post) :
  ∃ b o,A=some ⟨b,o,none⟩/\wr.cell? ⟨b,o+pre.length * 2,none⟩=some (St m.1)/\wr.cell? ⟨b,o+pre.length * 2+1,none⟩=some (U m.2):=by
 obtain⟨b,o,vs,c',hv,hS,rfl,hc⟩:=h.at_ hl;injection hv with e1 e2 e3
 subst e1;have h0:=hc 0 _ rfl;have h1:=hc 1 _ rfl;have hbl:b < w.heap.size:=zae h0;exact⟨b,o,rfl,(World.cell?_of_block (a:=⟨b,_,none⟩) (hb.2 b hS (hn b hS hbl))).trans h0,(World.cell?_of_block (a:=⟨b,_,none⟩) (hb.2 b hS (hn b hS hbl))).trans h1⟩
theorem zds {w wr:World} {S:Nat->Prop} {b o N:Nat} {v:Value} (h:w.cell? ⟨b,o,none⟩=some v) (hS:S b) (hn:b < N) (hb:KpS S N w wr):wr.cell? ⟨b,o,none⟩=some v :=
 (World.cell?_of_block (a:=⟨b,o,none⟩) (hb.2 b hS hn)).trans h
theorem zfm (a:Mark) (r:List Mark):za3 (a :: r) []=(a.1,a.2,0) :: za3 r []:=by rw [za3]
theorem zfn (b:Mark) (s:List Mark):za3 [] (b :: s)=(b.1,0,b.2) :: za3 [] s:=by rw [za3]
theorem zpd {an bn:Nat} (r s:List Mark) (k:Str):za3 ((k,an) :: r) ((k,bn) :: s)=(k,an,bn) :: za3 r s:=by rw [za3];simp
theorem zpe {a b:Mark} (r s:List Mark) (h1:(a.1 == b.1)=false) (h2:ltS a.1 b.1=true):za3 (a :: r) (b :: s)=(a.1,a.2,0) :: za3 r (b :: s):=by rw [za3,if_neg (by simp [h1]),if_pos h2]
theorem zpf {a b:Mark} (r s:List Mark) (h1:(a.1 == b.1)=false) (h2:ltS a.1 b.1=false):za3 (a :: r) (b :: s)=(b.1,0,b.2) :: za3 (a :: r) s:=by rw [za3,if_neg (by simp [h1]),if_neg (by simp [h2])]
theorem zja (wr:World) (t:TypeId):(wr.alloc (.cells #[St [],U 0,U 0] t)).cell? ⟨wr.heap.size,0,none⟩=some (St [])/\(wr.alloc (.cells #[St [],U 0,U 0] t)).cell? ⟨wr.heap.size,1,none⟩=some (U 0) /\
  (wr.alloc (.cells #[St [],U 0,U 0] t)).cell? ⟨wr.heap.size,2,none⟩=some (U 0)/\∀ o,(wr.alloc (.cells #[St [],U 0,U 0] t)).frozen? ⟨wr.heap.size,o,none⟩=false :=
 ⟨by simp [go_sem],by simp [go_sem],by simp [go_sem],fun o=>by unfold World.frozen?;rw [World.alloc_heap_new];rfl⟩
theorem zwo (n l B1 B2 n₀:Nat) {S:Nat->Prop} {va vb:Value} {A B:List Mark} (J Jx:List Pair->World->Prop) (hn:1<=n)
  (W:World) (hJ:AbidesFrom W.heap.size J) (hn₀:n₀<=W.heap.size)
  (hY:∀ pre x W,J pre W->pre.length < (za3 A B).length->YieldAt Fence.wide (n - 1) Tryz.prog l #[zg2 x] W fun e W'=>(e=.returned (.bool true)/\J (pre++[x]) W'/\KpS S n₀ W W') ∨ (e=.returned (.bool false)/\Jx (pre++[x]) W'))
  (h1:W.cell? ⟨B1,0,none⟩=some va) (h2:W.cell? ⟨B2,0,none⟩=some vb) (hS1:S B1/\B1 < n₀) (hS2:S B2/\B2 < n₀) (ha:Sl markT W S va A) (hb:Sl markT W S vb B) (hSn:∀ b,S b->b < W.heap.size->b < n₀) (h0:J [] W) :
  CallsIn Fence.wide n Tryz.prog 126 #[.func (.yield l) #[] #[],.pointer (some ⟨B1,0,none⟩),.pointer (some ⟨B2,0,none⟩)] W fun e W'=>(∃ v,e=.returned v) /\
   ((∃ ys,ys=za3 A B/\J ys W') ∨ (∃ pre,pre <+: za3 A B/\Jx pre W')):=by
 obtain⟨Aa,ca,rfl,ha1,ha2⟩:=ha.form;obtain⟨Ab,cb,rfl,hb1,hb2⟩:=hb.form;refine callsIn_of_wp Tryz.func126 rfl trivial ?_ rfl;simp only [Tryz.ntmps126,List.size_toArray,List.length_cons,List.length_nil,Nat.reduceAdd,Nat.reduceSub,Array.replicate_succ,Array.replicate_zero,List.push_toArray,List.append_toArray,List.nil_append,List.cons_append]
 gi_wp2
 gi_loopw [4,5] (fun i j wr=>∃ preA postA preB postB done,A=preA++postA/\B=preB++postB/\i=I preA.length/\j=I preB.length/\za3 A B=done++za3 postA postB/\J done wr/\KpS S n₀ W wr)
  (fun i j _=>A.length+B.length - (intOf i).toNat - (intOf j).toNat)
 case atStart=>exact⟨[],A,[],B,[],rfl,rfl,rfl,rfl,rfl,h0,KpS.refl _ _ _⟩
 case round =>
  obtain⟨preA,postA,preB,postB,done,hA,hB,rfl,rfl,hp,hJs,hk⟩:=hrel;have c1:=zds h1 hS1.1 hS1.2 hk;have c2:=zds h2 hS2.1 hS2.2 hk
  cases postA with
  | nil =>
   cases postB with
   | nil =>
    rw [List.append_nil] at hA hB;subst hA;subst hB;have HP:=zH hp;clear hp
    gi_wp2
    go_end0
    exact⟨⟨_,rfl⟩,.inl ⟨_,rfl,by rw [HP.out];simpa [za3] using hJs⟩⟩
   | cons b postB =>
    rw [List.append_nil] at hA;subst hA;obtain⟨gb,ob,rfl,db0,db1⟩:=zgq hb hSn hk hB;have hlb:preB.length < B.length:=(by rw [hB];simp);have HB:=zH hB;have HP:=zH hp;have HJ:=zH hJ;have HY:=zH hY;have HK:=zH hk;have HS:=zH hJs;have e1:((A.length:Int) == A.length)=true:=(by simp);have e2:((preB.length:Int) == B.length)=false:=(by rw [beq_eq_false_iff_ne];omega);have hx:=(Ext.refl wr).alloc (.cells #[St [],U 0,U 0] 155);have c1':=hx.cell c1;have c2':=hx.cell c2;have db0':=hx.cell db0;have db1':=hx.cell db1;have hx0:=zja wr 155;have n1:B1 ≠ wr.heap.size:=(by have:=zae c1;omega);have n2:B2 ≠ wr.heap.size:=(by have:=zae c2;omega);have n4:gb ≠ wr.heap.size:=(by have:=zae db0;omega);clear hp hJ hY hk hJs hb ha hB
    gi_wp2
    generalize wr.alloc (.cells #[St [],U 0,U 0] 155)=W1 at *
    gi_quiet (fail)
    gi_wp2
    gi_quiet (fail)
    gi_wp2
    gi_region
    generalize hW2:World.setCell _ _ _=W2;have hE:Ext wr W2:=(by rw [<- hW2];exact ((hx.drewN _).set (by simp) _).set (by simp) _);have p0:W2.cell? ⟨wr.heap.size,0,none⟩=some (St b.1):=(by rw [<- hW2];simp [go_sem,hx0.1,hx0.2.1,hx0.2.2.1]);have p1:W2.cell? ⟨wr.heap.size,1,none⟩=some (U 0):=(by rw [<- hW2];simp [go_sem,hx0.1,hx0.2.1,hx0.2.2.1]);have p2:W2.cell? ⟨wr.heap.size,2,none⟩=some (U b.2):=(by rw [<- hW2];simp [go_sem,hx0.1,hx0.2.1,hx0.2.2.1]);have HE:=zH hE;obtain⟨fn,tmps,assign,body,hy,hR⟩:=HY.out done (b.1,0,b.2) W2 (HJ.out done wr W2 none HS.out (zb3 hE) (by simp)) (by rw [HP.out,zfn];simp);clear hW2 hE;dsimp only [zg2] at hy
    gi_wp2
    refine hR.mono ?_;rintro e W3 (⟨rfl,hJ3,hk3⟩ | ⟨rfl,hJx3⟩)
    ·gi_wp2
     go_roundw
     case rel=>exact⟨A,[],preB++[b],postB,done++[(b.1,0,b.2)],by simp,by rw [HB.out];simp,by simp,by simp,by rw [HP.out,zfn];simp,hJ3,(HK.out.trans (HE.out.kpS (Nat.le_trans hn₀ HK.out.1))).trans hk3⟩
     case measure=>simp [intOf];omega
    ·gi_wp2
     refine bodyPost_ret (results_none rfl _ _ _) rfl ?_;exact⟨⟨_,rfl⟩,.inr ⟨done++[(b.1,0,b.2)],⟨_,by rw [HP.out,zfn,List.append_assoc];rfl⟩,hJx3⟩⟩
  | cons a postA =>
   cases postB with
   | nil =>
    rw [List.append_nil] at hB;subst hB;obtain⟨ga,oa,rfl,da0,da1⟩:=zgq ha hSn hk hA;have hla:preA.length < A.length:=(by rw [hA];simp);have HA:=zH hA;have HP:=zH hp;have HJ:=zH hJ;have HY:=zH hY;have HK:=zH hk;have HS:=zH hJs;have e1:((preA.length:Int) == A.length)=false:=(by rw [beq_eq_false_iff_ne];omega);have e2:((B.length:Int) == B.length)=true:=(by simp);have hx:=(Ext.refl wr).alloc (.cells #[St [],U 0,U 0] 155);have c1':=hx.cell c1;have c2':=hx.cell c2;have da0':=hx.cell da0;have da1':=hx.cell da1;have hx0:=zja wr 155;have n1:B1 ≠ wr.heap.size:=(by have:=zae c1;omega);have n2:B2 ≠ wr.heap.size:=(by have:=zae c2;omega);have n3:ga ≠ wr.heap.size:=(by have:=zae da0;omega);clear hp hJ hY hk hJs hb ha hA
    gi_wp2
    generalize wr.alloc (.cells #[St [],U 0,U 0] 155)=W1 at *
    gi_quiet (fail)
    gi_wp2
    gi_quiet (fail)
    gi_wp2
    gi_region
    generalize hW2:World.setCell _ _ _=W2;have hE:Ext wr W2:=(by rw [<- hW2];exact ((hx.drewN _).set (by simp) _).set (by simp) _);have p0:W2.cell? ⟨wr.heap.size,0,none⟩=some (St a.1):=(by rw [<- hW2];simp [go_sem,hx0.1,hx0.2.1,hx0.2.2.1]);have p1:W2.cell? ⟨wr.heap.size,1,none⟩=some (U a.2):=(by rw [<- hW2];simp [go_sem,hx0.1,hx0.2.1,hx0.2.2.1]);have p2:W2.cell? ⟨wr.heap.size,2,none⟩=some (U 0):=(by rw [<- hW2];simp [go_sem,hx0.1,hx0.2.1,hx0.2.2.1]);have HE:=zH hE;obtain⟨fn,tmps,assign,body,hy,hR⟩:=HY.out done (a.1,a.2,0) W2 (HJ.out done wr W2 none HS.out (zb3 hE) (by simp)) (by rw [HP.out,zfm];simp);clear hW2 hE;dsimp only [zg2] at hy
    gi_wp2
    refine hR.mono ?_;rintro e W3 (⟨rfl,hJ3,hk3⟩ | ⟨rfl,hJx3⟩)
    ·gi_wp2
     go_roundw
     case rel=>exact⟨preA++[a],postA,B,[],done++[(a.1,a.2,0)],by rw [HA.out];simp,by simp,by simp,by simp,by rw [HP.out,zfm];simp,hJ3,(HK.out.trans (HE.out.kpS (Nat.le_trans hn₀ HK.out.1))).trans hk3⟩
     case measure=>simp [intOf];omega
    ·gi_wp2
     refine bodyPost_ret (results_none rfl _ _ _) rfl ?_;exact⟨⟨_,rfl⟩,.inr ⟨done++[(a.1,a.2,0)],⟨_,by rw [HP.out,zfm,List.append_assoc];rfl⟩,hJx3⟩⟩
   | cons b postB =>
    rcases zfp a.1 b.1 with ⟨q1,q2,q3,q4,q5⟩ | q | ⟨q1,q2,q3,q4,q5⟩
    ·have HQ:=zH (zpe postA postB q3 q1);obtain⟨ga,oa,rfl,da0,da1⟩:=zgq ha hSn hk hA;obtain⟨gb,ob,rfl,db0,db1⟩:=zgq hb hSn hk hB;have hla:preA.length < A.length:=(by rw [hA];simp);have HA:=zH hA;have hlb:preB.length < B.length:=(by rw [hB];simp);have HB:=zH hB;have HP:=zH hp;have HJ:=zH hJ;have HY:=zH hY;have HK:=zH hk;have HS:=zH hJs;have e1:((preA.length:Int) == A.length)=false:=(by rw [beq_eq_false_iff_ne];omega);have e2:((preB.length:Int) == B.length)=false:=(by rw [beq_eq_false_iff_ne];omega);have hx:=(Ext.refl wr).alloc (.cells #[St [],U 0,U 0] 155);have c1':=hx.cell c1;have c2':=hx.cell c2;have da0':=hx.cell da0;have da1':=hx.cell da1;have db0':=hx.cell db0;have db1':=hx.cell db1;have hx0:=zja wr 155;have n1:B1 ≠ wr.heap.size:=(by have:=zae c1;omega);have n2:B2 ≠ wr.heap.size:=(by have:=zae c2;omega);have n3:ga ≠ wr.heap.size:=(by have:=zae da0;omega);have n4:gb ≠ wr.heap.size:=(by have:=zae db0;omega);clear hp hJ hY hk hJs hb ha hA hB
     gi_wp2
     generalize wr.alloc (.cells #[St [],U 0,U 0] 155)=W1 at *
     gi_quiet (fail)
     gi_wp2
     gi_quiet (fail)
     gi_wp2
     gi_region
     generalize hW2:World.setCell _ _ _=W2;have hE:Ext wr W2:=(by rw [<- hW2];exact ((hx.drewN _).set (by simp) _).set (by simp) _);have p0:W2.cell? ⟨wr.heap.size,0,none⟩=some (St a.1):=(by rw [<- hW2];simp [go_sem,hx0.1,hx0.2.1,hx0.2.2.1]);have p1:W2.cell? ⟨wr.heap.size,1,none⟩=some (U a.2):=(by rw [<- hW2];simp [go_sem,hx0.1,hx0.2.1,hx0.2.2.1]);have p2:W2.cell? ⟨wr.heap.size,2,none⟩=some (U 0):=(by rw [<- hW2];simp [go_sem,hx0.1,hx0.2.1,hx0.2.2.1]);have HE:=zH hE;obtain⟨fn,tmps,assign,body,hy,hR⟩:=HY.out done (a.1,a.2,0) W2 (HJ.out done wr W2 none HS.out (zb3 hE) (by simp)) (by rw [HP.out,HQ.out];simp);clear hW2 hE;dsimp only [zg2] at hy
     gi_wp2
     refine hR.mono ?_;rintro e W3 (⟨rfl,hJ3,hk3⟩ | ⟨rfl,hJx3⟩)
     ·gi_wp2
      go_roundw
      case rel=>exact⟨preA++[a],postA,preB,b :: postB,done++[(a.1,a.2,0)],by rw [HA.out];simp,HB.out,by simp,by simp,by rw [HP.out,HQ.out];simp,hJ3,(HK.out.trans (HE.out.kpS (Nat.le_trans hn₀ HK.out.1))).trans hk3⟩
      case measure=>simp [intOf];omega
     ·gi_wp2
      refine bodyPost_ret (results_none rfl _ _ _) rfl ?_;exact⟨⟨_,rfl⟩,.inr ⟨done++[(a.1,a.2,0)],⟨_,by rw [HP.out,HQ.out,List.append_assoc];rfl⟩,hJx3⟩⟩
    ·obtain⟨ky,an⟩:=a;obtain⟨ks,bn⟩:=b;obtain rfl:ky=ks:=q;have HQ:=zH (zpd (an:=an) (bn:=bn) postA postB ky);obtain⟨ga,oa,rfl,da0,da1⟩:=zgq ha hSn hk hA;obtain⟨gb,ob,rfl,db0,db1⟩:=zgq hb hSn hk hB;have hla:preA.length < A.length:=(by rw [hA];simp);have HA:=zH hA;have hlb:preB.length < B.length:=(by rw [hB];simp);have HB:=zH hB;have HP:=zH hp;have HJ:=zH hJ;have HY:=zH hY;have HK:=zH hk;have HS:=zH hJs;have e1:((preA.length:Int) == A.length)=false:=(by rw [beq_eq_false_iff_ne];omega);have e2:((preB.length:Int) == B.length)=false:=(by rw [beq_eq_false_iff_ne];omega);have hx:=(Ext.refl wr).alloc (.cells #[St [],U 0,U 0] 155);have c1':=hx.cell c1;have c2':=hx.cell c2;have da0':=hx.cell da0;have da1':=hx.cell da1;have db0':=hx.cell db0;have db1':=hx.cell db1;have hx0:=zja wr 155;have n1:B1 ≠ wr.heap.size:=(by have:=zae c1;omega);have n2:B2 ≠ wr.heap.size:=(by have:=zae c2;omega);have n3:ga ≠ wr.heap.size:=(by have:=zae da0;omega);have n4:gb ≠ wr.heap.size:=(by have:=zae db0;omega);clear hp hJ hY hk hJs hb ha hA hB
     gi_wp2
     generalize wr.alloc (.cells #[St [],U 0,U 0] 155)=W1 at *
     gi_quiet (fail)
     gi_wp2
     gi_quiet (fail)
     gi_wp2
     gi_region
     generalize hW2:World.setCell _ _ _=W2;have hE:Ext wr W2:=(by rw [<- hW2];exact ((hx.drewN _).set (by simp) _).set (by simp) _);have p0:W2.cell? ⟨wr.heap.size,0,none⟩=some (St ky):=(by rw [<- hW2];simp [go_sem,hx0.1,hx0.2.1,hx0.2.2.1]);have p1:W2.cell? ⟨wr.heap.size,1,none⟩=some (U an):=(by rw [<- hW2];simp [go_sem,hx0.1,hx0.2.1,hx0.2.2.1]);have p2:W2.cell? ⟨wr.heap.size,2,none⟩=some (U 0):=(by rw [<- hW2];simp [go_sem,hx0.1,hx0.2.1,hx0.2.2.1]);have f0:W2.frozen? ⟨wr.heap.size,0,none⟩=false:=(by rw [<- hW2];simp [go_sem,hx0.2.2.2]);have f1:W2.frozen? ⟨wr.heap.size,1,none⟩=false:=(by rw [<- hW2];simp [go_sem,hx0.2.2.2]);have f2:W2.frozen? ⟨wr.heap.size,2,none⟩=false:=(by rw [<- hW2];simp [go_sem,hx0.2.2.2]);have c1'':W2.cell? _=_:=hE.cell c1;have c2'':W2.cell? _=_:=hE.cell c2;have db0'':W2.cell? _=_:=hE.cell db0;have db1'':W2.cell? _=_:=hE.cell db1;clear hW2
     gi_wp2
     gi_region
     generalize hW3:World.drew _=W4;have hE4:Ext wr W4:=(by rw [<- hW3];first | exact (((hE.drewN _).set (Nat.le_refl _) _).set (Nat.le_refl _) _).drew | exact ((hE.set (Nat.le_refl _) _).set (Nat.le_refl _) _).drew | exact ((hE.drew.set (Nat.le_refl _) _).set (Nat.le_refl _) _).drew);have p0':W4.cell? ⟨wr.heap.size,0,none⟩=some (St ky):=(by rw [<- hW3];simp [go_sem,p0,p1,p2]);have p1':W4.cell? ⟨wr.heap.size,1,none⟩=some (U an):=(by rw [<- hW3];simp [go_sem,p0,p1,p2]);have p2':W4.cell? ⟨wr.heap.size,2,none⟩=some (U bn):=(by rw [<- hW3];simp [go_sem,p0,p1,p2]);have HE:=zH hE4;obtain⟨fn,tmps,assign,body,hy,hR⟩:=HY.out done (ky,an,bn) W4 (HJ.out done wr W4 none HS.out (zb3 hE4) (by simp)) (by rw [HP.out,HQ.out];simp);clear hW3 hE4;dsimp only [zg2] at hy
     gi_wp2
     refine hR.mono ?_;rintro e W3 (⟨rfl,hJ3,hk3⟩ | ⟨rfl,hJx3⟩)
     ·gi_wp2
      go_roundw
      case rel=>exact⟨preA++[(ky,an)],postA,preB++[(ky,bn)],postB,done++[(ky,an,bn)],by rw [HA.out];simp,by rw [HB.out];simp,by simp,by simp,by rw [HP.out,HQ.out];simp,hJ3,(HK.out.trans (HE.out.kpS (Nat.le_trans hn₀ HK.out.1))).trans hk3⟩
      case measure=>simp [intOf];omega
     ·gi_wp2
      refine bodyPost_ret (results_none rfl _ _ _) rfl ?_;exact⟨⟨_,rfl⟩,.inr ⟨done++[(ky,an,bn)],⟨_,by rw [HP.out,HQ.out,List.append_assoc];rfl⟩,hJx3⟩⟩
    ·have HQ:=zH (zpf postA postB q3 q1);obtain⟨ga,oa,rfl,da0,da1⟩:=zgq ha hSn hk hA;obtain⟨gb,ob,rfl,db0,db1⟩:=zgq hb hSn hk hB;have hla:preA.length < A.length:=(by rw [hA];simp);have HA:=zH hA;have hlb:preB.length < B.length:=(by rw [hB];simp);have HB:=zH hB;have HP:=zH hp;have HJ:=zH hJ;have HY:=zH hY;have HK:=zH hk;have HS:=zH hJs;have e1:((preA.length:Int) == A.length)=false:=(by rw [beq_eq_false_iff_ne];omega);have e2:((preB.length:Int) == B.length)=false:=(by rw [beq_eq_false_iff_ne];omega);have hx:=(Ext.refl wr).alloc (.cells #[St [],U 0,U 0] 155);have c1':=hx.cell c1;have c2':=hx.cell c2;have da0':=hx.cell da0;have da1':=hx.cell da1;have db0':=hx.cell db0;have db1':=hx.cell db1;have hx0:=zja wr 155;have n1:B1 ≠ wr.heap.size:=(by have:=zae c1;omega);have n2:B2 ≠ wr.heap.size:=(by have:=zae c2;omega);have n3:ga ≠ wr.heap.size:=(by have:=zae da0;omega);have n4:gb ≠ wr.heap.size:=(by have:=zae db0;omega);clear hp hJ hY hk hJs hb ha hA hB
     gi_wp2
     generalize wr.alloc (.cells #[St [],U 0,U 0] 155)=W1 at *
     gi_quiet (fail)
     gi_wp2
     gi_quiet (fail)
     gi_wp2
     gi_region
     generalize hW2:World.setCell _ _ _=W2;have hE:Ext wr W2:=(by rw [<- hW2];exact ((hx.drewN _).set (by simp) _).set (by simp) _);have p0:W2.cell? ⟨wr.heap.size,0,none⟩=some (St b.1):=(by rw [<- hW2];simp [go_sem,hx0.1,hx0.2.1,hx0.2.2.1]);have p1:W2.cell? ⟨wr.heap.size,1,none⟩=some (U 0):=(by rw [<- hW2];simp [go_sem,hx0.1,hx0.2.1,hx0.2.2.1]);have p2:W2.cell? ⟨wr.heap.size,2,none⟩=some (U b.2):=(by rw [<- hW2];simp [go_sem,hx0.1,hx0.2.1,hx0.2.2.1]);have HE:=zH hE;obtain⟨fn,tmps,assign,body,hy,hR⟩:=HY.out done (b.1,0,b.2) W2 (HJ.out done wr W2 none HS.out (zb3 hE) (by simp)) (by rw [HP.out,HQ.out];simp);clear hW2 hE;dsimp only [zg2] at hy
     gi_wp2
     refine hR.mono ?_;rintro e W3 (⟨rfl,hJ3,hk3⟩ | ⟨rfl,hJx3⟩)
     ·gi_wp2
      go_roundw
      case rel=>exact⟨preA,a :: postA,preB++[b],postB,done++[(b.1,0,b.2)],HA.out,by rw [HB.out];simp,by simp,by simp,by rw [HP.out,HQ.out];simp,hJ3,(HK.out.trans (HE.out.kpS (Nat.le_trans hn₀ HK.out.1))).trans hk3⟩
      case measure=>simp [intOf];omega
     ·gi_wp2
      refine bodyPost_ret (results_none rfl _ _ _) rfl ?_;exact⟨⟨_,rfl⟩,.inr ⟨done++[(b.1,0,b.2)],⟨_,by rw [HP.out,HQ.out,List.append_assoc];rfl⟩,hJx3⟩⟩
end
section
open Go.RowKit Go.Shelf
attribute [local go_sem] Oper.semAt_some
theorem zpg (va vb:Value) (w:World) (ha:va.oneCell'=true) (hb:vb.oneCell'=true) :
  Calls Tryz.prog 82 #[va,vb] w fun e w'=>e=.returned (.func (.func 126) #[] #[.pointer (some ⟨w.heap.size,0,none⟩),.pointer (some ⟨w.heap.size+1,0,none⟩)])/\w'=(w.alloc (.cells #[va] 22)).alloc (.cells #[vb] 22):=by
 go_enter Tryz.func82,Tryz.ntmps82;go_wp2;go_ret;exact⟨rfl,rfl⟩
theorem zmp (n:Nat) (hn:1<=n) {S:Nat->Prop} {n₀ B1 B2:Nat} {va vb:Value} {A B:List Mark} {w:World} (hn₀:n₀<=w.heap.size) (h1:w.cell? ⟨B1,0,none⟩=some va) (h2:w.cell? ⟨B2,0,none⟩=some vb)
  (hS1:S B1) (hS2:S B2) (hSn:∀ b,S b->b < n₀) (ha:Sl markT w S va A) (hb:Sl markT w S vb B) :
  SeqStopsK Fence.wide n Tryz.prog 126 #[.pointer (some ⟨B1,0,none⟩),.pointer (some ⟨B2,0,none⟩)] (fun x=>#[zg2 x]) (KpS S n₀) (fun ys=>ys=za3 A B) (fun pre=>pre <+: za3 A B) (za3 A B).length w :=
 fun l J Jx W hW hJ _ hY h0 =>
  zwo n l B1 B2 n₀ J Jx hn W hJ (Nat.le_trans hn₀ hW.size) hY (hW.cell (p:=⟨B1,0,none⟩) (zae h1) |>.trans h1) (hW.cell (p:=⟨B2,0,none⟩) (zae h2) |>.trans h2)
   ⟨hS1,hSn _ hS1⟩ ⟨hS2,hSn _ hS2⟩ (ha.ext (by decide) hW) (hb.ext (by decide) hW) (fun b h _=>hSn b h) h0
def za0 (a b:List Mark):List Mark:=(za3 (zbu a) (zbu b)).map fun p=>(p.1,max p.2.1 p.2.2)
theorem zkq (a b:List Mark):(za3 a b).length<=a.length+b.length:=by
 fun_induction za3 a b <;> simp_all <;> omega
abbrev zll (l:List Pair):List Mark:=l.map fun p=>(p.1,max p.2.1 p.2.2)
def BoxRow (bx base m n₀:Nat) (T:TypeId) (l:List Mark) (W:World):Prop :=
 ∃ v,W.cell? ⟨bx,0,none⟩=some v/\W.frozen? ⟨bx,0,none⟩=false/\Own W base T 2 v l.length (l.flatMap zaj)/\(∀ b,zad v b->b ≠ bx/\(b < m ∨ n₀<=b))/\n₀<=W.heap.size/\bx < m
theorem BoxRow.from (bx base m n₀:Nat) (T:TypeId) {β:Type} (f:β->List Mark) (B:Nat):OwnFrom B (fun s W=>BoxRow bx base m n₀ T (f s) W):=fun s W W' row ⟨v,h1,h2,h3,h4,h5,h6⟩ hg hr =>
 ⟨v,cell_kept h1 hg (fun r e=>(hr r e).2),(frozen_kept h1 hg (fun r e=>(hr r e).2)).trans h2,h3.kept hg (fun r e=>(hr r e).2),h4,Nat.le_trans h5 hg.size,h6⟩
theorem BoxRow.grew {bx base m n₀:Nat} {T:TypeId} {l':List Mark} {W W':World} {v v':Value} (hW:n₀<=W.heap.size) (hbx:bx < m) (hm:m<=n₀) (hv1:W.cell? ⟨bx,0,none⟩=some v) (hv2:W.frozen? ⟨bx,0,none⟩=false) (hv4:∀ b,zad v b->b ≠ bx/\(b < m ∨ n₀<=b))
  (hgr:Grew W W' v v') (hown:Own W' base T 2 v' l'.length (l'.flatMap zaj)):W'.cell? ⟨bx,0,none⟩=some v/\W'.frozen? ⟨bx,0,none⟩=false/\BoxRow bx base m n₀ T l' (W'.setCell ⟨bx,0,none⟩ v'):=by
 have hb:=zae hv1;have hsame:=hgr.same bx hb (fun h=>(hv4 _ h).1 rfl);have e1:W'.cell? ⟨bx,0,none⟩=some v:=(World.cell?_of_block (a:=⟨bx,0,none⟩) hsame).trans hv1
 have e2:W'.frozen? ⟨bx,0,none⟩=false:=by unfold World.frozen? at hv2 ⊢;simp only [] at hv2 ⊢;rw [hsame];exact hv2
 have hblk:∀ b,zad v' b->b ≠ bx/\(b < m ∨ n₀<=b):=fun b hb'=>by
  rcases hgr.blk b hb' with h | h
  ·exact hv4 b h
  ·subst h;exact⟨by omega,.inr hW⟩
 refine ⟨e1,e2,v',World.cell?_setCell_same' _ _ _ (by rw [e1];rfl),by rw [World.frozen?_setCell];exact e2,?_,hblk,Nat.le_trans hW (by simpa using hgr.size),hbx⟩;exact hown.keep fun b hb' _=>Below.heap_setCell W' _ v' b (hblk b hb').1
theorem zy4 (a b:Nat):((max a b:Nat):Int)=max (a:Int) (b:Int):=by omega
set_option maxRecDepth 100000 in
set_option maxHeartbeats 1000000 in
theorem zjb {S1 S2 : Nat -> Prop} {va vb : Value} {A B : List Mark} {w : World} (ha : Sl markT w S1 va A) (hb : Sl markT w S2 vb B) (hla : A.length <= 1099511627776) (hlb : B.length <= 1099511627776) :
   Calls Tryz.prog 57 #[va, vb] w fun e w' => ∃ v', e = .returned v' /\ Own w' w.heap.size 97 2 v' (za0 A B).length ((za0 A B).flatMap zaj) /\ Ext w w' := by
 obtain ⟨cur, hmk, hrow⟩ := zq0 (P := Tryz.prog) (w := w) w.heap.size 22 97 2 24 (A.length + B.length) (.agg #[St [], U 0]) Tryz.underlying22 zgp rfl (by omega) (by omega) (Nat.le_refl _)
 rw [Int.natCast_add] at hmk
 have HA := zH (fun (W : World) (h : Ext w W) => callsIn_wide (n := 8).2 (zi9 (ha.ext (by decide) h) hla))
 have HB := zH (fun (W : World) (h : Ext w W) => callsIn_wide (n := 8).2 (zi9 (hb.ext (by decide) h) hlb))
 have HR := zH hrow
 obtain ⟨Aa, ca, rfl, -, -⟩ := ha.form
 obtain ⟨Ab, cb, rfl, -, -⟩ := hb.form
 clear ha hb hrow
 refine (callsIn_wide (n := 9)).1 ?_
 refine callsIn_of_wp_marks Tryz.func57 rfl trivial ?_ rfl
 simp only [Tryz.ntmps57, List.size_toArray, List.length_cons, List.length_nil, Nat.reduceAdd, Nat.reduceSub, Array.replicate_succ, Array.replicate_zero, List.push_toArray, List.append_toArray, List.nil_append, List.cons_append]
 have hx0 : Ext w ((w.alloc (.cells cur 97)).alloc (.cells #[.slice (some ⟨w.heap.size, 0, none⟩) 0 (A.length + B.length)] 22)) := ((Ext.refl w).alloc _).alloc _
 have hbox := zix (w.alloc (.cells cur 97)) (.slice (some ⟨w.heap.size, 0, none⟩) 0 (A.length + B.length)) 22
 rw [World.size_alloc] at hbox
 have hrow0 := HR.out.alloc (.cells #[.slice (some ⟨w.heap.size, 0, none⟩) 0 (A.length + B.length)] 22)
 have hsz : ((w.alloc (.cells cur 97)).alloc (.cells #[.slice (some ⟨w.heap.size, 0, none⟩) 0 (A.length + B.length)] 22)).heap.size = w.heap.size + 2 := by simp
 gi_wp2
 generalize (w.alloc (.cells cur 97)).alloc (.cells #[.slice (some ⟨w.heap.size, 0, none⟩) 0 (A.length + B.length)] 22) = W0 at *
 refine ⟨trivial, (HA.out _ hx0).mono ?_⟩
 rintro e W1 ⟨va, rfl, hva, hx1⟩
 have hx01 := hx0.trans hx1
 gi_wp2
 refine ⟨trivial, (HB.out _ hx01).mono ?_⟩
 rintro e W2 ⟨vb, rfl, hvb, hx2⟩
 have H3 := zH (callsIn_wide (n := 8).2 (zpg va vb W2 (by obtain ⟨_, _, rfl, -⟩ := hva.form; rfl) (by obtain ⟨_, _, rfl, -⟩ := hvb.form; rfl)))
 have hx3 : Ext W2 ((W2.alloc (.cells #[va] 22)).alloc (.cells #[vb] 22)) := ((Ext.refl W2).alloc _).alloc _
 have c1 : ((W2.alloc (.cells #[va] 22)).alloc (.cells #[vb] 22)).cell? ⟨W2.heap.size, 0, none⟩ = some va := by simp [go_sem]
 have c2 : ((W2.alloc (.cells #[va] 22)).alloc (.cells #[vb] 22)).cell? ⟨W2.heap.size + 1, 0, none⟩ = some vb := by simp [go_sem]
 have hsz3 : ((W2.alloc (.cells #[va] 22)).alloc (.cells #[vb] 22)).heap.size = W2.heap.size + 2 := by simp
 gi_wp2
 refine ⟨trivial, H3.out.mono ?_⟩
 rintro e w3 ⟨rfl, rfl⟩
 gi_wp2
 generalize (W2.alloc (.cells #[va] 22)).alloc (.cells #[vb] 22) = W3 at *
 have hx13 : Ext W0 W3 := (hx1.trans hx2).trans hx3
 have hs1 := hx1.size
 have hs2 := hx2.size
 have hw3 : Ext w W3 := hx0.trans hx13
 have sa : Sl markT W3 (fun b => w.heap.size + 2 <= b /\ b < W3.heap.size) va (zbu A) :=
   ((own_markT (S := fun _ => False).2 hva).ext (hx2.trans hx3)).sl (by decide) (fun _ _ h => h.elim) (fun b h h' => ⟨by omega, h'⟩)
 have sb : Sl markT W3 (fun b => w.heap.size + 2 <= b /\ b < W3.heap.size) vb (zbu B) :=
   ((own_markT (S := fun _ => False).2 hvb).ext hx3).sl (by decide) (fun _ _ h => h.elim) (fun b h h' => ⟨by omega, h'⟩)
 have hl1 := zeo A
 have hl2 := zeo B
 have hl3 := zkq (zbu A) (zbu B)
 refine wpIn_rangeFunc_ownH rfl (by omega) (gf := 126) (lb := #[.pointer (some ⟨W2.heap.size, 0, none⟩), .pointer (some ⟨W2.heap.size + 1, 0, none⟩)]) rfl trivial (enters_of Tryz.func126 (by kernel_rfl) rfl)
   (zmp 8 (by omega) (w := W3) (n₀ := W3.heap.size) (S := fun b => w.heap.size + 2 <= b /\ b < W3.heap.size) (Nat.le_refl _) c1 c2 ⟨by omega, by omega⟩ ⟨by omega, by omega⟩ (fun b h => h.2) sa sb)
   (fun h k => h.trans k) (KpS.put (Nat.le_refl _)) (Below.refl _ _) (fun _ => rfl)
   (fun pre W => BoxRow (w.heap.size + 1) w.heap.size (w.heap.size + 2) W3.heap.size 97 (zll pre) W /\ Below w.heap.size w W)
   (fun _ _ _ => False)
   (OwnFrom.and (BoxRow.from _ _ _ _ _ _ _) (ownFrom_below (Nat.le_refl _) hw3.size))
   (fun _ _ _ _ _ hs _ _ => hs)
   ⟨⟨_, hx13.cell hbox.1, (hx13.frozen (zae hbox.1)).trans hbox.2, hrow0.ext hx13, by rintro b ⟨g, n', c', he, hc, rfl⟩; cases he; exact ⟨by omega, .inl (by omega)⟩, Nat.le_refl _, by omega⟩, hw3⟩
   (fun x a' W => ∃ Bx, (W.cell? ⟨Bx, 0, none⟩ = some (St x.1) /\ W.cell? ⟨Bx, 1, none⟩ = some (U x.2.1) /\ W.cell? ⟨Bx, 2, none⟩ = some (U x.2.2)) /\
     a' = { tmps := #[.slice Aa A.length ca, .slice Ab B.length cb, undef, undef, .slice none 0 0, .pointer (some ⟨w.heap.size + 1, 0, none⟩), .pointer (some ⟨Bx, 0, none⟩), .slice Aa A.length ca, I A.length, .slice Ab B.length cb, I B.length, I (A.length + B.length), .slice (some ⟨w.heap.size, 0, none⟩) 0 (A.length + B.length), .slice Aa A.length ca, va, .slice Ab B.length cb, vb, .func (.func 126) #[] #[.pointer (some ⟨W2.heap.size, 0, none⟩), .pointer (some ⟨W2.heap.size + 1, 0, none⟩)], zg2 x, undef, undef, undef, undef, undef, undef, undef, undef, undef, undef, undef, undef], defers := [] })
   (fun x a' s W W' row ⟨Bx, ⟨h1, h2, h3⟩, h4⟩ hg hr => ⟨Bx, ⟨cell_kept h1 hg (fun r e => (hr r e).2), cell_kept h2 hg (fun r e => (hr r e).2), cell_kept h3 hg (fun r e => (hr r e).2)⟩, h4⟩)
   ?assign ?body ?done ?stop
 case assign =>
   rintro l pre x W K ⟨⟨v, hv1, hv2, hv3, hv4, hv5, hv6⟩, hB⟩ hK
   have hE := (Ext.refl W).alloc (.cells #[St x.1, U x.2.1, U x.2.2] 155)
   dsimp only [zg2]
   gi_wp2
   have hn3 := hB.size
   exact hK _ _ ((KeepsOthers.alloc _ _).from _) (hE.kpS hv5) ⟨⟨v, hE.cell hv1, (hE.frozen (zae hv1)).trans hv2, hv3.ext hE, hv4, Nat.le_trans hv5 hE.size, hv6⟩, Below.trans hB (hE.below hn3)⟩
     ⟨W.heap.size, ⟨by simp [go_sem], by simp [go_sem], by simp [go_sem]⟩, rfl⟩
 case body =>
   rintro l pre x a' W hl - ⟨⟨v, hv1, hv2, hv3, hv4, hv5, hv6⟩, hB⟩ ⟨Bx, ⟨p0, p1, p2⟩, rfl⟩ hlt
   have hn3 := hB.size
   have hpl : (zll pre).length = pre.length := by simp
   gi_wp2_with (gi_at_builtin; refine zfl rfl (.tmp 19) (.tmp 28) 22 rfl w.heap.size 97 2 24 (.agg #[St [], U 0]) Tryz.underlying22 zgp rfl (by omega) v (zll pre).length ((zll pre).flatMap zaj) rfl (hv3.alloc _) _ 1 1 _ rfl (Src.new rfl (by intro u hu; simp at hu; rcases hu with rfl | rfl <;> rfl)) (by omega) (by omega) (by simp; omega) ?_; intro v' w' hown hgr
                have hE := (Ext.refl W).alloc (.cells #[St x.1, .int .u64 (max x.2.1 x.2.2)] 97)
                obtain ⟨e1, e2, hbr⟩ := BoxRow.grew (l' := zll (pre ++ [x])) (Nat.le_trans hv5 hE.size) hv6 (by omega) (hE.cell hv1) ((hE.frozen (zae hv1)).trans hv2) hv4 hgr (by simpa [zaj, U, zy4] using hown)
                have hko := (KeepsOthers.alloc _ _).trans (hgr.keeps (hv3.alloc _))
                have hkp : KpS (fun b => w.heap.size + 2 <= b /\ b < W3.heap.size) W3.heap.size W w' := (hE.kpS hv5).trans (KpS.grew hgr (Nat.le_trans hv5 hE.size) (fun b h h2 => by rcases (hv4 b h).2 with h3 | h3 <;> omega))
                have hBw := Ext.grewOwn (Below.trans hB (hE.below hn3)) hgr (hv3.alloc _) (Nat.le_refl _)
                have hff := hown.form
                obtain ⟨g', cap', rfl, -, -⟩ := hff)
   exact ⟨(hko.trans (KeepsOthers.setCell _ _ _)).from _, hkp.trans (KpS.set _ (fun h => by have := h.1; simp at this) _), by rw [hpl] at hbr; exact hbr, hBw.setCell (by simp) _⟩
 case done =>
   rintro D ys W hD rfl ⟨⟨v, hv1, hv2, hv3, hv4, hv5, hv6⟩, hB⟩ hK
   have hff := hv3.form
   obtain ⟨g', cap', rfl, -, -⟩ := hff
   gi_wp2
   refine ⟨by simp, .inl ⟨_, _, rfl, run_takeDeferred hK, ?_⟩⟩
   have hfin : Own (W.putObj D (.deferred none)) w.heap.size 97 2 (.slice g' (za3 (zbu A) (zbu B)).length cap') (za0 A B).length ((za0 A B).flatMap zaj) := by
     have h := hv3.kept (grownBy_putObj' W D (.deferred none)) (fun r e => by cases e; exact ⟨_, hK, rfl⟩)
     rw [List.length_map] at h
     simpa [za0] using h
   refine ⟨_, results_tmp rfl _ _ _, .slice g' (za3 (zbu A) (zbu B)).length cap', rfl, hfin, ?_⟩
   exact (Below.trans hB (belowK_b (w := w) (Nat.le_refl _) W D _ _ (by have := hw3.size; omega) hK rfl rfl))
 case stop =>
   rintro D c pre W _ _ h _
   exact h.elim
end
section
open Go.RowKit Go.Shelf
def zbm (a b:List Mark):Bool:=(za3 (zbu a) (zbu b)).all fun p=>!decide (p.2.1 < p.2.2)
section
attribute [local go_sem] Oper.semAt_some
theorem zil {S1 S2:Nat->Prop} {va vb:Value} {A B:List Mark} {w:World} (ha:Sl markT w S1 va A) (hb:Sl markT w S2 vb B) (hla:A.length<=1099511627776) (hlb:B.length<=1099511627776) :
  Calls Tryz.prog 35 #[va,vb] w fun e w'=>e=.returned (.bool (zbm A B))/\Ext w w':=by
 have HA:=zH (fun (W:World) (h:Ext w W)=>callsIn_wide (n:=8).2 (zi9 (ha.ext (by decide) h) hla));have HB:=zH (fun (W:World) (h:Ext w W)=>callsIn_wide (n:=8).2 (zi9 (hb.ext (by decide) h) hlb));obtain⟨Aa,ca,rfl,-,-⟩:=ha.form;obtain⟨Ab,cb,rfl,-,-⟩:=hb.form;clear ha hb;refine (callsIn_wide (n:=9)).1 ?_;refine callsIn_of_wp_marks Tryz.func35 rfl trivial ?_ rfl;simp only [Tryz.ntmps35,List.size_toArray,List.length_cons,List.length_nil,Nat.reduceAdd,Nat.reduceSub,Array.replicate_succ,Array.replicate_zero,List.push_toArray,List.append_toArray,List.nil_append,List.cons_append];have hx0:Ext w (w.alloc (.cells #[.bool false] 4)):=(Ext.refl w).alloc _;have hbox:=zix w (.bool false) 4;have hsz:(w.alloc (.cells #[.bool false] 4)).heap.size=w.heap.size+1:=by simp
 gi_wp2
 generalize w.alloc (.cells #[.bool false] 4)=W0 at *;refine ⟨trivial,(HA.out _ hx0).mono ?_⟩;rintro e W1 ⟨va,rfl,hva,hx1⟩;have hx01:=hx0.trans hx1
 gi_wp2
 refine ⟨trivial,(HB.out _ hx01).mono ?_⟩;rintro e W2 ⟨vb,rfl,hvb,hx2⟩;have H3:=zH (callsIn_wide (n:=8).2 (zpg va vb W2 (by obtain⟨_,_,rfl,-⟩:=hva.form;rfl) (by obtain⟨_,_,rfl,-⟩:=hvb.form;rfl)));have hx3:Ext W2 ((W2.alloc (.cells #[va] 22)).alloc (.cells #[vb] 22)):=((Ext.refl W2).alloc _).alloc _;have c1:((W2.alloc (.cells #[va] 22)).alloc (.cells #[vb] 22)).cell? ⟨W2.heap.size,0,none⟩=some va:=by simp [go_sem]
 have c2:((W2.alloc (.cells #[va] 22)).alloc (.cells #[vb] 22)).cell? ⟨W2.heap.size+1,0,none⟩=some vb:=by simp [go_sem]
 have hsz3:((W2.alloc (.cells #[va] 22)).alloc (.cells #[vb] 22)).heap.size=W2.heap.size+2:=by simp
 gi_wp2
 refine ⟨trivial,H3.out.mono ?_⟩;rintro e w3 ⟨rfl,rfl⟩
 gi_wp2
 generalize (W2.alloc (.cells #[va] 22)).alloc (.cells #[vb] 22)=W3 at *;have hx13:Ext W0 W3:=(hx1.trans hx2).trans hx3;have hs1:=hx1.size;have hs2:=hx2.size;have hw3:Ext w W3:=hx0.trans hx13
 have sa:Sl markT W3 (fun b=>w.heap.size+1<=b/\b < W3.heap.size) va (zbu A) :=
  ((own_markT (S:=fun _=>False).2 hva).ext (hx2.trans hx3)).sl (by decide) (fun _ _ h=>h.elim) (fun b h h'=>⟨by omega,h'⟩)
 have sb:Sl markT W3 (fun b=>w.heap.size+1<=b/\b < W3.heap.size) vb (zbu B) :=
  ((own_markT (S:=fun _=>False).2 hvb).ext hx3).sl (by decide) (fun _ _ h=>h.elim) (fun b h h'=>⟨by omega,h'⟩)
 have hl1:=zeo A;have hl2:=zeo B;have hl3:=zkq (zbu A) (zbu B)
 refine wpIn_rangeFunc_ownH rfl (by omega) (gf:=126) (lb:=#[.pointer (some ⟨W2.heap.size,0,none⟩),.pointer (some ⟨W2.heap.size+1,0,none⟩)]) rfl trivial (enters_of Tryz.func126 (by kernel_rfl) rfl)
  (zmp 8 (by omega) (w:=W3) (n₀:=W3.heap.size) (S:=fun b=>w.heap.size+1<=b/\b < W3.heap.size) (Nat.le_refl _) c1 c2 ⟨by omega,by omega⟩ ⟨by omega,by omega⟩ (fun b h=>h.2) sa sb)
  (fun h k=>h.trans k) (KpS.put (Nat.le_refl _)) (Below.refl _ _) (fun _=>rfl)
  (fun pre W=>(W.cell? ⟨w.heap.size,0,none⟩=some (.bool false)/\W.frozen? ⟨w.heap.size,0,none⟩=false/\(∀ p ∈ pre,¬ p.2.1 < p.2.2)/\W3.heap.size<=W.heap.size)/\Below w.heap.size w W)
  (fun c pre W=>(c=.ret/\W.cell? ⟨w.heap.size,0,none⟩=some (.bool false)/\∃ p ∈ pre,p.2.1 < p.2.2)/\Below w.heap.size w W)
  (OwnFrom.and (fun s W W' row hs hg hr=>⟨cell_kept hs.1 hg (fun r e=>(hr r e).2),(frozen_kept hs.1 hg (fun r e=>(hr r e).2)).trans hs.2.1,hs.2.2.1,Nat.le_trans hs.2.2.2 hg.size⟩) (ownFrom_below (Nat.le_refl _) hw3.size))
  (fun c=>OwnFrom.and (fun s W W' row hs hg hr=>⟨hs.1,cell_kept hs.2.1 hg (fun r e=>(hr r e).2),hs.2.2⟩) (ownFrom_below (Nat.le_refl _) hw3.size))
  ⟨⟨hx13.cell hbox.1,(hx13.frozen (zae hbox.1)).trans hbox.2,by simp,Nat.le_refl _⟩,hw3⟩
  (fun x a' W=>∃ Bx,(W.cell? ⟨Bx,0,none⟩=some (St x.1)/\W.cell? ⟨Bx,1,none⟩=some (U x.2.1)/\W.cell? ⟨Bx,2,none⟩=some (U x.2.2)) /\
   a' = { tmps:=#[.slice Aa A.length ca,.slice Ab B.length cb,undef,undef,.pointer (some ⟨w.heap.size,0,none⟩),.pointer (some ⟨Bx,0,none⟩),.slice Aa A.length ca,va,.slice Ab B.length cb,vb,.func (.func 126) #[] #[.pointer (some ⟨W2.heap.size,0,none⟩),.pointer (some ⟨W2.heap.size+1,0,none⟩)],zg2 x,undef,undef,undef,undef,undef],defers:=[] })
  (fun x a' s W W' row ⟨Bx,⟨h1,h2,h3⟩,h4⟩ hg hr=>⟨Bx,⟨cell_kept h1 hg (fun r e=>(hr r e).2),cell_kept h2 hg (fun r e=>(hr r e).2),cell_kept h3 hg (fun r e=>(hr r e).2)⟩,h4⟩)
  ?assign ?body ?done ?stop
 case assign =>
  rintro l pre x W K ⟨⟨hc,hf,hp,hn⟩,hB⟩ hK;have hE:=(Ext.refl W).alloc (.cells #[St x.1,U x.2.1,U x.2.2] 155);dsimp only [zg2]
  gi_wp2
  have hn3:=hB.size
  exact hK _ _ ((KeepsOthers.alloc _ _).from _) (hE.kpS hn) ⟨⟨hE.cell hc,(hE.frozen (zae hc)).trans hf,hp,Nat.le_trans hn hE.size⟩,Below.trans hB (hE.below hn3)⟩
   ⟨W.heap.size,⟨by simp [go_sem],by simp [go_sem],by simp [go_sem]⟩,rfl⟩
 case body =>
  rintro l pre x a' W hl - ⟨⟨hc,hf,hp,hn⟩,hB⟩ ⟨Bx,⟨p0,p1,p2⟩,rfl⟩ hlt
  by_cases hq:x.2.1 < x.2.2
  ·have hq':(x.2.1:Int) < x.2.2:=by omega
   gi_wp2
   exact⟨(KeepsOthers.setCell _ _ _).from _,⟨rfl,World.cell?_setCell_same' _ _ _ (by rw [hc];rfl),x,by simp,hq⟩,Below.setCell hB (by simp) _⟩
  ·have hq':¬ (x.2.1:Int) < x.2.2:=by omega
   gi_wp2
   exact⟨KeepsFrom.refl _ _,KpS.refl _ _ _,⟨hc,hf,fun a b c h=>Nat.le_of_not_lt (zm7 hp hq (a,b,c) h),by rw [<- hsz3];exact hn⟩,hB⟩
 case done =>
  rintro D ys W hD rfl ⟨⟨hc,hf,hp,hn⟩,hB⟩ hK
  gi_wp2
  have hK':=(KeepsOthers.setCell W ⟨w.heap.size,0,none⟩ (.bool true)).same D _ hK rfl;refine ⟨by simp,.inl ⟨_,_,rfl,run_takeDeferred hK',?_⟩⟩;have hc5:=cell_kept (World.cell?_setCell_same' W ⟨w.heap.size,0,none⟩ (.bool true) (by rw [hc];rfl)) (grownBy_putObj' _ D (.deferred none)) (fun r e=>by cases e;exact⟨_,hK',rfl⟩)
  have hcv:zbm A B=true:=by
   unfold zbm;rw [List.all_eq_true];intro p hp'
   simpa using hp p hp'
  refine ⟨.bool true,?_,by rw [hcv],(Below.setCell hB (p:=⟨w.heap.size,0,none⟩) (by simp) _).trans (belowK_b (w:=w) (Nat.le_refl _) _ D _ _ (by have:=hw3.size;omega) hK' rfl rfl)⟩;simp [results,Tryz.f35,go_sem,hc5]
 case stop =>
  rintro D c pre W hD hpre ⟨⟨rfl,hc,p,hp,hq⟩,hB⟩ hK
  gi_wp2
  refine ⟨by simp,.inl ⟨_,_,rfl,run_takeDeferred hK,?_⟩⟩;have hc5:=cell_kept hc (grownBy_putObj' _ D (.deferred none)) (fun r e=>by cases e;exact⟨_,hK,rfl⟩)
  have hcv:zbm A B=false:=by unfold zbm;rw [List.all_eq_false];exact⟨p,hpre.subset hp,by simpa using hq⟩
  refine ⟨.bool false,?_,by rw [hcv],Below.trans hB (belowK_b (w:=w) (Nat.le_refl _) W D _ _ (by have:=hw3.size;omega) hK rfl rfl)⟩;simp [results,Tryz.f35,go_sem,hc5]
end
theorem zwp (s:Str) (m:Mark) {b:Nat} {w:World} (hb:w.cell? ⟨b,0,none⟩=some (St s)) :
  Calls Tryz.prog 95 #[.agg #[St m.1,U m.2],.pointer (some ⟨b,0,none⟩)] w fun e w'=>e=.returned (.bool (m.1 == s))/\Ext w w':=by
 have hlt:=zae hb
 by_cases h:m.1=s
 ·have h':(m.1 == s)=true:=by simpa using h
  go_enter Tryz.func95,Tryz.ntmps95;go_wp2;go_ret;exact⟨by simp [h],(Ext.refl _).alloc _⟩
 ·have h':(m.1 == s)=false:=by simpa using h
  go_enter Tryz.func95,Tryz.ntmps95;go_wp2;go_ret;exact⟨by simp [h'],(Ext.refl _).alloc _⟩
theorem zt8 (s:Str) (b base:Nat) (hb:b < base):PredM Tryz.prog 95 #[.pointer (some ⟨b,0,none⟩)] base (fun W=>W.cell? ⟨b,0,none⟩=some (St s)) (fun m=>m.1 == s) where
 enters:=enters_of Tryz.func95 (by kernel_rfl) rfl
 keep W W' h hB:=(Below.cell hB (p:=⟨b,0,none⟩) hb).trans h
 does m W h:=zwp s m h
def zau (l:List Mark) (s:Str):List Mark:=(zbu l).filter fun m=>!(m.1 == s)
theorem zkr {S:Nat->Prop} {v:Value} {l:List Mark} {w:World} (s:Str) (hv:Sl markT w S v l) (hl:l.length<=1099511627776) :
  Calls Tryz.prog 42 #[v,St s] w fun e w'=>∃ v',e=.returned v'/\Own w' w.heap.size 97 2 v' (zau l s).length ((zau l s).flatMap zaj)/\Ext w w':=by
 have hx0:=(Ext.refl w).alloc (.cells #[St s] 9);have H1:=zH (zi9 (hv.ext (by decide) hx0) hl);clear hv;go_enter Tryz.func42,Tryz.ntmps42;go_wp2_with fail;refine H1.out.mono ?_;rintro e w1 ⟨v1,rfl,hv1,hx1⟩;have H2:=zH (zmn hv1 (zt8 s w.heap.size _ (by simp)) (hx1.cell (by simp [go_sem])) hx1.size);clear hv1;go_wp2_with fail;refine H2.out.mono ?_;rintro e w2 ⟨v2,rfl,hv2,hx2⟩;have HV:=zH hv2;clear hv2;go_wp2_with fail;go_ret;exact⟨_,rfl,HV.out.lower (by simp),hx0.trans (Below.trans hx1 hx2)⟩
def setM (l:List Mark) (s:Str) (n:Nat):List Mark:=za0 (zau l s) [(s,n)]
theorem zh4 (l:List Mark) (s:Str):(zau l s).length<=l.length:=Nat.le_trans (List.length_filter_le _ _) (zeo l)
theorem zj9 {S:Nat->Prop} {v:Value} {l:List Mark} {w:World} (s:Str) (n:Nat) (hv:Sl markT w S v l) (hl:l.length<=1099511627776) :
  Calls Tryz.prog 67 #[v,St s,U n] w fun e w'=>∃ v',e=.returned v'/\Own w' w.heap.size 97 2 v' (setM l s n).length ((setM l s n).flatMap zaj)/\Ext w w':=by
 have H1:=zH (zkr s hv hl);clear hv;go_enter Tryz.func67,Tryz.ntmps67;go_wp2_with fail;refine H1.out.mono ?_;rintro e w1 ⟨v1,rfl,hv1,hx1⟩;have hx2:=(Ext.refl w1).alloc (.cells #[St s,U n] 97)
 have hone:Sl markT (w1.alloc (.cells #[St s,U n] 97)) (fun _=>True) (.slice (some ⟨w1.heap.size,0,none⟩) 1 1) [(s,n)] :=
  ⟨_,1,rfl,Nat.le_refl _,by omega,fun pre x post hl=>by
   cases pre with
   | nil=>simp at hl;obtain⟨rfl,-⟩:=hl;exact⟨_,0,_,rfl,trivial,rfl,fun j u hj=>by
     rw [cell_of_row _ w1.heap.size _ #[St s,U n] 97 (0,0) (Go.heap_alloc_new w1 _)]
     simpa [zaj] using hj⟩
   | cons a r=>simp at hl⟩
 have H2:=zH (zjb ((own_markT (S:=fun _=>False).2 (hv1.ext hx2)).sl (S':=fun _=>True) (by decide) (fun _ _ h=>h.elim) (fun _ _ _=>trivial)) hone (Nat.le_trans (zh4 l s) hl) (by simp));clear hv1 hone;go_wp2_with fail;refine H2.out.mono ?_;rintro e w3 ⟨v3,rfl,hv3,hx3⟩;have HV:=zH hv3;have hle:=hx1.size;clear hv3;go_wp2_with fail;go_ret;exact⟨_,rfl,HV.out.lower (by simp;omega),(hx1.trans hx2).trans hx3⟩
theorem zmq (a b:Mark) (W:World):Calls Tryz.prog 121 #[.agg #[St a.1,U a.2],.agg #[St b.1,U b.2]] W fun e w'=>e=.returned (I (cmpD a b))/\∃ q os,w'=Go.Sort.grow (W.drewN q) os:=by
 have H1:=zH zhl;have H2:=zH zm8;have H3:=zH @zwk;go_enter Tryz.func121,Tryz.ntmps121;go_wp2_with fail
 go_region_held3 (fun w'=>w'.cell? ⟨W.heap.size,0,none⟩=some (St a.1)/\w'.cell? ⟨W.heap.size,1,none⟩=some (U a.2)/\w'.cell? ⟨W.heap.size+1,0,none⟩=some (St b.1)/\w'.cell? ⟨W.heap.size+1,1,none⟩=some (U b.2)) (first | (simp [go_sem];done)) (first | (go_at_call 87;refine (H1.out _ _ _).mono ?_;rintro e w' ⟨rfl,rfl⟩) | (go_at_call 131;refine (H2.out _ _ _).mono ?_;rintro e w' ⟨rfl,rfl⟩) | (go_at_call 130;refine (H3.out (cmpS a.1 b.1) (cmpN a.2 b.2) (by simp [go_sem]) (by simp [go_sem])).mono ?_;rintro e w' ⟨rfl,rfl⟩))
 go_wp2;go_ret;exact⟨rfl,1,_,zmo _ _ _ _⟩
end
section
open Go.Sort
theorem zph (s:Str):∀ (l:List Mark) (a x:Nat),l.foldl (fun n m=>if m.1 == s && !s.isEmpty then max n m.2 else n) a<=x↔a<=x/\∀ m ∈ l,m.1=s->s ≠ []->m.2<=x
 | [],a,x=>by simp
 | m :: r,a,x=>by
  rw [List.foldl_cons,zph s r]
  by_cases h:m.1=s
  ·by_cases h0:s = []
   ·subst h0;simp
   ·have:(m.1 == s && !s.isEmpty)=true:=by simp [h,h0]
    rw [this,if_pos rfl]
    constructor
    ·rintro⟨h1,h2⟩;refine ⟨by omega,fun y hy=>?_⟩;rcases List.mem_cons.1 hy with rfl | hy
     ·exact fun _ _=>by omega
     ·exact h2 y hy
    ·rintro⟨h1,h2⟩;have:=h2 m (by simp) h h0;exact⟨by omega,fun y hy=>h2 y (by simp [hy])⟩
  ·have:(m.1 == s && !s.isEmpty)=false:=by simp [h]
   rw [this];simp [h]
theorem ofM_le {l:List Mark} {s:Str} {x:Nat}:ofM l s<=x↔∀ m ∈ l,m.1=s->s ≠ []->m.2<=x:=by
 unfold ofM;rw [zph];simp
theorem znx {l:List Mark} {m:Mark} (h:m ∈ l) (h0:m.1 ≠ []):m.2<=ofM l m.1:=ofM_le.1 (Nat.le_refl _) m h rfl h0
theorem zme {a b:List Mark} {s t:Str} (h:∀ x,ofM a s<=x↔ofM b t<=x):ofM a s=ofM b t:=Nat.le_antisymm ((h _).2 (Nat.le_refl _)) ((h _).1 (Nat.le_refl _))
theorem zff (s:Str):ofM [] s=0:=rfl
theorem zh5 (l:List Mark):ofM l []=0:=Nat.le_zero.1 (ofM_le.2 fun _ _ _ h=>absurd rfl h)
theorem ziz {l:List Mark} {s:Str} (h:ofM l s ≠ 0):∃ m ∈ l,m.1=s/\s ≠ []/\m.2=ofM l s:=by
 refine Classical.byContradiction fun hn=>?_
 have:ofM l s<=ofM l s - 1:=ofM_le.2 fun m hm h1 h2=>by
  have h3:m.2<=ofM l s:=by subst h1;exact znx hm h2
  have h4:m.2 ≠ ofM l s:=fun e=>hn ⟨m,hm,h1,h2,e⟩
  omega
 omega
theorem zwq {a b:List Mark} (h:∀ m,m ∈ a↔m ∈ b) (s:Str):ofM a s=ofM b s:=zme fun x=>by
 rw [ofM_le,ofM_le];exact⟨fun k m hm=>k m ((h m).2 hm),fun k m hm=>k m ((h m).1 hm)⟩
def SortedM (l:List Mark):Prop:=l.Pairwise fun a b=>ltS a.1 b.1=true
def GoodM (l:List Mark):Prop:=SortedM l/\∀ m ∈ l,m.1 ≠ []/\1<=m.2
theorem SortedM.uniq {l:List Mark} (h:SortedM l) {a b:Mark} (ha:a ∈ l) (hb:b ∈ l) (e:a.1=b.1):a=b:=by
 induction l with
 | nil=>simp at ha
 | cons x r ih =>
  obtain⟨h1,h2⟩:=List.pairwise_cons.1 h;rcases List.mem_cons.1 ha with rfl | ha' <;> rcases List.mem_cons.1 hb with rfl | hb'
  ·rfl
  ·have:=h1 b hb';rw [e,zap] at this;cases this
  ·have:=h1 a ha';rw [<- e,zap] at this;cases this
  ·exact ih h2 ha' hb'
theorem SortedM.of {l:List Mark} (h:SortedM l) {m:Mark} (hm:m ∈ l) (h0:m.1 ≠ []):ofM l m.1=m.2:=by
 refine Nat.le_antisymm (ofM_le.2 fun y hy h1 _=>?_) (znx hm h0);rw [h.uniq hy hm h1];exact Nat.le_refl _
theorem SortedM.nodup {l:List Mark} (h:SortedM l):l.Nodup:=h.imp fun {a b} hab e=>by subst e;rw [zap] at hab;cases hab
theorem GoodM.mem_iff {l:List Mark} (h:GoodM l) {m:Mark}:m ∈ l↔m.1 ≠ []/\1<=m.2/\ofM l m.1=m.2:=by
 constructor
 ·intro hm;exact⟨(h.2 m hm).1,(h.2 m hm).2,h.1.of hm (h.2 m hm).1⟩
 ·rintro⟨h1,h2,h3⟩;obtain⟨y,hy,e1,-,e2⟩:=ziz (l:=l) (s:=m.1) (by omega);have:y=m:=Prod.ext e1 (by omega)
  rwa [this] at hy
theorem zov {a b:List Mark} (ha:SortedM a) (hb:SortedM b) (h:∀ m,m ∈ a↔m ∈ b):a=b:=by
 have hp:a.Perm b:=(List.perm_ext_iff_of_nodup ha.nodup hb.nodup).2 h
 have key:∀ {l:List Mark},SortedM l->l.Pairwise (fun x y=>ltOf cmpM y x=false):=fun hl=>hl.imp fun {x y} hxy=>zbt fun h=>by
  rcases cmpM_lt.1 h with h | ⟨h,-⟩
  ·have:=zay hxy h;rw [zap] at this;cases this
  ·rw [h,zap] at hxy;cases hxy
 exact zej zo8 hp (key ha) (key hb)
theorem GoodM.ext {a b:List Mark} (ha:GoodM a) (hb:GoodM b) (h:∀ s,ofM a s=ofM b s):a=b :=
 zov ha.1 hb.1 fun m=>by rw [ha.mem_iff,hb.mem_iff,h]
theorem noM_false {m:Mark}:noM m=false↔m.1 ≠ []/\1<=m.2:=by
 unfold noM;obtain⟨s,n⟩:=m;cases s <;> simp <;> omega
theorem zy6 (l:List Mark) (s:Str):ofM (l.filter fun m=>!noM m) s=ofM l s:=zme fun x=>by
 rw [ofM_le,ofM_le]
 constructor
 ·intro h m hm h1 h2
  cases hn:noM m with
  | false=>exact h m (List.mem_filter.2 ⟨hm,by simp [hn]⟩) h1 h2
  | true =>
   have:¬ (m.1 ≠ []/\1<=m.2):=fun k=>by rw [noM_false.2 k] at hn;cases hn
   have h3:m.1 ≠ []:=(by rw [h1];exact h2);have:¬ 1<=m.2:=fun k=>this ⟨h3,k⟩
   omega
 ·exact fun h m hm=>h m (List.mem_filter.1 hm).1
theorem zjc {a b:Mark} (h:a.1=b.1) (l:List Mark):za6 a l=za6 b l:=by
 cases l with
 | nil=>rfl
 | cons m r=>unfold za6;rw [h]
theorem zg4:∀ (l:List Mark) (a m:Mark),m ∈ za6 a l->m ∈ l
 | [],_,_,h=>by simp [za6] at h
 | b :: r,a,m,h=>by
  unfold za6 at h
  split at h
  ·exact List.mem_cons_of_mem _ (zg4 r b m h)
  ·rcases List.mem_cons.1 h with rfl | h
   ·simp
   ·exact List.mem_cons_of_mem _ (zg4 r b m h)
theorem zlm {l:List Mark} {m:Mark} (h:m ∈ zb0 l):m ∈ l:=by
 cases l with
 | nil=>exact h
 | cons a r =>
  rcases List.mem_cons.1 h with rfl | h
  ·simp
  ·exact List.mem_cons_of_mem _ (zg4 r a m h)
theorem zg5:∀ (l:List Mark) (a m:Mark),(a :: l).Pairwise (fun x y=>ltOf cmpM y x=false)->m ∈ a :: l->∃ y ∈ a :: za6 a l,y.1=m.1/\m.2<=y.2
 | [],a,m,_,hm=>⟨a,by simp,by simp at hm;subst hm;exact⟨rfl,Nat.le_refl _⟩⟩
 | b :: r,a,m,hp,hm=>by
  obtain⟨h1,h2⟩:=List.pairwise_cons.1 hp;obtain⟨h3,h4⟩:=List.pairwise_cons.1 h2;unfold za6
  by_cases hb:b.1=a.1
  ·have:(b.1 == a.1)=true:=by simpa using hb
   rw [this,if_pos rfl,zjc hb];rcases List.mem_cons.1 hm with rfl | hm
   ·exact⟨_,by simp,rfl,Nat.le_refl _⟩
   ·have ha:ltOf cmpM b a=false:=h1 b (by simp);rcases List.mem_cons.1 hm with rfl | hm
    ·refine ⟨a,by simp,hb.symm,?_⟩;rcases ziy ha with h | ⟨-,h⟩
     ·rw [hb,zap] at h;cases h
     ·exact h
    ·exact zg5 r a m (List.pairwise_cons.2 ⟨fun y hy=>h1 y (by simp [hy]),h4⟩) (by simp [hm])
  ·have:(b.1 == a.1)=false:=by simpa using hb
   rw [this];simp only [Bool.false_eq_true,if_false];rcases List.mem_cons.1 hm with rfl | hm
   ·exact⟨_,by simp,rfl,Nat.le_refl _⟩
   ·obtain⟨y,hy,e⟩:=zg5 r b m h2 hm;exact⟨y,by simp only [List.mem_cons] at hy ⊢;exact .inr hy,e⟩
theorem zfq:∀ (l:List Mark) (a:Mark),(a :: l).Pairwise (fun x y=>ltOf cmpM y x=false)->SortedM (a :: za6 a l)
 | [],a,_=>by simp [za6,SortedM]
 | b :: r,a,hp=>by
  obtain⟨h1,h2⟩:=List.pairwise_cons.1 hp;obtain⟨h3,h4⟩:=List.pairwise_cons.1 h2;unfold za6
  by_cases hb:b.1=a.1
  ·have:(b.1 == a.1)=true:=by simpa using hb
   rw [this,if_pos rfl,zjc hb];exact zfq r a (List.pairwise_cons.2 ⟨fun y hy=>h1 y (by simp [hy]),h4⟩)
  ·have:(b.1 == a.1)=false:=by simpa using hb
   rw [this];simp only [Bool.false_eq_true,if_false];have ih:=zfq r b h2
   have hab:ltS a.1 b.1=true:=by
    rcases ziy (h1 b (by simp)) with h | ⟨h,-⟩
    ·exact h
    ·exact absurd h hb
   refine List.pairwise_cons.2 ⟨fun y hy=>?_,ih⟩;rcases List.mem_cons.1 hy with rfl | hy
   ·exact hab
   ·exact zay hab ((List.pairwise_cons.1 ih).1 y hy)
theorem zny {l:List Mark} (hp:l.Pairwise (fun x y=>ltOf cmpM y x=false)):SortedM (zb0 l):=by
 cases l with
 | nil=>simp [zb0,SortedM]
 | cons a r=>exact zfq r a hp
theorem zso {l:List Mark} (hp:l.Pairwise (fun x y=>ltOf cmpM y x=false)) (s:Str):ofM (zb0 l) s=ofM l s:=by
 refine Nat.le_antisymm (ofM_le.2 fun m hm h1 h2=>by subst h1;exact znx (zlm hm) h2) (ofM_le.2 fun m hm h1 h2=>?_)
 cases l with
 | nil=>simp at hm
 | cons a r=>obtain⟨y,hy,e1,e2⟩:=zg5 r a m hp hm;refine Nat.le_trans e2 ?_;rw [<- h1,<- e1];exact znx (l:=zb0 (a :: r)) hy (by rw [e1,h1];exact h2)
theorem zfr (l:List Mark) (s:Str):ofM (zbu l) s=ofM l s:=by
 unfold zbu;rw [zso (zdn zkn _),zwq (fun m=>(zbq _).mem_iff),zy6]
theorem zeq (l:List Mark):GoodM (zbu l):=by
 refine ⟨zny (zdn zkn _),fun m hm=>?_⟩;have:=(zbq _).mem_iff.1 (zlm hm);have h2:=(List.mem_filter.1 this).2;exact noM_false.1 (by simpa using h2)
theorem ze6 (a b:List Mark):∀ p ∈ za3 a b,(∃ m ∈ a,m.1=p.1) ∨ (∃ m ∈ b,m.1=p.1):=by
 fun_induction za3 a b with
 | case1=>simp
 | case2 x r ih =>
  intro p hp;rcases List.mem_cons.1 hp with rfl | hp
  ·exact .inl ⟨x,by simp,rfl⟩
  ·rcases ih p hp with ⟨m,hm,e⟩ | ⟨m,hm,e⟩
   ·exact .inl ⟨m,by simp [hm],e⟩
   ·simp at hm
 | case3 y s ih =>
  intro p hp;rcases List.mem_cons.1 hp with rfl | hp
  ·exact .inr ⟨y,by simp,rfl⟩
  ·rcases ih p hp with ⟨m,hm,e⟩ | ⟨m,hm,e⟩
   ·simp at hm
   ·exact .inr ⟨m,by simp [hm],e⟩
 | case4 x r y s h ih =>
  intro p hp;rcases List.mem_cons.1 hp with rfl | hp
  ·exact .inr ⟨y,by simp,rfl⟩
  ·rcases ih p hp with ⟨m,hm,e⟩ | ⟨m,hm,e⟩
   ·exact .inl ⟨m,by simp [hm],e⟩
   ·exact .inr ⟨m,by simp [hm],e⟩
 | case5 x r y s h h' ih =>
  intro p hp;rcases List.mem_cons.1 hp with rfl | hp
  ·exact .inl ⟨x,by simp,rfl⟩
  ·rcases ih p hp with ⟨m,hm,e⟩ | ⟨m,hm,e⟩
   ·exact .inl ⟨m,by simp [hm],e⟩
   ·exact .inr ⟨m,hm,e⟩
 | case6 x r y s h h' ih =>
  intro p hp;rcases List.mem_cons.1 hp with rfl | hp
  ·exact .inr ⟨y,by simp,rfl⟩
  ·rcases ih p hp with ⟨m,hm,e⟩ | ⟨m,hm,e⟩
   ·exact .inl ⟨m,hm,e⟩
   ·exact .inr ⟨m,by simp [hm],e⟩
theorem GoodM.tail {x:Mark} {r:List Mark} (h:GoodM (x :: r)):GoodM r:=⟨(List.pairwise_cons.1 h.1).2,fun m hm=>h.2 m (by simp [hm])⟩
theorem GoodM.head {x:Mark} {r:List Mark} (h:GoodM (x :: r)):∀ m ∈ r,ltS x.1 m.1=true:=(List.pairwise_cons.1 h.1).1
theorem zln:GoodM []:=⟨.nil,by simp⟩
theorem zfg {x:Mark} {r:List Mark} {s:Str} (h:x.1 ≠ s):ofM (x :: r) s=ofM r s:=zme fun n=>by
 rw [ofM_le,ofM_le]
 exact⟨fun k m hm=>k m (by simp [hm]),fun k m hm h1 h2=>by
  rcases List.mem_cons.1 hm with rfl | hm
  ·exact absurd h1 h
  ·exact k m hm h1 h2⟩
theorem zgi {l:List Mark} {s:Str} (h:∀ m ∈ l,m.1 ≠ s):ofM l s=0:=Nat.le_zero.1 (ofM_le.2 fun m hm h1 _=>absurd h1 (h m hm))
theorem GoodM.of_head {x:Mark} {r:List Mark} (h:GoodM (x :: r)):ofM (x :: r) x.1=x.2:=h.1.of (by simp) (h.2 x (by simp)).1
theorem zjt {a b:Str} (h:ltS a b=true):b ≠ a:=(zck h).symm
theorem zek (a b:List Mark):GoodM a->GoodM b->(za3 a b).Pairwise fun p q=>ltS p.1 q.1=true:=by
 fun_induction za3 a b with
 | case1=>exact fun _ _=>.nil
 | case2 x r ih =>
  intro ha hb;refine List.pairwise_cons.2 ⟨fun p hp=>?_,ih ha.tail hb⟩;rcases ze6 _ _ p hp with ⟨m,hm,e⟩ | ⟨m,hm,e⟩
  ·rw [<- e];exact ha.head m hm
  ·simp at hm
 | case3 y s ih =>
  intro ha hb;refine List.pairwise_cons.2 ⟨fun p hp=>?_,ih ha hb.tail⟩;rcases ze6 _ _ p hp with ⟨m,hm,e⟩ | ⟨m,hm,e⟩
  ·simp at hm
  ·rw [<- e];exact hb.head m hm
 | case4 x r y s h ih =>
  intro ha hb;have h':x.1=y.1:=by simpa using h
  refine List.pairwise_cons.2 ⟨fun p hp=>?_,ih ha.tail hb.tail⟩;rcases ze6 _ _ p hp with ⟨m,hm,e⟩ | ⟨m,hm,e⟩
  ·rw [<- e];show ltS y.1 m.1=true;rw [<- h'];exact ha.head m hm
  ·rw [<- e];exact hb.head m hm
 | case5 x r y s h h' ih =>
  intro ha hb;refine List.pairwise_cons.2 ⟨fun p hp=>?_,ih ha.tail hb⟩;rcases ze6 _ _ p hp with ⟨m,hm,e⟩ | ⟨m,hm,e⟩
  ·rw [<- e];exact ha.head m hm
  ·rw [<- e];rcases List.mem_cons.1 hm with rfl | hm
   ·exact h'
   ·exact zay h' (hb.head m hm)
 | case6 x r y s h h' ih =>
  intro ha hb
  have hyx:ltS y.1 x.1=true:=by
   rcases zcj x.1 y.1 with k | k | k
   ·exact absurd k h'
   ·exact absurd (by simpa using k) h
   ·exact k
  refine List.pairwise_cons.2 ⟨fun p hp=>?_,ih ha hb.tail⟩;rcases ze6 _ _ p hp with ⟨m,hm,e⟩ | ⟨m,hm,e⟩
  ·rw [<- e];rcases List.mem_cons.1 hm with rfl | hm
   ·exact hyx
   ·exact zay hyx (ha.head m hm)
  ·rw [<- e];exact hb.head m hm
theorem zim (a b:List Mark):GoodM a->GoodM b->∀ p ∈ za3 a b,p.2.1=ofM a p.1/\p.2.2=ofM b p.1:=by
 fun_induction za3 a b with
 | case1=>intro _ _ p hp;simp at hp
 | case2 x r ih =>
  intro ha hb p hp;have hs:=zek (x :: r) [] ha hb;rw [zfm] at hs;rcases List.mem_cons.1 hp with rfl | hp
  ·exact⟨ha.of_head.symm,(zff _).symm⟩
  ·obtain⟨e1,e2⟩:=ih ha.tail hb p hp;rw [zfg (zck ((List.pairwise_cons.1 hs).1 p hp))];exact⟨e1,e2⟩
 | case3 y s ih =>
  intro ha hb p hp;have hs:=zek [] (y :: s) ha hb;rw [zfn] at hs;rcases List.mem_cons.1 hp with rfl | hp
  ·exact⟨(zff _).symm,hb.of_head.symm⟩
  ·obtain⟨e1,e2⟩:=ih ha hb.tail p hp;rw [zfg (x:=y) (zck ((List.pairwise_cons.1 hs).1 p hp))];exact⟨e1,e2⟩
 | case4 x r y s h ih =>
  intro ha hb p hp;obtain⟨xs,xn⟩:=x;obtain⟨ys,yn⟩:=y;have h':xs=ys:=by simpa using h
  subst h';have hs:=zek ((xs,xn) :: r) ((xs,yn) :: s) ha hb;rw [zpd] at hs;rcases List.mem_cons.1 hp with rfl | hp
  ·exact⟨ha.of_head.symm,hb.of_head.symm⟩
  ·obtain⟨e1,e2⟩:=ih ha.tail hb.tail p hp;have hne:=zck ((List.pairwise_cons.1 hs).1 p hp);rw [zfg (x:=(xs,xn)) hne,zfg (x:=(xs,yn)) hne];exact⟨e1,e2⟩
 | case5 x r y s h h' ih =>
  intro ha hb p hp;have hs:=zek (x :: r) (y :: s) ha hb;rw [zpe r s (by simpa using h) h'] at hs;rcases List.mem_cons.1 hp with rfl | hp
  ·refine ⟨ha.of_head.symm,(zgi fun m hm=>?_).symm⟩;rcases List.mem_cons.1 hm with rfl | hm
   ·exact zjt h'
   ·exact zjt (zay h' (hb.head m hm))
  ·obtain⟨e1,e2⟩:=ih ha.tail hb p hp;rw [zfg (zck ((List.pairwise_cons.1 hs).1 p hp))];exact⟨e1,e2⟩
 | case6 x r y s h h' ih =>
  intro ha hb p hp
  have hyx:ltS y.1 x.1=true:=by
   rcases zcj x.1 y.1 with k | k | k
   ·exact absurd k h'
   ·exact absurd (by simpa using k) h
   ·exact k
  have hs:=zek (x :: r) (y :: s) ha hb;rw [zpf r s (by simpa using h) (by simpa using h')] at hs;rcases List.mem_cons.1 hp with rfl | hp
  ·refine ⟨(zgi fun m hm=>?_).symm,hb.of_head.symm⟩;rcases List.mem_cons.1 hm with rfl | hm
   ·exact zjt hyx
   ·exact zjt (zay hyx (ha.head m hm))
  ·obtain⟨e1,e2⟩:=ih ha hb.tail p hp;rw [zfg (x:=y) (zck ((List.pairwise_cons.1 hs).1 p hp))];exact⟨e1,e2⟩
theorem znz (a b:List Mark) (s:Str):(∃ m ∈ a,m.1=s) ∨ (∃ m ∈ b,m.1=s)->∃ p ∈ za3 a b,p.1=s:=by
 fun_induction za3 a b with
 | case1=>simp
 | case2 x r ih =>
  rintro (⟨m,hm,e⟩ | ⟨m,hm,e⟩)
  ·rcases List.mem_cons.1 hm with rfl | hm
   ·exact⟨_,List.mem_cons_self,e⟩
   ·obtain⟨p,hp,e'⟩:=ih (.inl ⟨m,hm,e⟩);exact⟨p,by simp only [List.mem_cons];exact .inr hp,e'⟩
  ·simp at hm
 | case3 y s' ih =>
  rintro (⟨m,hm,e⟩ | ⟨m,hm,e⟩)
  ·simp at hm
  ·rcases List.mem_cons.1 hm with rfl | hm
   ·exact⟨_,List.mem_cons_self,e⟩
   ·obtain⟨p,hp,e'⟩:=ih (.inr ⟨m,hm,e⟩);exact⟨p,by simp only [List.mem_cons];exact .inr hp,e'⟩
 | case4 x r y s' h ih =>
  have h':x.1=y.1:=by simpa using h
  rintro (⟨m,hm,e⟩ | ⟨m,hm,e⟩)
  ·rcases List.mem_cons.1 hm with rfl | hm
   ·exact⟨_,List.mem_cons_self,h'.symm.trans e⟩
   ·obtain⟨p,hp,e'⟩:=ih (.inl ⟨m,hm,e⟩);exact⟨p,by simp only [List.mem_cons];exact .inr hp,e'⟩
  ·rcases List.mem_cons.1 hm with rfl | hm
   ·exact⟨_,List.mem_cons_self,e⟩
   ·obtain⟨p,hp,e'⟩:=ih (.inr ⟨m,hm,e⟩);exact⟨p,by simp only [List.mem_cons];exact .inr hp,e'⟩
 | case5 x r y s' h h' ih =>
  rintro (⟨m,hm,e⟩ | ⟨m,hm,e⟩)
  ·rcases List.mem_cons.1 hm with rfl | hm
   ·exact⟨_,List.mem_cons_self,e⟩
   ·obtain⟨p,hp,e'⟩:=ih (.inl ⟨m,hm,e⟩);exact⟨p,by simp only [List.mem_cons];exact .inr hp,e'⟩
  ·obtain⟨p,hp,e'⟩:=ih (.inr ⟨m,hm,e⟩);exact⟨p,by simp only [List.mem_cons];exact .inr hp,e'⟩
 | case6 x r y s' h h' ih =>
  rintro (⟨m,hm,e⟩ | ⟨m,hm,e⟩)
  ·obtain⟨p,hp,e'⟩:=ih (.inl ⟨m,hm,e⟩);exact⟨p,by simp only [List.mem_cons];exact .inr hp,e'⟩
  ·rcases List.mem_cons.1 hm with rfl | hm
   ·exact⟨_,List.mem_cons_self,e⟩
   ·obtain⟨p,hp,e'⟩:=ih (.inr ⟨m,hm,e⟩);exact⟨p,by simp only [List.mem_cons];exact .inr hp,e'⟩
theorem zcp (a b:List Mark):GoodM (za0 a b):=by
 have ga:=zeq a;have gb:=zeq b;refine ⟨?_,fun m hm=>?_⟩
 ·unfold za0 SortedM;rw [List.pairwise_map];exact zek _ _ ga gb
 ·unfold za0 at hm;obtain⟨p,hp,rfl⟩:=List.mem_map.1 hm;obtain⟨e1,e2⟩:=zim _ _ ga gb p hp;rcases ze6 _ _ p hp with ⟨m,hm,e⟩ | ⟨m,hm,e⟩
  ·have h1:=ga.2 m hm;have h2:=ga.1.of hm h1.1;rw [e] at h1 h2;exact⟨h1.1,by show 1<=max p.2.1 p.2.2;rw [e1,h2];omega⟩
  ·have h1:=gb.2 m hm;have h2:=gb.1.of hm h1.1;rw [e] at h1 h2;exact⟨h1.1,by show 1<=max p.2.1 p.2.2;rw [e2,h2];omega⟩
theorem zfs (a b:List Mark) (s:Str):ofM (za0 a b) s=max (ofM a s) (ofM b s):=by
 have ga:=zeq a;have gb:=zeq b;rw [<- zfr a,<- zfr b]
 by_cases h0:s = []
 ·subst h0;rw [zh5,zh5,zh5];rfl
 by_cases h:(∃ m ∈ zbu a,m.1=s) ∨ (∃ m ∈ zbu b,m.1=s)
 ·obtain⟨p,hp,e⟩:=znz _ _ s h;obtain⟨e1,e2⟩:=zim _ _ ga gb p hp;have hm:(p.1,max p.2.1 p.2.2) ∈ za0 a b:=List.mem_map.2 ⟨p,hp,rfl⟩;have:=(zcp a b).1.of hm (by rw [e];exact h0);rw [e] at this e1 e2;rw [this,e1,e2]
 ·have h1:∀ m ∈ zbu a,m.1 ≠ s:=fun m hm e=>h (.inl ⟨m,hm,e⟩)
  have h2:∀ m ∈ zbu b,m.1 ≠ s:=fun m hm e=>h (.inr ⟨m,hm,e⟩)
  rw [zgi h1,zgi h2];refine zgi fun m hm e=>?_
  unfold za0 at hm;obtain⟨p,hp,rfl⟩:=List.mem_map.1 hm;rcases ze6 _ _ p hp with ⟨m,hm,e'⟩ | ⟨m,hm,e'⟩
  ·exact h1 m hm (e'.trans e)
  ·exact h2 m hm (e'.trans e)
theorem coversM_iff {a b:List Mark}:zbm a b=true↔∀ s,ofM b s<=ofM a s:=by
 have ga:=zeq a;have gb:=zeq b;unfold zbm;rw [List.all_eq_true]
 constructor
 ·intro h s;rw [<- zfr a,<- zfr b]
  by_cases h0:ofM (zbu b) s=0
  ·omega
  ·obtain⟨m,hm,e,-,e'⟩:=ziz h0;obtain⟨p,hp,e2⟩:=znz (zbu a) (zbu b) s (.inr ⟨m,hm,e⟩);obtain⟨e3,e4⟩:=zim _ _ ga gb p hp;have:=h p hp;simp at this;rw [e2] at e3 e4;omega
 ·intro h p hp;obtain⟨e3,e4⟩:=zim _ _ ga gb p hp;have:=h p.1;rw [<- zfr a,<- zfr b] at this;simp;omega
theorem ze7 (l:List Mark) (s:Str):GoodM (zau l s):=by
 have h:=zeq l;exact⟨h.1.sublist List.filter_sublist,fun m hm=>h.2 m (List.mem_filter.1 hm).1⟩
theorem zcs (l:List Mark) (s t:Str):ofM (zau l s) t=if t=s then 0 else ofM l t:=by
 rw [<- zfr l];unfold zau
 split
 ·rename_i h;subst h
  exact zgi fun m hm e=>by have:=(List.mem_filter.1 hm).2;simp [e] at this
 ·rename_i h;refine zme fun x=>?_
  rw [ofM_le,ofM_le]
  constructor
  ·intro k m hm h1 h2;exact k m (List.mem_filter.2 ⟨hm,by simp [h1,h]⟩) h1 h2
  ·exact fun k m hm=>k m (List.mem_filter.1 hm).1
theorem zft (l:List Mark) (s:Str) (n:Nat):GoodM (setM l s n):=zcp _ _
theorem ztw (s:Str) (n:Nat) (t:Str):ofM [(s,n)] t=if t=s/\s ≠ [] then n else 0:=by
 unfold ofM
 by_cases h:t=s
 ·subst h
  by_cases h0:t = []
  ·subst h0;simp
  ·simp [h0]
 ·have:s ≠ t:=fun e=>h e.symm
  simp [this,h]
theorem zho (l:List Mark) (s:Str) (n:Nat) (t:Str):ofM (setM l s n) t=if t=s then (if s = [] then 0 else n) else ofM l t:=by
 unfold setM;rw [zfs,zcs,ztw]
 by_cases h:t=s
 ·by_cases h0:s = [] <;> simp [h,h0]
 ·simp [h]
theorem zlo:∀ (l:List Mark) (last:Str),zd5 last l=true↔(∀ m ∈ l,ltS last m.1=true)/\SortedM l/\∀ m ∈ l,1<=m.2/\m.2<=281474976710656
 | [],_=>by simp [zd5,SortedM]
 | m :: r,last=>by
  have hle:(leS m.1 last=false)↔ltS last m.1=true:=by
   unfold leS;rcases zfp m.1 last with ⟨q1,q2,q3,q4,q5⟩ | q | ⟨q1,q2,q3,q4,q5⟩
   ·simp only [ltS] at *;simp [q1,q2]
   ·have:=zap last;simp only [ltS] at *;simp [q,this]
   ·simp only [ltS] at *;simp [q1,q2,q5]
  simp only [zd5,Bool.and_eq_true,Bool.not_eq_true',decide_eq_true_eq,zlo r m.1,hle]
  constructor
  ·rintro⟨⟨⟨h1,h2⟩,h3⟩,h4,h5,h6⟩;refine ⟨fun y hy=>?_,List.pairwise_cons.2 ⟨h4,h5⟩,fun y hy=>?_⟩
   ·rcases List.mem_cons.1 hy with rfl | hy
    ·exact h1
    ·exact zay h1 (h4 y hy)
   ·rcases List.mem_cons.1 hy with rfl | hy
    ·exact⟨h2,h3⟩
    ·exact h6 y hy
  ·rintro⟨h1,h2,h3⟩;obtain⟨k1,k2⟩:=List.pairwise_cons.1 h2;exact⟨⟨⟨h1 m (by simp),(h3 m (by simp)).1⟩,(h3 m (by simp)).2⟩,k1,k2,fun y hy=>h3 y (by simp [hy])⟩
theorem mayM_iff {l:List Mark}:mayM l=true↔l.length<=512/\GoodM l/\∀ m ∈ l,m.2<=281474976710656:=by
 unfold mayM;rw [Bool.and_eq_true,decide_eq_true_eq,zlo]
 constructor
 ·rintro⟨h0,h1,h2,h3⟩;exact⟨h0,⟨h2,fun m hm=>⟨fun e=>(by have:=h1 m hm;rw [e,yay] at this;cases this),(h3 m hm).1⟩⟩,fun m hm=>(h3 m hm).2⟩
 ·rintro⟨h0,⟨h1,h2⟩,h3⟩;exact⟨h0,fun m hm=>yaz (h2 m hm).1,h1,fun m hm=>⟨(h2 m hm).2,h3 m hm⟩⟩
theorem zpi {l:List Mark} (h:GoodM l):za0 l []=l:=(zcp _ _).ext h fun s=>by rw [zfs,zff];omega
theorem zka (l:List Mark):za0 l []=zbu l:=(zcp _ _).ext (zeq _) fun s=>by rw [zfs,zff,zfr];omega
end
section
open Go.RowKit Go.Shelf
theorem zsp (m:Mark) (s:Str) (W:World):Calls Tryz.prog 204 #[.agg #[St m.1,U m.2],St s] W fun e w'=>e=.returned (I (cmpS m.1 s))/\Ext W w':=by
 have H1:=zH zhl;go_enter Tryz.func204,Tryz.ntmps204;go_wp2_with fail;refine (H1.out _ _ _).mono ?_;rintro e w' ⟨rfl,rfl⟩;go_wp2;go_ret;exact⟨rfl,(Ext.refl _).alloc _⟩
def Cut (l:List Str) (s:Str) (i j:Nat):Prop:=(∀ k x,k < i->l[k]? = some x->ltS x s=true)/\(∀ k x,j<=k->l[k]? = some x->ltS x s=false)
def RiseS (l:List Str):Prop:=l.Pairwise fun a b=>ltS a b=true
theorem RiseS.lt {l:List Str} (h:RiseS l) {i j:Nat} {x y:Str} (hij:i < j) (hx:l[i]? = some x) (hy:l[j]? = some y):ltS x y=true:=by
 obtain⟨h1,rfl⟩:=List.getElem?_eq_some_iff.1 hx;obtain⟨h2,rfl⟩:=List.getElem?_eq_some_iff.1 hy;exact List.pairwise_iff_getElem.1 h i j h1 h2 hij
theorem Cut.left {l:List Str} {s x:Str} {i j h:Nat} (hR:RiseS l) (hc:Cut l s i j) (hx:l[h]? = some x) (hlt:ltS x s=true):Cut l s (h+1) j:=by
 refine ⟨fun k y hk hy=>?_,hc.2⟩;rcases Nat.lt_or_ge k h with h1 | h1
 ·exact zay (hR.lt h1 hy hx) hlt
 ·obtain rfl:k=h:=by omega
  rw [hx] at hy;cases hy;exact hlt
theorem Cut.right {l:List Str} {s x:Str} {i j h:Nat} (hR:RiseS l) (hc:Cut l s i j) (hx:l[h]? = some x) (hlt:ltS x s=false):Cut l s i h:=by
 refine ⟨hc.1,fun k y hk hy=>zbt fun hy2=>?_⟩;rcases Nat.lt_or_ge h k with h1 | h1
 ·rw [zay (hR.lt h1 hx hy) hy2] at hlt;cases hlt
 ·obtain rfl:k=h:=by omega
  rw [hx] at hy;cases hy;rw [hlt] at hy2;cases hy2
theorem zpj {l:List Mark} (h:SortedM l):RiseS (l.map (·.1)):=by unfold RiseS;rw [List.pairwise_map];exact h
def Found (l:List Str) (s:Str) (i:Nat) (is:Bool):Prop:=i<=l.length/\Cut l s i i/\is=(l[i]? == some s)
theorem Found.yes {l:List Str} {s:Str} {i:Nat} (h:Found l s i true):l[i]? = some s:=by have:=h.2.2;simpa using this.symm
theorem Found.no {l:List Str} {s:Str} {i:Nat} (hR:RiseS l) (h:Found l s i false):s ∉ l:=fun hs=>by
 obtain⟨k,hk⟩:=List.getElem?_of_mem hs;rcases Nat.lt_trichotomy k i with h1 | h1 | h1
 ·have:=h.2.1.1 k s h1 hk;rw [zap] at this;cases this
 ·subst h1;have:=h.2.2;rw [hk] at this;simp at this
 ·have hil:i < l.length:=Nat.lt_trans h1 (List.getElem?_eq_some_iff.1 hk).1;have hx:l[i]? = some l[i]:=List.getElem?_eq_getElem hil;have h2:=h.2.1.2 i _ (Nat.le_refl _) hx;rw [hR.lt h1 hx hk] at h2;cases h2
theorem zq4 {S:Nat->Prop} {v:Value} {l:List Mark} {w:World} (s:Str) (hv:Sl markT w S v l) (hR:SortedM l) (hl40:l.length<=1099511627776) :
  Calls Tryz.prog 203 #[v,St s,.func (.func 204) #[] #[]] w fun e w'=>∃ (i:Nat) (is:Bool),e=.returned (.tuple #[I i,.bool is])/\Found (l.map (·.1)) s i is/\Ext w w':=by
 have hv':=hv;obtain⟨A,c,rfl,h1,h2⟩:=hv.form;have eg:∀ args w,(callFunc 204 args).run Tryz.prog w=.ok (.enter 204 args) w:=enters_of Tryz.func204 (by kernel_rfl) rfl;have HK:=zH zsp;have HR:=zH (zpj hR)
 have HAT:=zH (fun (k:Nat) (m:Mark) (wr:World) (h:Ext w wr) (hm:l[k]? = some m)=>by
  have hlt:=(List.getElem?_eq_some_iff.1 hm).1
  have hs:l=l.take k++m :: l.drop (k+1):=by have e:=(List.getElem?_eq_some_iff.1 hm).2;rw [<- e,List.getElem_cons_drop,List.take_append_drop]
  have:=zf1 hv' h hs
  rwa [show (l.take k).length=k by simp;omega] at this)
 clear hv hv' hR;go_enter Tryz.func203,Tryz.ntmps203;go_wp2_with fail
 go_loopw [9,10] (fun a b wr=>∃ i j:Nat,a=I i/\b=I j/\i<=j/\j<=l.length/\Hid (Cut (l.map (·.1)) s i j)/\Ext w wr) (fun a b _=>(intOf b).toNat - (intOf a).toNat)
 case atStart=>exact⟨0,l.length,rfl,rfl,Nat.zero_le _,Nat.le_refl _,zH ⟨fun k x hk=>by omega,fun k x hk hx=>by have:=(List.getElem?_eq_some_iff.1 hx).1;simp at this;omega⟩,Ext.refl _⟩
 case round =>
  obtain⟨i,j,rfl,rfl,hij,hjn,hcut,hx⟩:=hrel
  by_cases hlt:i < j
  ·obtain⟨h,hh⟩:∃ h,(i+j) / 2=h:=⟨_,rfl⟩
   have hh1:i<=h:=(by omega);have hh2:h < j:=(by omega);have hhl:h < l.length:=(by omega);obtain⟨m,hm⟩:∃ m,l[h]? = some m:=⟨_,List.getElem?_eq_getElem hhl⟩
   obtain⟨b,o,rfl,hd0,hd1⟩:=HAT.out h m wr hx hm;have HD:=zH (HK.out m s wr);have HM:=zH hm;have HX:=zH hx;clear hm hx;have hsum:IntKind.i64.wrap ((i:Int)+j)=(i:Int)+j:=IntWalk.i64_in _ (by omega);have hmid:∀ n:Int,n=(i+j) / 2->n=h:=fun n hn=>by omega
   have HMID:=zH hmid;clear hmid;have hx':(l.map (·.1))[h]? = some m.1:=(by rw [List.getElem?_map,HM.out];rfl);have HX':=zH hx';clear hx';cases hq:ltS m.1 s
   ·have hneg:¬ cmpS m.1 s < 0:=fun k=>by rw [cmpS_lt.1 k] at hq;cases hq
    have HQ:=zH hq;clear hq;go_wp2_with fail;refine HD.out.mono ?_;rintro e w2 ⟨rfl,hx2⟩;go_wp2_with fail;go_roundw
    case rel=>exact⟨i,h,rfl,congrArg (Value.int .i64) (HMID.out _ rfl),hh1,by omega,zH (Cut.right HR.out hcut.out HX'.out HQ.out),HX.out.trans hx2⟩
    case measure=>simp only [intOf];omega
   ·have hneg:cmpS m.1 s < 0:=cmpS_lt.2 hq;have HQ:=zH hq;clear hq;go_wp2_with fail;refine HD.out.mono ?_;rintro e w2 ⟨rfl,hx2⟩;go_wp2_with fail;go_roundw
    case rel=>exact⟨h+1,j,congrArg (Value.int .i64) (by have:=HMID.out _ rfl;omega),rfl,by omega,hjn,zH (Cut.left HR.out hcut.out HX'.out HQ.out),HX.out.trans hx2⟩
    case measure=>simp only [intOf];omega
  ·obtain rfl:i=j:=by omega
   have HX:=zH hx;clear hx
   by_cases hin:i < l.length
   ·obtain⟨m,hm⟩:∃ m,l[i]? = some m:=⟨_,List.getElem?_eq_getElem hin⟩
    obtain⟨b,o,rfl,hd0,hd1⟩:=HAT.out i m wr HX.out hm;have HD:=zH (HK.out m s wr);have hx':(l.map (·.1))[i]? = some m.1:=(by rw [List.getElem?_map,hm];rfl);have HX':=zH hx';clear hx' hm
    by_cases he:m.1=s
    ·have h0:cmpS m.1 s=0:=cmpS_eq.2 he;have HE:=zH he;have H0:=zH h0;clear he h0;go_wp2_with fail;refine HD.out.mono ?_;rintro e w2 ⟨rfl,hx2⟩;rw [H0.out];go_wp2_with fail
     go_ret2
     exact⟨i,true,rfl,⟨by simpa using Nat.le_of_lt hin,hcut.out,by rw [HX'.out,HE.out];simp⟩,HX.out.trans hx2⟩
    ·have h0:(cmpS m.1 s == 0)=false:=by rw [beq_eq_false_iff_ne];exact fun k=>he (cmpS_eq.1 k)
     have HE:=zH he;clear he;go_wp2_with fail;refine HD.out.mono ?_;rintro e w2 ⟨rfl,hx2⟩;go_wp2_with fail
     go_ret2
     exact⟨i,false,rfl,⟨by simpa using Nat.le_of_lt hin,hcut.out,by rw [HX'.out];simp [HE.out]⟩,HX.out.trans hx2⟩
   ·go_wp2_with fail
    go_ret2
    exact⟨i,false,rfl,⟨by simpa using hjn,hcut.out,by rw [List.getElem?_eq_none (by simp;omega)];simp⟩,HX.out⟩
end
end Go.Proofs.YtaabaflgeljbjaaGreat
