/- Laws. -/
import Derived.Test.YtblkikjmocnllaaGreatDoorQz15
import Derived.BigRegion
set_option linter.unusedVariables false
set_option linter.unusedSimpArgs false
set_option maxRecDepth 100000
set_option maxHeartbeats 40000000
namespace Go.Proofs.YtblkikjmocnllaaGreatDoor
section
open Go.RowKit Go.Shelf
def RowI (w:World) (g:Nat) (l:List Int) (tail:List Value):Prop:=RowIs w g 3 (l.map I) tail
section
variable {w w':World} {g j:Nat} {A B l:List Int} {tail:List Value} {x:Int}
theorem RowI.setAt (h:RowI w g (A++x :: B) tail) (hj:j=A.length) (y:Int):RowI (w.setCell ⟨g,j,none⟩ (I y)) g (A++y :: B) tail:=by
 subst hj
 unfold RowI at h ⊢
 have h1:=h.set (j:=A.length) (by simp) (I y)
 rw [List.map_append,List.map_cons,List.set_append_right _ _ (by simp),List.length_map,Nat.sub_self,List.set_cons_zero] at h1
 rw [List.map_append,List.map_cons]
 exact h1
theorem RowI.cellAt (h:RowI w g (A++x :: B) tail) (hj:j=A.length):w.cell? ⟨g,j,none⟩=some (I x):=by
 subst hj
 exact RowIs.cell h (by simp)
theorem RowI.frozen (h:RowI w g l tail) (j:Nat):w.frozen? ⟨g,j,none⟩=false:=RowIs.frozen h j
theorem RowI.lt (h:RowI w g l tail):g < w.heap.size:=RowIs.lt h
theorem RowI.ext (h:RowI w g l tail) (hx:Ext w w'):RowI w' g l tail:=RowIs.ext h hx
end
theorem ButV.drew {v:Value} {w w':World} (h:ButV v w w'):ButV v w w'.drew:=⟨h.os,h.tape,h.output,h.size,h.same⟩
theorem RowI.drew {w:World} {g:Nat} {l:List Int} {tail:List Value} (h:RowI w g l tail):RowI w.drew g l tail:=h
theorem swap_any {g n c a b m:Nat} {P A Q B R:List Int} {tail:List Value} {w:World} (hr:RowI w g (P++A++Q++B++R) tail) (ha:P.length=a) (hA:A.length=m) (hb:P.length+A.length+Q.length=b) (hB:B.length=m) (hn:P.length+A.length+Q.length+B.length+R.length=n) (hm:n<=4611686018427387904) (hc:n<=c) (cv:Value) :
  Calls Tryz.prog 209 #[.slice (some ⟨g,0,none⟩) n c,I a,I b,I m,cv] w fun e w'=>e=.returned (.tuple #[])/\RowI w' g (P++B++Q++A++R) tail/\ButV (.slice (some ⟨g,0,none⟩) n c) w w':=by
 have HR:=Lib.hid hr
 have HE:=Lib.hid (show P.length=a/\A.length=m/\P.length+A.length+Q.length=b/\B.length=m/\P.length+A.length+Q.length+B.length+R.length=n from ⟨ha,hA,hb,hB,hn⟩)
 have hbm:b+m<=n:=by omega
 have ham:a+m<=b:=by omega
 have hb0:=Lib.hid ((Ext.refl w).but (.slice (some ⟨g,0,none⟩) n c))
 clear hr ha hA hb hB hn
 go_enter Tryz.func209,Tryz.ntmps209
 go_wp2_with fail
 go_loopw [10] (fun i wr=>∃ (k:Nat) (A1 A2 B1 B2:List Int),A=A1++A2/\B=B1++B2/\Hid (A1.length=k/\B1.length=k)/\i=I k/\RowI wr g (P++B1++A2++Q++A1++B2++R) tail/\ButV (.slice (some ⟨g,0,none⟩) n c) w wr) (fun i _=>m - (intOf i).toNat)
 case atStart=>exact⟨0,[],A,[],B,rfl,rfl,Lib.hid ⟨rfl,rfl⟩,rfl,by simpa using HR.out,hb0.out⟩
 case round =>
  obtain⟨k,A1,A2,B1,B2,rfl,rfl,hl,rfl,hrow,hb⟩:=hrel
  have hgw:g < wr.heap.size:=hrow.lt
  cases A2 with
  | nil =>
   have hk:k=m:=by have h1:=HE.out;have h2:=hl.out;simp only [List.length_append,List.length_cons,List.length_nil] at h1;omega
   subst hk
   have hB2:B2 = []:=List.length_eq_zero_iff.1 (by have h1:=HE.out;have h2:=hl.out;simp only [List.length_append,List.length_nil] at h1;omega)
   subst hB2
   have HF:=Lib.hid (And.intro hrow hb)
   clear hrow hb
   go_wp2
   go_end0
   exact⟨rfl,by have:=HF.out.1;simp only [List.append_nil] at this ⊢;exact this,HF.out.2⟩
  | cons x A2 =>
   have hk:k < m:=by have h1:=HE.out;have h2:=hl.out;simp only [List.length_append,List.length_cons,List.length_nil] at h1;omega
   cases B2 with
   | nil=>have h1:=HE.out;have h2:=hl.out;simp at h1;omega
   | cons y B2 =>
    have hrow1:RowI wr g ((P++B1)++x :: (A2++Q++A1++y :: B2++R)) tail:=by simpa using hrow
    have hrow2:RowI wr g ((P++B1++x :: A2++Q++A1)++y :: (B2++R)) tail:=by simpa using hrow
    have hj1:a+k=(P++B1).length:=by have h1:=HE.out;have h2:=hl.out;simp only [List.length_append];omega
    have hj2:b+k=(P++B1++x :: A2++Q++A1).length:=by have h1:=HE.out;have h2:=hl.out;simp only [List.length_append,List.length_cons] at h1 ⊢;omega
    have q1:=hrow1.cellAt hj1
    have q2:=hrow2.cellAt hj2
    have f1:=hrow.frozen (a+k)
    have f2:=hrow.frozen (b+k)
    have HF:=Lib.hid (And.intro hrow (And.intro hb (And.intro hj1 hj2)))
    clear hrow hb hj1 hj2 hrow1 hrow2
    have hak:a+k < b+k:=by omega
    have hbk:b+k < n:=by omega
    go_wp2_with fail
    go_region
    have hown:ownBlk (.slice (some ⟨g,0,none⟩) n c) g:=⟨g,n,c,rfl,by omega,rfl⟩
    obtain⟨hrow,hb,hj1,hj2⟩:=HF.out
    have r1:RowI (wr.setCell ⟨g,a+k,none⟩ (I y)) g (P++B1++y :: (A2++Q++A1++y :: B2++R)) tail:=RowI.setAt (x:=x) (by simpa using hrow) hj1 y
    have r2:RowI ((wr.setCell ⟨g,a+k,none⟩ (I y)).setCell ⟨g,b+k,none⟩ (I x)) g ((P++B1++y :: (A2++Q++A1))++x :: (B2++R)) tail:=RowI.setAt (x:=y) (by simpa using r1) (by rw [hj2];simp) x
    have HB:=Lib.hid (((hb.set (p:=⟨g,a+k,none⟩) hown (I y)).set (p:=⟨g,b+k,none⟩) hown (I x)).drew)
    have HR2:=Lib.hid r2.drew
    clear hb hrow r1 r2 q1 q2 f1 f2 hj1 hj2 HF
    generalize ((wr.setCell ⟨g,a+k,none⟩ (.int .i64 y)).setCell ⟨g,b+k,none⟩ (.int .i64 x)).drew=W2 at *
    (try simp only [Exit.inBlock,Exit.then])
    go_wp2_with fail
    go_roundw
    case rel=>exact⟨k+1,A1++[x],A2,B1++[y],B2,by simp,by simp,Lib.hid (by have:=hl.out;simp;omega),by simp,by simpa using HR2.out,HB.out⟩
    case measure=>simp [intOf];omega
theorem swap_int {g n c:Nat} {za zb zm:Int} {P A Q B R:List Int} {tail:List Value} {w:World} (hr:RowI w g (P++A++Q++B++R) tail) (ha:(P.length:Int)=za) (hA:(A.length:Int)=zm) (hb:((P.length+A.length+Q.length:Nat):Int)=zb) (hB:B.length=A.length) (hn:P.length+A.length+Q.length+B.length+R.length=n) (hm:n<=4611686018427387904) (hc:n<=c) (cv:Value) :
  Calls Tryz.prog 209 #[.slice (some ⟨g,0,none⟩) n c,I za,I zb,I zm,cv] w fun e w'=>e=.returned (.tuple #[])/\RowI w' g (P++B++Q++A++R) tail/\ButV (.slice (some ⟨g,0,none⟩) n c) w w':=by
 subst ha hA hb
 exact swap_any hr rfl rfl rfl hB hn hm hc cv
theorem rotate_any {g n c a m b:Nat} {P X Y R:List Int} {tail:List Value} {w:World} (hr:RowI w g (P++X++Y++R) tail) (ha:P.length=a) (hX:P.length+X.length=m) (hY:P.length+X.length+Y.length=b) (hX0:0 < X.length) (hY0:0 < Y.length) (hn:P.length+X.length+Y.length+R.length=n) (hm:n<=4611686018427387904) (hc:n<=c) (cv:Value) :
  Calls Tryz.prog 183 #[.slice (some ⟨g,0,none⟩) n c,I a,I m,I b,cv] w fun e w'=>e=.returned (.tuple #[])/\RowI w' g (P++Y++X++R) tail/\ButV (.slice (some ⟨g,0,none⟩) n c) w w':=by
 have HR:=Lib.hid hr
 have HE:=Lib.hid (show P.length=a/\P.length+X.length=m/\P.length+X.length+Y.length=b/\0 < X.length/\0 < Y.length/\P.length+X.length+Y.length+R.length=n from ⟨ha,hX,hY,hX0,hY0,hn⟩)
 have ham:a < m:=by omega
 have hmb:m < b:=by omega
 have hbn:b<=n:=by omega
 have hb0:=Lib.hid ((Ext.refl w).but (.slice (some ⟨g,0,none⟩) n c))
 have HV:Hid (cv=cv):=rfl
 clear hr ha hX hY hX0 hY0 hn
 go_enter Tryz.func183,Tryz.ntmps183
 go_wp2_with fail
 go_loopw [10,11] (fun i j wr=>∃ (ki kj:Nat) (P' X' Y' R':List Int),Hid (P'++Y'++X'++R'=P++Y++X++R)/\Hid (P'.length+ki=m/\X'.length=ki/\Y'.length=kj/\m+kj+R'.length=n)/\0 < ki/\0 < kj/\ki<=m/\m+kj<=n/\i=I ki/\j=I kj/\RowI wr g (P'++X'++Y'++R') tail/\ButV (.slice (some ⟨g,0,none⟩) n c) w wr) (fun i j _=>(intOf i).toNat+(intOf j).toNat)
 case atStart =>
  refine ⟨m - a,b - m,P,X,Y,R,Lib.hid rfl,Lib.hid (by have:=HE.out;omega),by omega,by omega,by omega,by omega,?_,?_,HR.out,hb0.out⟩
  ·rw [show ((m - a:Nat):Int)=(m:Int) - a by omega]
  ·rw [show ((b - m:Nat):Int)=(b:Int) - m by omega]
 case round =>
  obtain⟨ki,kj,P',X',Y',R',htg,hl,h0i,h0j,him,hjn,rfl,rfl,hrow,hb⟩:=hrel
  have HRW:=Lib.hid hrow
  have HB:=Lib.hid hb
  clear hrow hb
  by_cases hij:ki=kj
  ·subst hij
   have e1:((ki:Int) != ki)=false:=by simp
   have HSW:=Lib.hid (swap_int (P:=P') (A:=X') (Q:=[]) (B:=Y') (R:=R') (za:=(m:Int) - ki) (zb:=m) (zm:=ki) (by simpa using HRW.out) (by have:=hl.out;omega) (by have:=hl.out;omega) (by have:=hl.out;simp;omega) (by have:=hl.out;omega) (by have:=hl.out;simp;omega) hm hc cv)
   go_wp2_with fail
   refine HSW.out.mono ?_
   rintro e w2 ⟨rfl,hr2,hb2⟩
   have HR2:=Lib.hid hr2
   have HB2:=Lib.hid hb2
   clear HSW hr2 hb2
   go_wp2
   go_end0
   exact⟨rfl,by have h:=HR2.out;rw [List.append_nil,htg.out] at h;exact h,HB.out.trans HB2.out⟩
  ·have e1:((ki:Int) != kj)=true:=by rw [bne_iff_ne];omega
   by_cases hgt:kj < ki
   ·have e2:(ki:Int) > kj:=by omega
    obtain⟨X1,X2,rfl,hX1⟩:∃ X1 X2,X'=X1++X2/\X1.length=kj:=⟨X'.take kj,X'.drop kj,(List.take_append_drop _ _).symm,by have:=hl.out;rw [List.length_take];omega⟩
    have hl':=Lib.hid (show P'.length+ki=m/\X1.length+X2.length=ki/\X1.length=kj/\Y'.length=kj/\m+kj+R'.length=n from by have:=hl.out;rw [List.length_append] at this;omega)
    clear hX1
    have HSW:=Lib.hid (swap_int (P:=P') (A:=X1) (Q:=X2) (B:=Y') (R:=R') (za:=(m:Int) - ki) (zb:=m) (zm:=kj) (by simpa using HRW.out) (by have:=hl'.out;omega) (by have:=hl'.out;omega) (by have:=hl'.out;omega) (by have:=hl'.out;omega) (by have:=hl'.out;omega) hm hc cv)
    go_wp2_with fail
    refine HSW.out.mono ?_
    rintro e w2 ⟨rfl,hr2,hb2⟩
    have HR2:=Lib.hid hr2
    have HB2:=Lib.hid hb2
    clear HSW hr2 hb2
    go_wp2_with fail
    go_roundw
    case rel =>
     exact⟨ki - kj,kj,P'++Y',X2,X1,R',Lib.hid (by have:=htg.out;simpa using this),Lib.hid (by have:=hl'.out;rw [List.length_append];omega),by omega,h0j,by omega,hjn,by rw [show ((ki - kj:Nat):Int)=(ki:Int) - kj by omega],rfl,HR2.out,HB.out.trans HB2.out⟩
    case measure=>simp [intOf];omega
   ·have e2:¬ (ki:Int) > kj:=by omega
    obtain⟨Y1,Y2,rfl,hY2⟩:∃ Y1 Y2,Y'=Y1++Y2/\Y2.length=ki:=⟨Y'.take (kj - ki),Y'.drop (kj - ki),(List.take_append_drop _ _).symm,by have:=hl.out;rw [List.length_drop];omega⟩
    have hl':=Lib.hid (show P'.length+ki=m/\X'.length=ki/\Y1.length+Y2.length=kj/\Y2.length=ki/\m+kj+R'.length=n from by have:=hl.out;rw [List.length_append] at this;omega)
    clear hY2
    have HSW:=Lib.hid (swap_int (P:=P') (A:=X') (Q:=Y1) (B:=Y2) (R:=R') (za:=(m:Int) - ki) (zb:=(m:Int)+kj - ki) (zm:=ki) (by simpa using HRW.out) (by have:=hl'.out;omega) (by have:=hl'.out;omega) (by have:=hl'.out;omega) (by have:=hl'.out;omega) (by have:=hl'.out;omega) hm hc cv)
    go_wp2_with fail
    refine HSW.out.mono ?_
    rintro e w2 ⟨rfl,hr2,hb2⟩
    have HR2:=Lib.hid hr2
    have HB2:=Lib.hid hb2
    clear HSW hr2 hb2
    go_wp2_with fail
    go_roundw
    case rel =>
     exact⟨ki,kj - ki,P',Y2,Y1,X'++R',Lib.hid (by have:=htg.out;simpa using this),Lib.hid (by have:=hl'.out;rw [List.length_append];omega),h0i,by omega,him,by omega,rfl,by rw [show ((kj - ki:Nat):Int)=(kj:Int) - ki by omega],by simpa using HR2.out,HB.out.trans HB2.out⟩
    case measure=>simp [intOf];omega
structure CmpP (tb:Nat) (v:Value) (C:World->Prop) (D:Int->Prop) (key:Int->Nat) (sg:Int->Int->Int):Prop where
 keep:∀ W W',C W->ButV v W W'->C W'
 does:∀ x y W,D x->D y->C W->Calls Tryz.prog 88 #[I x,I y,.pointer (some ⟨tb,0,none⟩)] W fun e w'=>e=.returned (I (sg x y))/\Ext W w'
 sign:∀ x y,sg x y < 0↔key x < key y
def Srt (key:Int->Nat) (l:List Int):Prop:=l.Pairwise fun x y=>key x<=key y
theorem Srt.put {key:Int->Nat} {S1 S2:List Int} {z:Int} (h:Srt key (S1++S2)) (h1:∀ s ∈ S1,key s<=key z) (h2:∀ s ∈ S2,key z < key s):Srt key (S1++z :: S2):=by
 unfold Srt at h ⊢
 rw [List.pairwise_append] at h ⊢
 refine ⟨h.1,List.pairwise_cons.2 ⟨fun s hs=>Nat.le_of_lt (h2 s hs),h.2.1⟩,fun x hx y hy=>?_⟩
 rcases List.mem_cons.1 hy with rfl | hy
 ·exact h1 x hx
 ·exact h.2.2 x hx y hy
theorem Srt.last {key:Int->Nat} {S1:List Int} {y z:Int} (h:Srt key (S1++[y])) (hy:key y<=key z):∀ s ∈ S1++[y],key s<=key z:=by
 intro s hs
 rcases List.mem_append.1 hs with hs | hs
 ·exact Nat.le_trans ((List.pairwise_append.1 h).2.2 s hs y (by simp)) hy
 ·rw [List.mem_singleton.1 hs];exact hy
theorem ButV.drewN {v:Value} {w w':World} (h:ButV v w w') (n:Nat):ButV v w (w'.drewN n):=⟨h.os,h.tape,h.output,h.size,h.same⟩
theorem insertion_any {g n c a b tb:Nat} {P X R:List Int} {tail:List Value} {w:World} {C:World->Prop} {D:Int->Prop} {key:Int->Nat} {sg:Int->Int->Int} (hr:RowI w g (P++X++R) tail) (ha:P.length=a) (hX:P.length+X.length=b) (hn:P.length+X.length+R.length=n) (hm:n<=4611686018427387904) (hc:n<=c)
  (hp:CmpP tb (.slice (some ⟨g,0,none⟩) n c) C D key sg) (hC:C w) (hD:∀ x ∈ X,D x) :
  Calls Tryz.prog 164 #[.slice (some ⟨g,0,none⟩) n c,I a,I b,.func (.func 88) #[] #[.pointer (some ⟨tb,0,none⟩)]] w fun e w'=>e=.returned (.tuple #[])/\(∃ X',RowI w' g (P++X'++R) tail/\X'.Perm X/\Srt key X')/\ButV (.slice (some ⟨g,0,none⟩) n c) w w':=by
 have eg:∀ args w,(callFunc 88 args).run Tryz.prog w=.ok (.enter 88 args) w:=enters_of Tryz.func88 (by kernel_rfl) rfl
 have HR:=Lib.hid hr
 have HE:=Lib.hid (show P.length=a/\P.length+X.length=b/\P.length+X.length+R.length=n from ⟨ha,hX,hn⟩)
 have hab:a<=b:=by omega
 have hbn:b<=n:=by omega
 have hb0:=Lib.hid ((Ext.refl w).but (.slice (some ⟨g,0,none⟩) n c))
 have HC:=Lib.hid hC
 have HP:=Lib.hid hp
 have HD:=Lib.hid hD
 clear hr ha hX hn hC hp hD
 go_enter Tryz.func164,Tryz.ntmps164
 go_wp2_with fail
 go_loopw [8,9] (fun i j0 wr=>∃ (k:Nat) (S Z:List Int),Hid ((S++Z).Perm X/\Srt key S/\1<=k/\(S.length=k ∨ (Z = []/\X = [])))/\k<=n+1/\(∃ ak:Nat,i=I ak/\Hid (ak=a+k))/\RowI wr g (P++S++Z++R) tail/\ButV (.slice (some ⟨g,0,none⟩) n c) w wr) (fun i _ _=>b - (intOf i).toNat)
 case atStart =>
  cases X with
  | nil=>exact⟨1,[],[],Lib.hid ⟨.refl _,List.Pairwise.nil,by omega,.inr ⟨rfl,rfl⟩⟩,by omega,⟨a+1,by simp,Lib.hid rfl⟩,by simpa using HR.out,hb0.out⟩
  | cons x X=>exact⟨1,[x],X,Lib.hid ⟨.refl _,List.pairwise_singleton _ _,by omega,.inl rfl⟩,by have:=HE.out;simp at this;omega,⟨a+1,by simp,Lib.hid rfl⟩,by simpa using HR.out,hb0.out⟩
 case round =>
  obtain⟨k,S,Z,hk,hkn,⟨ak,rfl,hak⟩,hrow,hb⟩:=hrel
  have HRW:=Lib.hid hrow
  have HB:=Lib.hid hb
  clear hrow hb
  obtain⟨wo,rfl⟩:∃ wo:World,wo=wr:=⟨_,rfl⟩
  cases Z with
  | nil =>
   have hge:¬ (ak:Int) < b:=by
    have h1:=HE.out
    have h0:=hak.out
    obtain⟨h2,h3,h4,h5⟩:=hk.out
    have:=h2.length_eq
    rw [List.append_nil] at this
    rcases h5 with h5 | ⟨-,h5⟩
    ·omega
    ·rw [h5] at h1;simp at h1;omega
   go_wp2
   go_end0
   exact⟨rfl,⟨S,by simpa using HRW.out,by simpa using hk.out.1,hk.out.2.1⟩,HB.out⟩
  | cons z Z =>
   have hSk:S.length=k:=by
    rcases hk.out.2.2.2 with h | ⟨h,-⟩
    ·exact h
    ·cases h
   have hlt:a+k < b:=by
    have h1:=HE.out
    have:=hk.out.1.length_eq
    simp at this
    omega
   have h1k:=hk.out.2.2.1
   have HSK:=Lib.hid hSk
   clear hSk
   have hlk:(ak:Int) < b:=by have:=hak.out;omega
   go_wp2_with fail
   go_loopw [9] (fun j wr=>∃ (jj:Nat) (S1 S2:List Int),Hid (S1++S2=S/\(P++S1).length=jj/\∀ s ∈ S2,key z < key s)/\a<=jj/\jj<=a+k/\j=I jj/\RowI wr g (P++S1++z :: (S2++Z++R)) tail/\ButV (.slice (some ⟨g,0,none⟩) n c) w wr) (fun j _=>(intOf j).toNat)
   case atStart =>
    exact⟨ak,S,[],Lib.hid ⟨by simp,by have:=HE.out;have:=HSK.out;have:=hak.out;simp;omega,by simp⟩,by have:=hak.out;omega,by have:=hak.out;omega,rfl,by simpa using HRW.out,HB.out⟩
   case round =>
    obtain⟨jj,S1,S2,hs,haj,hjk,rfl,hrow,hb⟩:=hrel
    have HRI:=Lib.hid hrow
    have HBI:=Lib.hid hb
    have hgw:g < wr.heap.size:=hrow.lt
    have hperm:Hid ((S1++z :: S2++Z).Perm X):=Lib.hid (by
     refine List.Perm.trans ?_ hk.out.1
     rw [<- hs.out.1]
     have:(S1++z :: S2++Z)=S1++z :: (S2++Z):=by simp
     rw [this]
     refine List.perm_middle.trans ?_
     refine List.Perm.trans ?_ List.perm_middle.symm
     simp)
    rcases List.eq_nil_or_concat S1 with rfl | ⟨S1,y,rfl⟩
    ·have hja:jj=a:=by have h1:=HE.out;have h2:=hs.out.2.1;simp at h2;omega
     subst hja
     have d:decide ((jj:Int) > jj)=false:=by simp
     clear hrow hb
     go_wp2_with fail
     have HSRT:=Lib.hid (Srt.put (z:=z) (S1:=[]) (S2:=S2) (by have h:=hk.out.2.1;rw [<- hs.out.1] at h;exact h) (by simp) hs.out.2.2)
     go_quiet (fail)
     have HRX:=Lib.hid (show RowI (wr.drewN nq) g _ _ from HRI.out)
     have HBX:=Lib.hid (HBI.out.drewN nq)
     clear HRI HBI
     generalize wr.drewN nq=W2 at *
     go_wp2_with fail
     go_roundw
     case rel=>exact⟨k+1,[]++z :: S2,Z,Lib.hid ⟨by have:=hperm.out;simpa using this,HSRT.out,by omega,.inl (by have h1:=HSK.out;have h2:=hs.out.1;rw [<- h2] at h1;simp at h1 ⊢;omega)⟩,by omega,⟨ak+1,by simp,Lib.hid (by have:=hak.out;omega)⟩,by have:=HRX.out;simpa using this,HBX.out⟩
     case measure=>simp [intOf];omega
    ·obtain⟨jp,rfl⟩:∃ jp,jj=jp+1:=⟨jj - 1,by have h2:=hs.out.2.1;simp at h2;omega⟩
     have hjp:jp=(P++S1).length:=by have h2:=hs.out.2.1;simp at h2;simp;omega
     have hja:a<=jp:=by have h1:=HE.out;rw [hjp];simp;omega
     have k1:=hrow.cellAt (j:=jp+1) (by rw [<- hs.out.2.1])
     have k2:wr.cell? ⟨g,jp,none⟩=some (I y):=RowI.cellAt (A:=P++S1) (B:=z :: (S2++Z++R)) (by simpa using hrow) hjp
     have HJP:=Lib.hid hjp
     clear hjp
     have hjn:jp+1 < n:=by omega
     obtain⟨jv,hjv⟩:∃ jv:Int,jv=((jp+1:Nat):Int):=⟨_,rfl⟩
     obtain⟨i1,hi1⟩:∃ i1,i1=jp+1:=⟨_,rfl⟩
     rw [<- hi1] at k1
     have t0:0<=jv:=by omega
     have t1:jv < n:=by omega
     have t2:jv.toNat=i1:=by omega
     have t3:0<=jv - 1:=by omega
     have t4:jv - 1 < n:=by omega
     have t6:1<=jv:=by omega
     have t7:jv<=n:=by omega
     have t8:0 < jv:=by omega
     have t9:jv < (n:Int)+1:=by omega
     have t10:jv - 1<=9223372036854775807:=by omega
     have t11:-9223372036854775808<=jv - 1:=by omega
     have t12:IntKind.i64.wrap (jv - 1)=jp:=by rw [show jv - 1=(jp:Int) by omega];exact IntWalk.i64_in _ (by omega)
     have t13:(jp:Int) < n:=by omega
     have t5:(jv - 1).toNat=jp:=by omega
     have d:(a:Int) < jv:=by omega
     have d1:decide ((a:Int) < jv)=true:=by simpa using d
     rw [<- hjv]
     have HJV:=Lib.hid (And.intro hjv hi1)
     clear hjv hi1 hjn
     have HDO:=Lib.hid (fun W (h:Ext wr W)=>HP.out.does z y W (HD.out z (hperm.out.subset (by simp))) (HD.out y (hperm.out.subset (by simp))) (HP.out.keep _ _ (HP.out.keep _ _ HC.out hb) (h.but _)))
     have hsg:=HP.out.sign z y
     generalize sg z y=sz at *
     clear hrow hb
     by_cases hlt2:key z < key y
     ·have d2:sz < 0:=hsg.2 hlt2
      clear hsg
      go_wp2_with fail
      go_region_held3 (fun W=>W.cell? ⟨g,i1,none⟩=some (I z)/\W.cell? ⟨g,jp,none⟩=some (I y)/\Ext wr W) (first | exact⟨k1,k2,(Ext.refl _).drew⟩ | exact⟨hb1.cell ‹_/\_/\Ext wr _›.1,hb1.cell ‹_/\_/\Ext wr _›.2.1,‹_/\_/\Ext wr _›.2.2.trans hb1⟩) (first | (go_at_call 88;refine (HDO.out _ ‹_/\_/\Ext wr _›.2.2).mono ?_;rintro e w1 ⟨rfl,hb1⟩))
      have hX6:=‹_/\_/\Ext wr _›.2.2
      have q1:=(‹_/\_/\Ext wr _›).1
      have q2:=(‹_/\_/\Ext wr _›).2.1
      have hr6:=HRI.out.ext hX6
      have f1:=hr6.frozen i1
      have f2:=hr6.frozen jp
      have HRX:=Lib.hid hr6
      have HBX:=Lib.hid (HBI.out.trans (hX6.but _))
      clear HRI HBI hr6
      go_wp2_with fail
      go_region
      have hown:ownBlk (.slice (some ⟨g,0,none⟩) n c) g:=⟨g,n,c,rfl,by omega,rfl⟩
      have r1:RowI (w1.setCell ⟨g,i1,none⟩ (I y)) g (P++(S1++[y])++y :: (S2++Z++R)) tail:=RowI.setAt (A:=P++(S1++[y])) (x:=z) (by have:=HRX.out;simpa using this) (by rw [HJV.out.2,HJP.out];simp;omega) y
      have r2:RowI ((w1.setCell ⟨g,i1,none⟩ (I y)).setCell ⟨g,jp,none⟩ (I z)) g ((P++S1)++z :: (y :: (S2++Z++R))) tail:=RowI.setAt (x:=y) (by simpa using r1) HJP.out z
      have HB2:=Lib.hid (((HBX.out.set (p:=⟨g,i1,none⟩) hown (I y)).set (p:=⟨g,jp,none⟩) hown (I z)).drew)
      have HR2:=Lib.hid r2.drew
      clear r1 r2 q1 q2 f1 f2 HRX HBX
      generalize ((w1.setCell ⟨g,i1,none⟩ (.int .i64 y)).setCell ⟨g,jp,none⟩ (.int .i64 z)).drew=W2 at *
      (try simp only [Exit.inBlock,Exit.then])
      go_wp2_with fail
      clear t2 t5 t12 d1
      go_roundw
      case rel=>exact⟨jp,S1,y :: S2,Lib.hid ⟨by have:=hs.out.1;simpa using this,HJP.out.symm,fun s hm=>by
       rcases List.mem_cons.1 hm with h | h
       ·rw [h];exact hlt2
       ·exact hs.out.2.2 s h⟩,by omega,by omega,rfl,by have:=HR2.out;simpa using this,HB2.out⟩
      case measure =>
       have:=HJV.out.1
       simp [intOf]
       omega
     ·have d2:¬ sz < 0:=fun h=>hlt2 (hsg.1 h)
      have HSRT:=Lib.hid (Srt.put (z:=z) (S1:=S1++[y]) (S2:=S2) (by have h:=hk.out.2.1;rw [<- hs.out.1] at h;simpa using h) (Srt.last (by have h:=hk.out.2.1;rw [<- hs.out.1] at h;exact (List.pairwise_append.1 (by simpa [Srt] using h)).1) (by omega)) hs.out.2.2)
      clear hsg
      go_wp2_with fail
      go_region_held3 (fun W=>W.cell? ⟨g,i1,none⟩=some (I z)/\W.cell? ⟨g,jp,none⟩=some (I y)/\Ext wr W) (first | exact⟨k1,k2,(Ext.refl _).drew⟩ | exact⟨hb1.cell ‹_/\_/\Ext wr _›.1,hb1.cell ‹_/\_/\Ext wr _›.2.1,‹_/\_/\Ext wr _›.2.2.trans hb1⟩) (first | (go_at_call 88;refine (HDO.out _ ‹_/\_/\Ext wr _›.2.2).mono ?_;rintro e w1 ⟨rfl,hb1⟩))
      have hX6:=‹_/\_/\Ext wr _›.2.2
      have HRX:=Lib.hid (HRI.out.ext hX6)
      have HBX:=Lib.hid (HBI.out.trans (hX6.but _))
      clear HRI HBI
      go_wp2_with fail
      go_roundw
      case rel=>exact⟨k+1,(S1++[y])++z :: S2,Z,Lib.hid ⟨by have:=hperm.out;simpa using this,HSRT.out,by omega,.inl (by have h1:=HSK.out;have h2:=hs.out.1;rw [<- h2] at h1;simp at h1 ⊢;omega)⟩,by omega,⟨ak+1,by simp,Lib.hid (by have:=hak.out;omega)⟩,by have:=HRX.out;simpa using this,HBX.out⟩
      case measure=>simp [intOf];omega
end
section
theorem sym_parts {key:Int->Nat} {X1 X2 Y1 Y2 Z1 Z2:List Int} (hx:Srt key (X1++X2)) (hy:Srt key (Y1++Y2)) (h1:Z1.Perm (X1++Y1)) (h2:Z2.Perm (X2++Y2)) (s1:Srt key Z1) (s2:Srt key Z2)
  (hc1:∀ x ∈ X1,∀ y ∈ Y2,key x<=key y) (hc2:∀ y ∈ Y1,∀ x ∈ X2,key y<=key x):Srt key (Z1++Z2)/\(Z1++Z2).Perm (X1++X2++(Y1++Y2)):=by
 unfold Srt at *
 rw [List.pairwise_append] at hx hy
 constructor
 ·rw [List.pairwise_append]
  refine ⟨s1,s2,fun a ha b hb=>?_⟩
  rcases List.mem_append.1 (h1.subset ha) with ha | ha <;> rcases List.mem_append.1 (h2.subset hb) with hb | hb
  ·exact hx.2.2 a ha b hb
  ·exact hc1 a ha b hb
  ·exact hc2 a ha b hb
  ·exact hy.2.2 a ha b hb
 ·refine (h1.append h2).trans ?_
  have e:(X2++Y1).Perm (Y1++X2):=List.perm_append_comm
  have:=(e.symm.append_left X1).append_right Y2
  simpa [List.append_assoc] using this
theorem srt_last_le {key:Int->Nat} {X:List Int} {x:Int} {n:Nat} (h:Srt key (X++[x])) (hx:key x<=n):∀ s ∈ X++[x],key s<=n:=fun s hs=>by
 rcases List.mem_append.1 hs with h1 | h1
 ·exact Nat.le_trans ((List.pairwise_append.1 h).2.2 s h1 x (by simp)) hx
 ·rw [List.mem_singleton.1 h1];exact hx
theorem srt_head_ge {key:Int->Nat} {X:List Int} {x:Int} {n:Nat} (h:Srt key (x :: X)) (hx:n<=key x):∀ s ∈ x :: X,n<=key s:=fun s hs=>by
 rcases List.mem_cons.1 hs with rfl | h1
 ·exact hx
 ·exact Nat.le_trans hx ((List.pairwise_cons.1 h).1 s h1)
theorem srt_one {key:Int->Nat} {Y1 Y2:List Int} {x:Int} (hy:Srt key (Y1++Y2)) (h1:∀ y ∈ Y1,key y<=key x) (h2:∀ y ∈ Y2,key x<=key y):Srt key (Y1++x :: Y2):=by
 unfold Srt at *
 rw [List.pairwise_append] at hy ⊢
 refine ⟨hy.1,List.pairwise_cons.2 ⟨h2,hy.2.1⟩,fun a ha b hb=>?_⟩
 rcases List.mem_cons.1 hb with rfl | hb
 ·exact h1 a ha
 ·exact hy.2.2 a ha b hb
theorem srt_before {key:Int->Nat} {l A B:List Int} {x y:Int} (h:Srt key l) (e:l=A++y :: B) (hx:x ∈ l) (hk:key x < key y):x ∈ A:=by
 subst e
 rcases List.mem_append.1 hx with h1 | h1
 ·exact h1
 ·exfalso
  rcases List.mem_cons.1 h1 with rfl | h1
  ·omega
  ·have:=(List.pairwise_cons.1 (List.pairwise_append.1 h).2.1).1 x h1
   omega
end
section
open Go.RowKit Go.Shelf
theorem sym1_any {g n c a m b tb:Nat} {P Y R:List Int} {x:Int} {tail:List Value} {w:World} {C:World->Prop} {D:Int->Prop} {key:Int->Nat} {sg:Int->Int->Int} (hr:RowI w g (P++x :: (Y++R)) tail) (ha:P.length=a) (hm:a+1=m) (hb:m+Y.length=b) (hn:b+R.length=n) (h62:n<=2305843009213693952) (hc:n<=c)
  (hs:Srt key Y) (hp:CmpP tb (.slice (some ⟨g,0,none⟩) n c) C D key sg) (hC:C w) (hD:∀ y ∈ x :: Y,D y) :
  Calls Tryz.prog 165 #[.slice (some ⟨g,0,none⟩) n c,I a,I m,I b,.func (.func 88) #[] #[.pointer (some ⟨tb,0,none⟩)]] w fun e w'=>e=.returned (.tuple #[])/\(∃ Z,RowI w' g (P++Z++R) tail/\Z.Perm (x :: Y)/\Srt key Z)/\ButV (.slice (some ⟨g,0,none⟩) n c) w w':=by
 have eg:∀ args w,(callFunc 88 args).run Tryz.prog w=.ok (.enter 88 args) w:=enters_of Tryz.func88 (by kernel_rfl) rfl
 have HR:=Lib.hid hr
 have HE:=Lib.hid (show P.length=a/\a+1=m/\m+Y.length=b/\b+R.length=n from ⟨ha,hm,hb,hn⟩)
 have hmb:m<=b:=by omega
 have hbn:b<=n:=by omega
 have h1:wrap64 ((m:Int) - a)=1:=by rw [show (m:Int) - a=1 by omega];simp [wrap64,IntKind.wrap,IntKind.signed,IntKind.bits]
 have hb0:=Lib.hid ((Ext.refl w).but (.slice (some ⟨g,0,none⟩) n c))
 have HC:=Lib.hid hC
 have HP:=Lib.hid hp
 have HD:=Lib.hid hD
 have HS:=Lib.hid hs
 clear hr ha hm hb hn hC hp hD hs
 go_enter Tryz.func165,Tryz.ntmps165
 go_wp2_with fail
 clear h1
 go_loopw [10,11,12] (fun i j h wr=>∃ (ki kj:Nat),Hid ((∀ y ∈ Y.take (ki - m),key y < key x)/\∀ y ∈ Y.drop (kj - m),key x<=key y)/\m<=ki/\ki<=kj/\kj<=b/\i=I ki/\j=I kj/\Ext w wr) (fun i j _ _=>(intOf j).toNat - (intOf i).toNat)
 case atStart=>exact⟨m,b,Lib.hid ⟨by simp,by have:=HE.out;rw [show b - m=Y.length by omega];simp⟩,by omega,hmb,Nat.le_refl _,rfl,rfl,Ext.refl w⟩
 case round =>
  obtain⟨ki,kj,hk,hmi,hij,hjb,rfl,rfl,hx⟩:=hrel
  have HX:=Lib.hid hx
  have hrow:=HR.out.ext hx
  have hgw:g < wr.heap.size:=hrow.lt
  by_cases hlt:ki < kj
  ·have d:(ki:Int) < kj:=by omega
   obtain⟨hh,hhe⟩:∃ hh,hh=(ki+kj) / 2:=⟨_,rfl⟩
   obtain⟨Y1,y,Y2,hY,hY1⟩:∃ Y1 y Y2,Y=Y1++y :: Y2/\Y1.length=hh - m:=by
    have h1:=HE.out
    have hl:hh - m < Y.length:=by omega
    exact⟨Y.take (hh - m),Y[hh - m],Y.drop (hh - m+1),by rw [List.getElem_cons_drop,List.take_append_drop],by rw [List.length_take];omega⟩
   have k1:wr.cell? ⟨g,a,none⟩=some (I x):=hrow.cellAt HE.out.1.symm
   have k2:wr.cell? ⟨g,hh,none⟩=some (I y):=RowI.cellAt (A:=P++x :: Y1) (B:=Y2++R) (by rw [hY] at hrow;simpa using hrow) (by have:=HE.out;simp;omega)
   have hv0:((ki:Int)+kj) / 2=hh:=by omega
   have u0:(hh:Int) < n:=by omega
   have u1:(a:Int) < n:=by have:=HE.out;omega
   have u2:hh+1<=b:=by omega
   have hHM:=Lib.hid (show m<=hh/\hh < kj/\ki<=hh from by omega)
   have HDO:=Lib.hid (fun W (h:Ext wr W)=>HP.out.does y x W (HD.out y (by rw [hY];simp)) (HD.out x (by simp)) (HP.out.keep _ _ (HP.out.keep _ _ HC.out (hx.but _)) (h.but _)))
   have hsg:=HP.out.sign y x
   have HY:=Lib.hid (And.intro hY hY1)
   generalize sg y x=sz at *
   clear hY hY1 hrow hx hhe
   by_cases hlt2:key y < key x
   ·have d2:sz < 0:=hsg.2 hlt2
    clear hsg
    go_wp2_with fail
    go_region_held3 (fun W=>W.cell? ⟨g,hh,none⟩=some (I y)/\W.cell? ⟨g,a,none⟩=some (I x)/\Ext wr W) (first | exact⟨k2,k1,(Ext.refl _).drew⟩ | exact⟨hb1.cell ‹_/\_/\Ext wr _›.1,hb1.cell ‹_/\_/\Ext wr _›.2.1,‹_/\_/\Ext wr _›.2.2.trans hb1⟩) (first | (go_at_call 88;refine (HDO.out _ ‹_/\_/\Ext wr _›.2.2).mono ?_;rintro e w1 ⟨rfl,hb1⟩))
    have hX6:=‹_/\_/\Ext wr _›.2.2
    go_wp2_with fail
    go_roundw
    case rel =>
     refine ⟨hh+1,kj,Lib.hid ⟨?_,hk.out.2⟩,?_,?_,hjb,rfl,rfl,HX.out.trans hX6⟩
     ·intro y' hy'
      obtain⟨e1,e2⟩:=HY.out
      have e3:=HS.out
      rw [e1,show hh+1 - m=Y1.length+1 by have:=hHM.out;omega,List.take_append,List.take_of_length_le (by omega),Nat.add_sub_cancel_left] at hy'
      rw [e1] at e3
      simp only [List.take_succ_cons,List.take_zero] at hy'
      refine Nat.lt_of_le_of_lt (srt_last_le (x:=y) (n:=key y) ?_ (Nat.le_refl _) y' hy') hlt2
      have:Y1++y :: Y2=(Y1++[y])++Y2:=by simp
      rw [this] at e3
      exact (List.pairwise_append.1 e3).1
     ·have:=hHM.out;omega
     ·have:=hHM.out;omega
    case measure=>have:=hHM.out;simp [intOf];omega
   ·have d2:¬ sz < 0:=fun h=>hlt2 (hsg.1 h)
    clear hsg
    go_wp2_with fail
    go_region_held3 (fun W=>W.cell? ⟨g,hh,none⟩=some (I y)/\W.cell? ⟨g,a,none⟩=some (I x)/\Ext wr W) (first | exact⟨k2,k1,(Ext.refl _).drew⟩ | exact⟨hb1.cell ‹_/\_/\Ext wr _›.1,hb1.cell ‹_/\_/\Ext wr _›.2.1,‹_/\_/\Ext wr _›.2.2.trans hb1⟩) (first | (go_at_call 88;refine (HDO.out _ ‹_/\_/\Ext wr _›.2.2).mono ?_;rintro e w1 ⟨rfl,hb1⟩))
    have hX6:=‹_/\_/\Ext wr _›.2.2
    go_wp2_with fail
    go_roundw
    case rel =>
     refine ⟨ki,hh,Lib.hid ⟨hk.out.1,?_⟩,hmi,?_,?_,rfl,rfl,HX.out.trans hX6⟩
     ·intro y' hy'
      obtain⟨e1,e2⟩:=HY.out
      have e3:=HS.out
      rw [e1,<- e2,List.drop_left] at hy'
      rw [e1] at e3
      exact srt_head_ge (List.pairwise_append.1 e3).2.1 (by omega) y' hy'
     ·have:=hHM.out;omega
     ·have:=hHM.out;omega
    case measure=>have:=hHM.out;simp [intOf];omega
  ·have d:¬ (ki:Int) < kj:=by omega
   have hkj:ki=kj:=by omega
   have hki1:1<=ki:=by have:=HE.out;omega
   have hkin:(ki:Int)<=n:=by omega
   have HROW:=Lib.hid hrow
   have HM:=Lib.hid hmi
   obtain⟨wo,rfl⟩:∃ wo:World,wo=wr:=⟨_,rfl⟩
   clear hrow hx hgw
   go_wp2_with fail
   go_loopw [13] (fun k wr=>∃ (t kk:Nat),Hid (kk=a+t)/\t<=ki - m/\k=I kk/\RowI wr g (P++Y.take t++x :: (Y.drop t++R)) tail/\ButV (.slice (some ⟨g,0,none⟩) n c) w wr) (fun k _=>ki - (intOf k).toNat)
   case atStart=>exact⟨0,a,Lib.hid rfl,Nat.zero_le _,rfl,by have:=HROW.out;simpa using this,HX.out.but _⟩
   case round =>
    obtain⟨t,kk,hkk,htk,rfl,hrow,hb⟩:=hrel
    have hgw:g < wr.heap.size:=hrow.lt
    by_cases hend:t=ki - m
    ·have d2:¬ (kk:Int) < (ki:Int) - 1:=by have h1:=HE.out;have h2:=hkk.out;have h3:=HM.out;omega
     have HRX:=Lib.hid hrow
     have HBX:=Lib.hid hb
     clear hrow hb
     go_wp2_with fail
     refine bodyPost_ret (v:=.tuple #[]) (by simp [results,Tryz.f165,go_sem]) rfl ?_
     refine ⟨rfl,⟨Y.take t++x :: Y.drop t,by have:=HRX.out;simpa using this,?_,?_⟩,HBX.out⟩
     ·exact List.perm_middle.trans (by rw [List.take_append_drop])
     ·have h:=hk.out
      rw [<- hkj,<- hend] at h
      exact srt_one (by rw [List.take_append_drop];exact HS.out) (fun y hy=>Nat.le_of_lt (h.1 y hy)) h.2
    ·have d2:(kk:Int) < (ki:Int) - 1:=by have h1:=HE.out;have h2:=hkk.out;have h3:=HM.out;omega
     obtain⟨y,hy⟩:∃ y,Y.drop t=y :: Y.drop (t+1):=⟨Y[t]'(by have h1:=HE.out;have h3:=HM.out;omega),List.drop_eq_getElem_cons _⟩
     have htl:(Y.take t).length=t:=by have h1:=HE.out;have h3:=HM.out;rw [List.length_take];omega
     have htk1:Y.take (t+1)=Y.take t++[y]:=by
      have h1:t < Y.length:=by have h1:=HE.out;have h3:=HM.out;omega
      rw [List.take_add_one,List.getElem?_eq_getElem h1]
      have:=List.drop_eq_getElem_cons h1
      rw [hy] at this
      injection this with e1 e2
      rw [e1];rfl
     rw [hy] at hrow
     have hp1:kk=(P++Y.take t).length:=by have h1:=HE.out;have h2:=hkk.out;simp only [List.length_append,htl];omega
     have k1:=hrow.cellAt hp1
     have hrow2:RowI wr g ((P++Y.take t++[x])++y :: (Y.drop (t+1)++R)) tail:=by simpa using hrow
     obtain⟨i2,hi2⟩:∃ i2,i2=kk+1:=⟨_,rfl⟩
     have k2:=hrow2.cellAt (j:=i2) (by rw [hi2,hp1];simp;omega)
     have f1:=hrow.frozen kk
     have f2:=hrow.frozen i2
     have u0:(kk:Int) < n:=by omega
     have u1:(kk:Int)+1 < n:=by omega
     have u2:IntKind.i64.wrap ((kk:Int)+1)=i2:=by rw [show (kk:Int)+1=i2 by omega];exact IntWalk.i64_in _ (by omega)
     have u3:(i2:Int) < n:=by omega
     have u4:kk < i2:=by omega
     have u5:¬ i2=kk:=by omega
     have u6:¬ kk=i2:=by omega
     have HRX:=Lib.hid hrow
     have HBX:=Lib.hid hb
     have HP1:=Lib.hid hp1
     have HI2:=Lib.hid hi2
     have HYD:=Lib.hid (And.intro hy htk1)
     clear hrow hb hrow2 hp1 hi2 hy htk1 htl
     go_wp2_with fail
     go_region
     have hown:ownBlk (.slice (some ⟨g,0,none⟩) n c) g:=⟨g,n,c,rfl,by omega,rfl⟩
     have r1:RowI (wr.setCell ⟨g,kk,none⟩ (I y)) g (P++Y.take t++y :: (y :: (Y.drop (t+1))++R)) tail:=RowI.setAt HRX.out HP1.out y
     have r2:RowI ((wr.setCell ⟨g,kk,none⟩ (I y)).setCell ⟨g,i2,none⟩ (I x)) g ((P++Y.take t++[y])++x :: (Y.drop (t+1)++R)) tail:=RowI.setAt (x:=y) (by simpa using r1) (by rw [HI2.out,HP1.out];simp;omega) x
     have HB2:=Lib.hid (((HBX.out.set (p:=⟨g,kk,none⟩) hown (I y)).set (p:=⟨g,i2,none⟩) hown (I x)).drew)
     have HR2:=Lib.hid r2.drew
     clear r1 r2 k1 k2 f1 f2 HRX HBX
     generalize ((wr.setCell ⟨g,kk,none⟩ (.int .i64 y)).setCell ⟨g,i2,none⟩ (.int .i64 x)).drew=W2 at *
     (try simp only [Exit.inBlock,Exit.then])
     go_wp2_with fail
     go_roundw
     case rel=>exact⟨t+1,i2,Lib.hid (by have:=hkk.out;have:=HI2.out;omega),by omega,rfl,by have:=HR2.out;rw [HYD.out.2];simpa using this,HB2.out⟩
     case measure=>simp [intOf];omega
theorem sym2_any {g n c a m b tb:Nat} {P X R:List Int} {y:Int} {tail:List Value} {w:World} {C:World->Prop} {D:Int->Prop} {key:Int->Nat} {sg:Int->Int->Int} (hr:RowI w g (P++X++y :: R) tail) (ha:P.length=a) (hm:a+X.length=m) (hb:m+1=b) (hn:b+R.length=n) (h62:n<=2305843009213693952) (hc:n<=c)
  (hX:X.length ≠ 1) (hs:Srt key X) (hp:CmpP tb (.slice (some ⟨g,0,none⟩) n c) C D key sg) (hC:C w) (hD:∀ z ∈ y :: X,D z) :
  Calls Tryz.prog 165 #[.slice (some ⟨g,0,none⟩) n c,I a,I m,I b,.func (.func 88) #[] #[.pointer (some ⟨tb,0,none⟩)]] w fun e w'=>e=.returned (.tuple #[])/\(∃ Z,RowI w' g (P++Z++R) tail/\Z.Perm (y :: X)/\Srt key Z)/\ButV (.slice (some ⟨g,0,none⟩) n c) w w':=by
 have eg:∀ args w,(callFunc 88 args).run Tryz.prog w=.ok (.enter 88 args) w:=enters_of Tryz.func88 (by kernel_rfl) rfl
 have HR:=Lib.hid hr
 have HE:=Lib.hid (show P.length=a/\a+X.length=m/\m+1=b/\b+R.length=n from ⟨ha,hm,hb,hn⟩)
 have ham:a<=m:=by omega
 have hmn:m < n:=by omega
 obtain⟨xl,hxl⟩:∃ xl,X.length=xl:=⟨_,rfl⟩
 have h00:((m:Int) - a == 1)=false:=by rw [beq_eq_false_iff_ne];omega
 have h1:((b:Int) - m == 1)=true:=by rw [beq_iff_eq];omega
 have hmb:m<=b:=by omega
 have hbn:b<=n:=by omega
 have hb0:=Lib.hid ((Ext.refl w).but (.slice (some ⟨g,0,none⟩) n c))
 have HC:=Lib.hid hC
 have HP:=Lib.hid hp
 have HD:=Lib.hid hD
 have HS:=Lib.hid hs
 have HXL:=Lib.hid hxl
 clear hr ha hm hb hn hC hp hD hs hxl hX
 go_enter Tryz.func165,Tryz.ntmps165
 go_wp2_with fail
 clear h00 h1
 go_loopw [14,15,16] (fun i j h wr=>∃ (ki kj:Nat),Hid ((∀ x ∈ X.take (ki - a),key x<=key y)/\∀ x ∈ X.drop (kj - a),key y<=key x)/\a<=ki/\ki<=kj/\kj<=m/\i=I ki/\j=I kj/\Ext w wr) (fun i j _ _=>(intOf j).toNat - (intOf i).toNat)
 case atStart=>exact⟨a,m,Lib.hid ⟨by simp,by have:=HE.out;rw [show m - a=X.length by omega];simp⟩,by omega,ham,Nat.le_refl _,rfl,rfl,Ext.refl w⟩
 case round =>
  obtain⟨ki,kj,hk,hmi,hij,hjb,rfl,rfl,hx⟩:=hrel
  have HX:=Lib.hid hx
  have hrow:=HR.out.ext hx
  have hgw:g < wr.heap.size:=hrow.lt
  by_cases hlt:ki < kj
  ·have d:(ki:Int) < kj:=by omega
   obtain⟨hh,hhe⟩:∃ hh,hh=(ki+kj) / 2:=⟨_,rfl⟩
   obtain⟨X1,x,X2,hY,hY1⟩:∃ X1 x X2,X=X1++x :: X2/\X1.length=hh - a:=by
    have h1:=HE.out
    have hl:hh - a < X.length:=by omega
    exact⟨X.take (hh - a),X[hh - a],X.drop (hh - a+1),by rw [List.getElem_cons_drop,List.take_append_drop],by rw [List.length_take];omega⟩
   have k1:wr.cell? ⟨g,m,none⟩=some (I y):=hrow.cellAt (by have:=HE.out;simp;omega)
   have k2:wr.cell? ⟨g,hh,none⟩=some (I x):=RowI.cellAt (A:=P++X1) (B:=X2++y :: R) (by rw [hY] at hrow;simpa using hrow) (by have:=HE.out;simp;omega)
   have hv0:((ki:Int)+kj) / 2=hh:=by omega
   have u0:(hh:Int) < n:=by omega
   have u1:(m:Int) < n:=by omega
   have u2:hh+1<=m:=by omega
   have hHM:=Lib.hid (show a<=hh/\hh < kj/\ki<=hh from by omega)
   have HDO:=Lib.hid (fun W (h:Ext wr W)=>HP.out.does y x W (HD.out y (by simp)) (HD.out x (by rw [hY];simp)) (HP.out.keep _ _ (HP.out.keep _ _ HC.out (hx.but _)) (h.but _)))
   have hsg:=HP.out.sign y x
   have HY:=Lib.hid (And.intro hY hY1)
   generalize sg y x=sz at *
   clear hY hY1 hrow hx hhe
   by_cases hlt2:key y < key x
   ·have d2:sz < 0:=hsg.2 hlt2
    clear hsg
    go_wp2_with fail
    go_region_held3 (fun W=>W.cell? ⟨g,hh,none⟩=some (I x)/\W.cell? ⟨g,m,none⟩=some (I y)/\Ext wr W) (first | exact⟨k2,k1,(Ext.refl _).drew⟩ | exact⟨hb1.cell ‹_/\_/\Ext wr _›.1,hb1.cell ‹_/\_/\Ext wr _›.2.1,‹_/\_/\Ext wr _›.2.2.trans hb1⟩) (first | (go_at_call 88;refine (HDO.out _ ‹_/\_/\Ext wr _›.2.2).mono ?_;rintro e w1 ⟨rfl,hb1⟩))
    have hX6:=‹_/\_/\Ext wr _›.2.2
    go_wp2_with fail
    go_roundw
    case rel =>
     refine ⟨ki,hh,Lib.hid ⟨hk.out.1,?_⟩,hmi,?_,?_,rfl,rfl,HX.out.trans hX6⟩
     ·intro y' hy'
      obtain⟨e1,e2⟩:=HY.out
      have e3:=HS.out
      rw [e1,<- e2,List.drop_left] at hy'
      rw [e1] at e3
      exact srt_head_ge (List.pairwise_append.1 e3).2.1 (by omega) y' hy'
     ·have:=hHM.out;omega
     ·have:=hHM.out;omega
    case measure=>have:=hHM.out;simp [intOf];omega
   ·have d2:¬ sz < 0:=fun h=>hlt2 (hsg.1 h)
    have d3:(!decide (sz < 0))=true:=by simp;omega
    have d4:decide (sz < 0)=false:=by simp;omega
    clear hsg
    go_wp2_with fail
    go_region_held3 (fun W=>W.cell? ⟨g,hh,none⟩=some (I x)/\W.cell? ⟨g,m,none⟩=some (I y)/\Ext wr W) (first | exact⟨k2,k1,(Ext.refl _).drew⟩ | exact⟨hb1.cell ‹_/\_/\Ext wr _›.1,hb1.cell ‹_/\_/\Ext wr _›.2.1,‹_/\_/\Ext wr _›.2.2.trans hb1⟩) (first | (go_at_call 88;refine (HDO.out _ ‹_/\_/\Ext wr _›.2.2).mono ?_;rintro e w1 ⟨rfl,hb1⟩))
    have hX6:=‹_/\_/\Ext wr _›.2.2
    go_wp2_with fail
    go_roundw
    case rel =>
     refine ⟨hh+1,kj,Lib.hid ⟨?_,hk.out.2⟩,?_,?_,hjb,rfl,rfl,HX.out.trans hX6⟩
     ·intro y' hy'
      obtain⟨e1,e2⟩:=HY.out
      have e3:=HS.out
      rw [e1,show hh+1 - a=X1.length+1 by have:=hHM.out;omega,List.take_append,List.take_of_length_le (by omega),Nat.add_sub_cancel_left] at hy'
      rw [e1] at e3
      simp only [List.take_succ_cons,List.take_zero] at hy'
      refine Nat.le_trans (srt_last_le (x:=x) (n:=key x) ?_ (Nat.le_refl _) y' hy') (by omega)
      have:X1++x :: X2=(X1++[x])++X2:=by simp
      rw [this] at e3
      exact (List.pairwise_append.1 e3).1
     ·have:=hHM.out;omega
     ·have:=hHM.out;omega
    case measure=>have:=hHM.out;simp [intOf];omega
  ·have d:¬ (ki:Int) < kj:=by omega
   have hkj:ki=kj:=by omega
   have HROW:=Lib.hid hrow
   have HM:=Lib.hid hmi
   obtain⟨wo,rfl⟩:∃ wo:World,wo=wr:=⟨_,rfl⟩
   clear hrow hx hgw
   go_wp2_with fail
   go_loopw [17] (fun k wr=>∃ (t kk:Nat),Hid (kk=a+t)/\ki - a<=t/\t<=xl/\k=I kk/\RowI wr g (P++X.take t++y :: (X.drop t++R)) tail/\ButV (.slice (some ⟨g,0,none⟩) n c) w wr) (fun k _=>(intOf k).toNat)
   case atStart=>exact⟨xl,m,Lib.hid (by have:=HE.out;have:=HXL.out;omega),by have:=HE.out;have:=HXL.out;omega,Nat.le_refl _,rfl,by have:=HROW.out;rw [<- HXL.out];simpa using this,HX.out.but _⟩
   case round =>
    obtain⟨t,kk,hkk,htk,htl2,rfl,hrow,hb⟩:=hrel
    have hgw:g < wr.heap.size:=hrow.lt
    by_cases hend:t=ki - a
    ·have d2:¬ (kk:Int) > ki:=by have h2:=hkk.out;have h3:=HM.out;omega
     have HRX:=Lib.hid hrow
     have HBX:=Lib.hid hb
     clear hrow hb
     go_wp2_with fail
     refine bodyPost_ret (v:=.tuple #[]) (by simp [results,Tryz.f165,go_sem]) rfl ?_
     refine ⟨rfl,⟨X.take t++y :: X.drop t,by have:=HRX.out;simpa using this,?_,?_⟩,HBX.out⟩
     ·exact List.perm_middle.trans (by rw [List.take_append_drop])
     ·have h:=hk.out
      rw [<- hkj,<- hend] at h
      exact srt_one (by rw [List.take_append_drop];exact HS.out) h.1 h.2
    ·obtain⟨tp,rfl⟩:∃ tp,t=tp+1:=⟨t - 1,by omega⟩
     have d2:(kk:Int) > ki:=by have h2:=hkk.out;have h3:=HM.out;omega
     have htx:tp < X.length:=by have:=HXL.out;omega
     obtain⟨x,hx1⟩:∃ x,X[tp]? = some x:=⟨_,List.getElem?_eq_getElem htx⟩
     have htk1:X.take (tp+1)=X.take tp++[x]:=by rw [List.take_add_one,hx1];rfl
     have hdr:X.drop tp=x :: X.drop (tp+1):=by rw [List.drop_eq_getElem_cons htx];congr 1;rw [List.getElem?_eq_getElem htx] at hx1;exact Option.some.inj hx1
     have htl:(X.take tp).length=tp:=by rw [List.length_take];omega
     rw [htk1] at hrow
     obtain⟨jp,hjp⟩:∃ jp,jp=a+tp:=⟨_,rfl⟩
     have hrow1:RowI wr g ((P++X.take tp)++x :: (y :: (X.drop (tp+1)++R))) tail:=by simpa using hrow
     have hrow2:RowI wr g ((P++X.take tp++[x])++y :: (X.drop (tp+1)++R)) tail:=by simpa using hrow
     have hp1:jp=(P++X.take tp).length:=by have h1:=HE.out;simp only [List.length_append,htl];omega
     have hp2:kk=(P++X.take tp++[x]).length:=by have h1:=HE.out;have h2:=hkk.out;simp only [List.length_append,htl,List.length_cons,List.length_nil];omega
     have k1:=hrow1.cellAt hp1
     have k2:=hrow2.cellAt hp2
     have f1:=hrow.frozen kk
     have f2:=hrow.frozen jp
     have u6:jp+1=kk:=by have h2:=hkk.out;omega
     have u0:(kk:Int) < n:=by have h1:=HE.out;have h2:=hkk.out;have:=HXL.out;omega
     have u2:IntKind.i64.wrap ((kk:Int) - 1)=jp:=by rw [show (kk:Int) - 1=jp by omega];exact IntWalk.i64_in _ (by omega)
     have u3:(jp:Int) < n:=by omega
     have u4:jp < kk:=by omega
     have HU6:=Lib.hid u6
     have HRX:=Lib.hid hrow1
     have HBX:=Lib.hid hb
     have HP1:=Lib.hid (And.intro hp1 (And.intro hp2 (And.intro hjp hdr)))
     clear hrow hb hrow1 hrow2 hp1 hp2 hjp hdr htk1 htl hx1 u6
     go_wp2_with fail
     go_region
     have hown:ownBlk (.slice (some ⟨g,0,none⟩) n c) g:=⟨g,n,c,rfl,by omega,rfl⟩
     have r1:RowI (wr.setCell ⟨g,kk,none⟩ (I x)) g ((P++X.take tp++[x])++x :: (X.drop (tp+1)++R)) tail:=RowI.setAt (x:=y) (by have:=HRX.out;simpa using this) HP1.out.2.1 x
     have r2:RowI ((wr.setCell ⟨g,kk,none⟩ (I x)).setCell ⟨g,jp,none⟩ (I y)) g ((P++X.take tp)++y :: (x :: (X.drop (tp+1)++R))) tail:=RowI.setAt (x:=x) (by simpa using r1) HP1.out.1 y
     have HB2:=Lib.hid (((HBX.out.set (p:=⟨g,kk,none⟩) hown (I x)).set (p:=⟨g,jp,none⟩) hown (I y)).drew)
     have HR2:=Lib.hid r2.drew
     clear r1 r2 k1 k2 f1 f2 HRX HBX
     generalize ((wr.setCell ⟨g,kk,none⟩ (.int .i64 x)).setCell ⟨g,jp,none⟩ (.int .i64 y)).drew=W2 at *
     (try simp only [Exit.inBlock,Exit.then])
     go_wp2_with fail
     go_roundw
     case rel=>exact⟨tp,jp,Lib.hid HP1.out.2.2.1,by omega,by omega,rfl,by have:=HR2.out;rw [HP1.out.2.2.2];simpa using this,HB2.out⟩
     case measure=>simp [intOf];omega
end
section
inductive FullB (key:Int->Nat) (bs:Nat):List Int->Prop
 |nil:FullB key bs []
 |snoc {L Z:List Int}:FullB key bs L->Z.length=bs->Srt key Z->FullB key bs (L++Z)
inductive BlkB (key:Int->Nat) (bs:Nat):List Int->Prop
 |last {L:List Int}:L.length<=bs->Srt key L->BlkB key bs L
 |cons {X L:List Int}:X.length=bs->Srt key X->BlkB key bs L->BlkB key bs (X++L)
theorem FullB.blk {key:Int->Nat} {bs:Nat} {L M:List Int} (h:FullB key bs L) (hm:BlkB key bs M):BlkB key bs (L++M):=by
 induction h generalizing M with
 | nil=>simpa using hm
 | snoc _ hz hs ih=>rw [List.append_assoc];exact ih (.cons hz hs hm)
theorem BlkB.one {key:Int->Nat} {bs:Nat} {L:List Int} (h:BlkB key bs L) (hl:L.length<=bs):Srt key L:=by
 cases h with
 | last _ hs=>exact hs
 | @cons X M hx hs hm =>
  have:M = []:=List.eq_nil_of_length_eq_zero (by rw [List.length_append] at hl;omega)
  subst this
  simpa using hs
theorem BlkB.two {key:Int->Nat} {bs:Nat} {L:List Int} (h:BlkB key bs L) (hl:bs < L.length) :
  ∃ X Y M,L=X++Y++M/\X.length=bs/\0 < Y.length/\(Y.length=bs ∨ (M = []/\Y.length<=bs))/\Srt key X/\Srt key Y/\BlkB key bs M:=by
 cases h with
 | last h0 _=>omega
 | @cons X N hx hs hn =>
  cases hn with
  | last h1 h2 =>
   exact⟨X,N,[],by simp,hx,by rw [List.length_append] at hl;omega,.inr ⟨rfl,h1⟩,hs,h2,.last (by simp) List.Pairwise.nil⟩
  | @cons Y M hy h2 hm =>
   by_cases h0:bs=0
   ·subst h0
    have hy0:Y = []:=List.eq_nil_of_length_eq_zero hy
    have hx0:X = []:=List.eq_nil_of_length_eq_zero hx
    subst hy0 hx0
    exfalso
    exact zero_blk hm (by simpa using hl)
   ·exact⟨X,Y,M,by simp,hx,by omega,.inl hy,hs,h2,hm⟩
where
 zero_blk {key:Int->Nat} {M:List Int} (h:BlkB key 0 M) (hl:0 < M.length):False:=by
  induction h with
  | last h0 _=>omega
  | cons hx _ _ ih=>rw [List.length_append,hx] at hl;exact ih (by omega)
end
section
open Go.RowKit Go.Shelf
theorem srt_cross {key:Int->Nat} {A B C D:List Int} {x y:Int} (hx:Srt key (A++x :: B)) (hy:Srt key (C++y :: D)) (h:key x<=key y):∀ u ∈ A++[x],∀ v ∈ y :: D,key u<=key v:=by
 intro u hu v hv
 have h1:key u<=key x:=srt_last_le (by have:A++x :: B=(A++[x])++B:=(by simp);rw [this] at hx;exact (List.pairwise_append.1 hx).1) (Nat.le_refl _) u hu
 have h2:key y<=key v:=srt_head_ge (List.pairwise_append.1 hy).2.1 (Nat.le_refl _) v hv
 omega
theorem cut_at {X:List Int} {i:Nat} (h:i < X.length):∃ A x B,X=A++x :: B/\A.length=i :=
 ⟨X.take i,X[i],X.drop (i+1),by rw [List.getElem_cons_drop,List.take_append_drop],by rw [List.length_take];omega⟩
theorem take_at {A B:List Int} {x:Int} {i:Nat} (h:A.length=i):(A++x :: B).take (i+1)=A++[x]:=by
 subst h
 rw [List.take_append,List.take_of_length_le (by omega),Nat.add_sub_cancel_left]
 rfl
theorem drop_at {A B:List Int} {x:Int} {i:Nat} (h:A.length=i):(A++x :: B).drop i=x :: B:=by
 subst h
 simp
theorem symmerge_any {g n c tb:Nat} {tail:List Value} {C:World->Prop} {D:Int->Prop} {key:Int->Nat} {sg:Int->Int->Int} (hp:CmpP tb (.slice (some ⟨g,0,none⟩) n c) C D key sg) (h62:n<=2305843009213693952) (hc:n<=c) :
  ∀ (N:Nat) {a m b:Nat} {P X Y R:List Int} {w:World},X.length+Y.length=N->RowI w g (P++X++Y++R) tail->P.length=a->a+X.length=m->m+Y.length=b->b+R.length=n->0 < X.length->0 < Y.length->Srt key X->Srt key Y->C w->(∀ z ∈ X++Y,D z) ->
  Calls Tryz.prog 165 #[.slice (some ⟨g,0,none⟩) n c,I a,I m,I b,.func (.func 88) #[] #[.pointer (some ⟨tb,0,none⟩)]] w fun e w'=>e=.returned (.tuple #[])/\(∃ Z,RowI w' g (P++Z++R) tail/\Z.Perm (X++Y)/\Srt key Z)/\ButV (.slice (some ⟨g,0,none⟩) n c) w w':=by
 intro N
 induction N using Nat.strongRecOn with
 | ind N ih =>
 intro a m b P X Y R w hN hr ha hm hb hn hX0 hY0 hsx hsy hC hD
 by_cases hX1:X.length=1
 ·obtain⟨x,rfl⟩:=List.length_eq_one_iff.1 hX1
  refine (sym1_any (x:=x) (Y:=Y) (by simpa using hr) ha (by simpa using hm) hb hn h62 hc hsy hp hC (by simpa using hD)).mono ?_
  rintro e w' ⟨rfl,⟨Z,h1,h2,h3⟩,h4⟩
  exact⟨rfl,⟨Z,h1,by simpa using h2,h3⟩,h4⟩
 by_cases hY1:Y.length=1
 ·obtain⟨y,rfl⟩:=List.length_eq_one_iff.1 hY1
  refine (sym2_any (y:=y) (X:=X) (by simpa using hr) ha hm (by simpa using hb) hn h62 hc hX1 hsx hp hC (fun z hz=>hD z (by simp at hz ⊢;rcases hz with h | h;exact .inr h;exact .inl h))).mono ?_
  rintro e w' ⟨rfl,⟨Z,h1,h2,h3⟩,h4⟩
  exact⟨rfl,⟨Z,h1,h2.trans (List.perm_append_comm (l₁:=[y])),h3⟩,h4⟩
 have eg:∀ args w,(callFunc 88 args).run Tryz.prog w=.ok (.enter 88 args) w:=enters_of Tryz.func88 (by kernel_rfl) rfl
 have hX2:2<=X.length:=by omega
 have hY2:2<=Y.length:=by omega
 obtain⟨mid,hmid⟩:∃ mid,mid=(a+b) / 2:=⟨_,rfl⟩
 obtain⟨n0,hn0⟩:∃ n0,n0=mid+m:=⟨_,rfl⟩
 obtain⟨p,hp0⟩:∃ p,p+1=n0:=⟨n0 - 1,by omega⟩
 have hcase:∃ lo hi,Hid ((∀ x ∈ X.take (lo - a),∀ y ∈ Y.drop (n0 - lo - m),key x<=key y)/\∀ y ∈ Y.take (n0 - hi - m),∀ x ∈ X.drop (hi - a),key y<=key x)/\a<=lo/\lo<=hi/\hi<=m/\m+hi<=n0/\n0<=lo+b/\(((m:Int) > mid/\(n0:Int) - b=lo/\mid=hi) ∨ (¬ (m:Int) > mid/\a=lo/\m=hi)):=by
  by_cases h:mid < m
  ·refine ⟨n0 - b,mid,Lib.hid ⟨?_,?_⟩,by omega,by omega,by omega,by omega,by omega,.inl ⟨by omega,by omega,rfl⟩⟩
   ·rw [List.drop_eq_nil_of_le (by omega)]
    simp
   ·rw [show n0 - mid - m=0 by omega]
    simp
  ·refine ⟨a,m,Lib.hid ⟨?_,?_⟩,by omega,by omega,by omega,by omega,by omega,.inr ⟨by omega,rfl,rfl⟩⟩
   ·simp
   ·rw [show X.drop (m - a) = [] from List.drop_eq_nil_of_le (by omega)]
    simp
 obtain⟨lo,hi,hcr,l1,l2,l3,l4,l5,hcase⟩:=hcase
 have HR:=Lib.hid hr
 have HE:=Lib.hid (show P.length=a/\a+X.length=m/\m+Y.length=b/\b+R.length=n/\X.length+Y.length=N/\2<=X.length/\2<=Y.length from ⟨ha,hm,hb,hn,hN,hX2,hY2⟩)
 have HM:=Lib.hid (show mid=(a+b) / 2/\n0=mid+m/\p+1=n0 from ⟨hmid,hn0,hp0⟩)
 have v0:((a:Int)+b) / 2=mid:=by omega
 have v1:(mid:Int)+m=n0:=by omega
 obtain⟨pv,hpv⟩:∃ pv:Int,pv=p:=⟨_,rfl⟩
 have HPV:=Lib.hid hpv
 have v3:(n0:Int) - 1=pv:=by omega
 have v7:-9223372036854775808<=pv:=by omega
 have v8:pv<=9223372036854775807:=by omega
 have e1:((m:Int) - a == 1)=false:=by rw [beq_eq_false_iff_ne];omega
 have e2:((b:Int) - m == 1)=false:=by rw [beq_eq_false_iff_ne];omega
 have ham:a<=m:=by omega
 have hmb:m<=b:=by omega
 have hbn:b<=n:=by omega
 have hmm:mid<=b:=by omega
 have hnn:n0<=b+b:=by omega
 have hpn:p<=b+b:=by omega
 have hb0:=Lib.hid ((Ext.refl w).but (.slice (some ⟨g,0,none⟩) n c))
 have HC:=Lib.hid hC
 have HP:=Lib.hid hp
 have HD:=Lib.hid hD
 have HSX:=Lib.hid hsx
 have HSY:=Lib.hid hsy
 have HIH:=Lib.hid (fun (N':Nat) (hN':N' < N) (a mm b:Nat) (P X Y R:List Int) (w:World)=>@ih N' hN' a mm b P X Y R w)
 clear hr ha hm hb hn hN hC hp hD hsx hsy ih hX0 hY0 hX1 hY1 hX2 hY2 hmid hn0 hp0 hpv
 rcases hcase with ⟨hgt,v4,rfl⟩ | ⟨hgt,rfl,rfl⟩
 case' inr=>have v4:(0:Int)=0:=rfl
 all_goals
  go_enter Tryz.func165,Tryz.ntmps165
  go_wp2_with fail
  clear e1 e2 v0 hgt v4
  go_loopw [20,21,23] (fun i j h wr=>∃ (ki kj:Nat),Hid ((∀ x ∈ X.take (ki - a),∀ y ∈ Y.drop (n0 - ki - m),key x<=key y)/\∀ y ∈ Y.take (n0 - kj - m),∀ x ∈ X.drop (kj - a),key y<=key x)/\a<=ki/\n0<=ki+b/\ki<=kj/\kj<=m/\m+kj<=n0/\i=I ki/\j=I kj/\Ext w wr) (fun i j _ _=>(intOf j).toNat - (intOf i).toNat)
  case atStart=>exact⟨_,_,hcr,l1,l5,l2,l3,l4,rfl,rfl,Ext.refl w⟩
  case round =>
   obtain⟨ki,kj,hk,hmi,hmi2,hij,hjb,hjb2,rfl,rfl,hx⟩:=hrel
   clear l1 l2 l3 l4 l5 hcr
   have HX:=Lib.hid hx
   have hrow:=HR.out.ext hx
   have hgw:g < wr.heap.size:=hrow.lt
   by_cases hlt:ki < kj
   ·have d:(ki:Int) < kj:=by omega
    obtain⟨cc,hcc⟩:∃ cc,cc=(ki+kj) / 2:=⟨_,rfl⟩
    obtain⟨yy,hyy⟩:∃ yy,yy+cc=p:=⟨p - cc,by have:=HM.out;omega⟩
    obtain⟨XA,x,XB,hXe,hXl⟩:=cut_at (X:=X) (i:=cc - a) (by have:=HE.out;omega)
    obtain⟨YA,y,YB,hYe,hYl⟩:=cut_at (X:=Y) (i:=yy - m) (by have:=HE.out;have:=HM.out;omega)
    have q0:wr.cell? ⟨g,cc,none⟩=some (I x):=RowI.cellAt (A:=P++XA) (B:=XB++Y++R) (by rw [hXe] at hrow;simpa using hrow) (by have:=HE.out;simp;omega)
    have q1:wr.cell? ⟨g,yy,none⟩=some (I y):=RowI.cellAt (A:=P++X++YA) (B:=YB++R) (by rw [hYe] at hrow;simpa using hrow) (by have:=HE.out;have:=HM.out;simp;omega)
    have u0:((ki:Int)+kj) / 2=cc:=by omega
    have u1:(cc:Int) < n:=by have:=HE.out;omega
    have u2:(yy:Int) < n:=by have:=HE.out;have:=HM.out;omega
    have u3:IntKind.i64.wrap (pv - cc)=yy:=by rw [show pv - cc=yy by have:=HPV.out;omega];exact IntWalk.i64_in _ (by omega)
    have u5:0<=pv - cc:=by have:=HPV.out;omega
    have u6:pv - cc < n:=by have:=HPV.out;have:=HE.out;have:=HM.out;omega
    have u7:(pv - cc).toNat=yy:=by have:=HPV.out;omega
    have u8:(cc:Int)<=pv:=by have:=HPV.out;omega
    have u9:pv < n+cc:=by omega
    have u10:pv - cc<=9223372036854775807:=by omega
    have u11:-9223372036854775808<=pv - cc:=by omega
    have u4:cc+1<=b:=by omega
    have hHM:=Lib.hid (show a<=cc/\cc < kj/\ki<=cc/\m<=yy/\yy+cc=p from by have:=HM.out;omega)
    have HDO:=Lib.hid (fun W (h:Ext wr W)=>HP.out.does y x W (HD.out y (by rw [hYe];simp)) (HD.out x (by rw [hXe];simp)) (HP.out.keep _ _ (HP.out.keep _ _ HC.out (hx.but _)) (h.but _)))
    have hsg:=HP.out.sign y x
    have HXY:=Lib.hid (And.intro (And.intro hXe hXl) (And.intro hYe hYl))
    generalize sg y x=sz at *
    clear hXe hXl hYe hYl hrow hx hcc hyy
    by_cases hlt2:key y < key x
    ·have d2:sz < 0:=hsg.2 hlt2
     have d3:decide (sz < 0)=true:=by simpa using d2
     clear hsg
     go_wp2_with fail
     go_region_held3 (fun W=>W.cell? ⟨g,yy,none⟩=some (I y)/\W.cell? ⟨g,cc,none⟩=some (I x)/\Ext wr W) (first | exact⟨q1,q0,(Ext.refl _).drew⟩ | exact⟨hb1.cell ‹_/\_/\Ext wr _›.1,hb1.cell ‹_/\_/\Ext wr _›.2.1,‹_/\_/\Ext wr _›.2.2.trans hb1⟩) (first | (go_at_call 88;refine (HDO.out _ ‹_/\_/\Ext wr _›.2.2).mono ?_;rintro e w1 ⟨rfl,hb1⟩))
     have hX6:=‹_/\_/\Ext wr _›.2.2
     go_wp2_with fail
     go_roundw
     case rel =>
      refine ⟨ki,cc,Lib.hid ⟨hk.out.1,?_⟩,hmi,hmi2,?_,?_,?_,rfl,rfl,HX.out.trans hX6⟩
      ·obtain⟨⟨f1,f2⟩,f3,f4⟩:=HXY.out
       have f5:=HSX.out
       have f6:=HSY.out
       rw [f1] at f5
       rw [f3] at f6
       rw [show n0 - cc - m=yy - m+1 by have:=hHM.out;have:=HM.out;omega,f1,f3,take_at f4,drop_at f2]
       exact srt_cross f6 f5 (by omega)
      ·have:=hHM.out;omega
      ·have:=hHM.out;omega
      ·have:=hHM.out;omega
     case measure=>have:=hHM.out;simp [intOf];omega
    ·have d2:¬ sz < 0:=fun h=>hlt2 (hsg.1 h)
     have d3:decide (sz < 0)=false:=by simpa using d2
     have d4:(!decide (sz < 0))=true:=by simp [d3]
     clear hsg
     go_wp2_with fail
     go_region_held3 (fun W=>W.cell? ⟨g,yy,none⟩=some (I y)/\W.cell? ⟨g,cc,none⟩=some (I x)/\Ext wr W) (first | exact⟨q1,q0,(Ext.refl _).drew⟩ | exact⟨hb1.cell ‹_/\_/\Ext wr _›.1,hb1.cell ‹_/\_/\Ext wr _›.2.1,‹_/\_/\Ext wr _›.2.2.trans hb1⟩) (first | (go_at_call 88;refine (HDO.out _ ‹_/\_/\Ext wr _›.2.2).mono ?_;rintro e w1 ⟨rfl,hb1⟩))
     have hX6:=‹_/\_/\Ext wr _›.2.2
     go_wp2_with fail
     go_roundw
     case rel =>
      refine ⟨cc+1,kj,Lib.hid ⟨?_,hk.out.2⟩,?_,?_,?_,hjb,hjb2,rfl,rfl,HX.out.trans hX6⟩
      ·obtain⟨⟨f1,f2⟩,f3,f4⟩:=HXY.out
       have f5:=HSX.out
       have f6:=HSY.out
       rw [f1] at f5
       rw [f3] at f6
       rw [show n0 - (cc+1) - m=yy - m by have:=hHM.out;have:=HM.out;omega,show cc+1 - a=cc - a+1 by have:=hHM.out;omega,f1,f3,take_at f2,drop_at f4]
       exact srt_cross f5 f6 (by omega)
      ·have:=hHM.out;omega
      ·have:=hHM.out;omega
      ·have:=hHM.out;omega
     case measure=>have:=hHM.out;simp [intOf];omega
   ·have d:¬ (ki:Int) < kj:=by omega
    have hkj:ki=kj:=by omega
    subst hkj
    clear hlt hrow hgw hx
    obtain⟨ee,hee⟩:∃ ee,ee+ki=n0:=⟨n0 - ki,by omega⟩
    have v6:(n0:Int) - ki=ee:=by omega
    obtain⟨X1,X2,hXe,hXl⟩:∃ X1 X2,X=X1++X2/\X1.length=ki - a:=⟨X.take (ki - a),X.drop (ki - a),(List.take_append_drop _ _).symm,by have:=HE.out;rw [List.length_take];omega⟩
    obtain⟨Y1,Y2,hYe,hYl⟩:∃ Y1 Y2,Y=Y1++Y2/\Y1.length=ee - m:=⟨Y.take (ee - m),Y.drop (ee - m),(List.take_append_drop _ _).symm,by have:=HE.out;rw [List.length_take];omega⟩
    have hcross:Hid ((∀ x ∈ X1,∀ y ∈ Y2,key x<=key y)/\∀ y ∈ Y1,∀ x ∈ X2,key y<=key x):=by
     have h:=hk.out
     rw [show n0 - ki - m=ee - m by omega,hXe,hYe,List.take_left' hXl,List.drop_left' hXl,List.take_left' hYl,List.drop_left' hYl] at h
     exact h
    have HL:=Lib.hid (show P.length=a/\X1.length+a=ki/\ki+X2.length=m/\m+Y1.length=ee/\ee+Y2.length=b/\b+R.length=n/\X1.length+X2.length+(Y1.length+Y2.length)=N/\0 < X1.length+X2.length/\0 < Y1.length+Y2.length/\ki+Y1.length=mid/\mid+X2.length=ee/\a < mid/\mid < b from by
     have h1:=HE.out
     have h2:=HM.out
     rw [hXe,hYe,List.length_append,List.length_append] at h1
     omega)
    have hrow0:=HR.out.ext HX.out
    have hsx0:=HSX.out
    have hsy0:=HSY.out
    have hd0:=HD.out
    rw [hXe,hYe] at hrow0 hd0
    rw [hXe] at hsx0
    rw [hYe] at hsy0
    have hC0:=HP.out.keep _ _ HC.out (HX.out.but _)
    have HROW:=Lib.hid hrow0
    have HX12:=Lib.hid hsx0
    have HY12:=Lib.hid hsy0
    have HD0:=Lib.hid hd0
    have HCW:=Lib.hid hC0
    have HXe:=Lib.hid (And.intro hXe hYe)
    have r1:ki<=b:=by have:=HL.out;omega
    have r2:ee<=b:=by have:=HL.out;omega
    have r3:mid<=b:=by have:=HL.out;omega
    clear hrow0 hsx0 hsy0 hd0 hC0 hXe hYe hXl hYl hee hmi hjb hmi2 hjb2
    have sx1:=Lib.hid (List.pairwise_append.1 HX12.out)
    have sy1:=Lib.hid (List.pairwise_append.1 HY12.out)
    have ROT:=Lib.hid (fun (hx2:0 < X2.length) (hy1:0 < Y1.length) W (hW:RowI W g (P++(X1++X2)++(Y1++Y2)++R) tail) cv=>rotate_any (P:=P++X1) (X:=X2) (Y:=Y1) (R:=Y2++R) (a:=ki) (m:=m) (b:=ee) (by simpa using hW) (by have:=HL.out;rw [List.length_append];omega) (by have:=HL.out;rw [List.length_append];omega) (by have:=HL.out;rw [List.length_append];omega) hx2 hy1 (by have:=HL.out;rw [List.length_append,List.length_append];omega) (by omega) hc cv)
    have LFT:=Lib.hid (fun (hx1:0 < X1.length) (hy1:0 < Y1.length) W (hW:RowI W g (P++X1++Y1++(X2++Y2)++R) tail) (hCW:C W)=>HIH.out (X1.length+Y1.length) (by have:=HL.out;omega) a ki mid P X1 Y1 (X2++Y2++R) W rfl (by simpa using hW) (by have:=HL.out;omega) (by have:=HL.out;omega) (by have:=HL.out;omega) (by have:=HL.out;rw [List.length_append,List.length_append];omega) hx1 hy1 sx1.out.1 sy1.out.1 hCW (fun z hz=>HD0.out z (by simp only [List.mem_append] at hz ⊢;rcases hz with h | h;exact .inl (.inl h);exact .inr (.inl h))))
    have RGT:=Lib.hid (fun (hx2:0 < X2.length) (hy2:0 < Y2.length) (Z1:List Int) (hz1:Z1.length=X1.length+Y1.length) W (hW:RowI W g (P++Z1++(X2++Y2)++R) tail) (hCW:C W)=>HIH.out (X2.length+Y2.length) (by have:=HL.out;omega) mid ee b (P++Z1) X2 Y2 R W rfl (by simpa using hW) (by have:=HL.out;rw [List.length_append];omega) (by have:=HL.out;omega) (by have:=HL.out;omega) (by have:=HL.out;omega) hx2 hy2 sx1.out.2.1 sy1.out.2.1 hCW (fun z hz=>HD0.out z (by simp only [List.mem_append] at hz ⊢;rcases hz with h | h;exact .inl (.inr h);exact .inr (.inr h))))
    have FIN:=Lib.hid (fun (Z1 Z2:List Int) W (hW:RowI W g (P++Z1++Z2++R) tail) (h1:Z1.Perm (X1++Y1)) (h2:Z2.Perm (X2++Y2)) (s1:Srt key Z1) (s2:Srt key Z2)=>(show ∃ Z,RowI W g (P++Z++R) tail/\Z.Perm (X++Y)/\Srt key Z from by
     obtain⟨q1,q2⟩:=sym_parts HX12.out HY12.out h1 h2 s1 s2 hcross.out.1 hcross.out.2
     exact⟨Z1++Z2,by simpa using hW,by rw [HXe.out.1,HXe.out.2];exact q2,q1⟩))
    have HBX:=Lib.hid (HX.out.but (.slice (some ⟨g,0,none⟩) n c))
    have HN:=Lib.hid (show (X2 = [] ∨ 0 < X2.length)/\(Y1 = [] ∨ 0 < Y1.length)/\(X1 = [] ∨ 0 < X1.length)/\(Y2 = [] ∨ 0 < Y2.length) from ⟨by cases X2 <;> simp,by cases Y1 <;> simp,by cases X1 <;> simp,by cases Y2 <;> simp⟩)
    clear hk
    rcases HN.out.1 with hx2 | hx2
    ·-- X2 is none: no turning,no right half
     have t1:¬ (ki:Int) < m:=by have:=HL.out;rw [hx2] at this;simp at this;omega
     have t1':decide ((ki:Int) < m)=false:=by simpa using t1
     have t1n:decide (ki < m)=false:=by simpa using t1
     have t2:(a:Int) < ki:=by have:=HL.out;rw [hx2] at this;simp at this;omega
     have t2':decide ((a:Int) < ki)=true:=by simpa using t2
     have t2n:decide (a < ki)=true:=by simpa using t2
     have t3:¬ (mid:Int) < ee:=by have:=HL.out;rw [hx2] at this;simp at this;omega
     have t3':decide ((mid:Int) < ee)=false:=by simpa using t3
     have t3n:decide (mid < ee)=false:=by simpa using t3
     have hx1:0 < X1.length:=by have:=HL.out;rw [hx2] at this;simp at this;omega
     have hrw:RowI wr g (P++X1++Y1++(X2++Y2)++R) tail:=by have:=HROW.out;rw [hx2] at this ⊢;simpa using this
     have HRW:=Lib.hid hrw
     have HX2:=Lib.hid hx2
     clear hx2 hrw
     rcases HN.out.2.1 with hy1 | hy1
     ·have t4:¬ (ki:Int) < mid:=by have:=HL.out;rw [hy1] at this;simp at this;omega
      have t4':decide ((ki:Int) < mid)=false:=by simpa using t4
      have t4n:decide (ki < mid)=false:=by simpa using t4
      have HY1:=Lib.hid hy1
      clear hy1
      go_wp2_with fail
      go_end0
      have h:=FIN.out X1 Y2 _ (by have:=HRW.out;rw [HX2.out,HY1.out] at this;simpa using this) (by rw [HY1.out];simp) (by rw [HX2.out];simp) sx1.out.1 sy1.out.2.1
      simp only [List.append_assoc] at h
      exact⟨rfl,h,HBX.out⟩
     ·have t4:(ki:Int) < mid:=by have:=HL.out;omega
      have t4':decide ((ki:Int) < mid)=true:=by simpa using t4
      have t4n:decide (ki < mid)=true:=by simpa using t4
      have CL:=Lib.hid (LFT.out hx1 hy1 _ HRW.out HCW.out)
      go_wp2_with fail
      refine CL.out.mono ?_
      rintro e w2 ⟨rfl,⟨Z1,hr2,hp2,hs2⟩,hb2⟩
      have HF:=Lib.hid (And.intro (And.intro hr2 hp2) (And.intro hs2 hb2))
      clear CL hr2 hp2 hs2 hb2
      go_wp2_with fail
      go_end0
      exact⟨rfl,FIN.out Z1 Y2 _ (by have:=HF.out.1.1;rw [HX2.out] at this;simpa using this) HF.out.1.2 (by rw [HX2.out];simp) HF.out.2.1 sy1.out.2.1,HBX.out.trans HF.out.2.2⟩
    ·have t1:(ki:Int) < m:=by have:=HL.out;omega
     have t1':decide ((ki:Int) < m)=true:=by simpa using t1
     have t1n:decide (ki < m)=true:=by simpa using t1
     have t3:(mid:Int) < ee:=by have:=HL.out;omega
     have t3':decide ((mid:Int) < ee)=true:=by simpa using t3
     have t3n:decide (mid < ee)=true:=by simpa using t3
     rcases HN.out.2.1 with hy1 | hy1
     ·-- Y1 is none: no turning,no left half
      have t2:¬ (m:Int) < ee:=by have:=HL.out;rw [hy1] at this;simp at this;omega
      have t2':decide ((m:Int) < ee)=false:=by simpa using t2
      have t2n:decide (m < ee)=false:=by simpa using t2
      have t4:¬ (ki:Int) < mid:=by have:=HL.out;rw [hy1] at this;simp at this;omega
      have t4':decide ((ki:Int) < mid)=false:=by simpa using t4
      have t4n:decide (ki < mid)=false:=by simpa using t4
      have t5:(ee:Int) < b:=by have:=HL.out;rw [hy1] at this;simp at this;omega
      have t5':decide ((ee:Int) < b)=true:=by simpa using t5
      have t5n:decide (ee < b)=true:=by simpa using t5
      have hy2:0 < Y2.length:=by have:=HL.out;rw [hy1] at this;simp at this;omega
      have hrw:RowI wr g (P++X1++(X2++Y2)++R) tail:=by have:=HROW.out;rw [hy1] at this;simpa using this
      have CL:=Lib.hid (RGT.out hx2 hy2 X1 (by rw [hy1];simp) _ hrw HCW.out)
      have HY1:=Lib.hid hy1
      clear hy1 hrw
      have t6:(a:Int) < ki ∨ ¬ (a:Int) < ki:=Classical.em _
      rcases t6 with t6 | t6
      case' inl =>
       have t6':decide ((a:Int) < ki)=true:=by simpa using t6
       have t6n:decide (a < ki)=true:=by simpa using t6
      case' inr =>
       have t6':decide ((a:Int) < ki)=false:=by simpa using t6
       have t6n:decide (a < ki)=false:=by simpa using t6
      all_goals
       go_wp2_with fail
       refine CL.out.mono ?_
       rintro e w2 ⟨rfl,⟨Z2,hr2,hp2,hs2⟩,hb2⟩
       have HF:=Lib.hid (And.intro (And.intro hr2 hp2) (And.intro hs2 hb2))
       clear CL hr2 hp2 hs2 hb2
       go_wp2_with fail
       go_end0
       exact⟨rfl,FIN.out X1 Z2 _ HF.out.1.1 (by rw [HY1.out];simp) HF.out.1.2 sx1.out.1 HF.out.2.1,HBX.out.trans HF.out.2.2⟩
     ·-- the two are turned
      have t2:(m:Int) < ee:=by have:=HL.out;omega
      have t2':decide ((m:Int) < ee)=true:=by simpa using t2
      have t2n:decide (m < ee)=true:=by simpa using t2
      have t4:(ki:Int) < mid:=by have:=HL.out;omega
      have t4':decide ((ki:Int) < mid)=true:=by simpa using t4
      have t4n:decide (ki < mid)=true:=by simpa using t4
      have CR:=Lib.hid (ROT.out hx2 hy1 _ HROW.out)
      rcases HN.out.2.2.1 with hx1 | hx1
      ·have t6:¬ (a:Int) < ki:=by have:=HL.out;rw [hx1] at this;simp at this;omega
       have t6':decide ((a:Int) < ki)=false:=by simpa using t6
       have t6n:decide (a < ki)=false:=by simpa using t6
       have HX1:=Lib.hid hx1
       clear hx1
       rcases HN.out.2.2.2 with hy2 | hy2
       ·have t7:¬ (ee:Int) < b:=by have:=HL.out;rw [hy2] at this;simp at this;omega
        have t7':decide ((ee:Int) < b)=false:=by simpa using t7
        have t7n:decide (ee < b)=false:=by simpa using t7
        have HY2:=Lib.hid hy2
        clear hy2
        go_wp2_with fail
        refine (CR.out _).mono ?_
        rintro e w2 ⟨rfl,hr2,hb2⟩
        have HF:=Lib.hid (And.intro hr2 hb2)
        clear CR hr2 hb2
        go_wp2_with fail
        go_end0
        exact⟨rfl,FIN.out Y1 X2 _ (by have:=HF.out.1;rw [HX1.out,HY2.out] at this;simpa using this) (by rw [HX1.out];simp) (by rw [HY2.out];simp) sy1.out.1 sx1.out.2.1,HBX.out.trans HF.out.2⟩
       ·have t7:(ee:Int) < b:=by have:=HL.out;omega
        have t7':decide ((ee:Int) < b)=true:=by simpa using t7
        have t7n:decide (ee < b)=true:=by simpa using t7
        go_wp2_with fail
        refine (CR.out _).mono ?_
        rintro e w2 ⟨rfl,hr2,hb2⟩
        have CL:=Lib.hid (RGT.out hx2 hy2 Y1 (by rw [HX1.out];simp) w2 (by have:=hr2;rw [HX1.out] at this;simpa using this) (HP.out.keep _ _ HCW.out hb2))
        have HB2:=Lib.hid hb2
        clear CR hr2 hb2
        go_wp2_with fail
        refine CL.out.mono ?_
        rintro e w3 ⟨rfl,⟨Z2,hr2,hp2,hs2⟩,hb2⟩
        have HF:=Lib.hid (And.intro (And.intro hr2 hp2) (And.intro hs2 hb2))
        clear CL hr2 hp2 hs2 hb2
        go_wp2_with fail
        go_end0
        exact⟨rfl,FIN.out Y1 Z2 _ HF.out.1.1 (by rw [HX1.out];simp) HF.out.1.2 sy1.out.1 HF.out.2.1,(HBX.out.trans HB2.out).trans HF.out.2.2⟩
      ·have t6:(a:Int) < ki:=by have:=HL.out;omega
       have t6':decide ((a:Int) < ki)=true:=by simpa using t6
       have t6n:decide (a < ki)=true:=by simpa using t6
       rcases HN.out.2.2.2 with hy2 | hy2
       ·have t7:¬ (ee:Int) < b:=by have:=HL.out;rw [hy2] at this;simp at this;omega
        have t7':decide ((ee:Int) < b)=false:=by simpa using t7
        have t7n:decide (ee < b)=false:=by simpa using t7
        have HY2:=Lib.hid hy2
        clear hy2
        go_wp2_with fail
        refine (CR.out _).mono ?_
        rintro e w2 ⟨rfl,hr2,hb2⟩
        have CL:=Lib.hid (LFT.out hx1 hy1 w2 (by have:=hr2;simpa using this) (HP.out.keep _ _ HCW.out hb2))
        have HB2:=Lib.hid hb2
        clear CR hr2 hb2
        go_wp2_with fail
        refine CL.out.mono ?_
        rintro e w3 ⟨rfl,⟨Z1,hr2,hp2,hs2⟩,hb2⟩
        have HF:=Lib.hid (And.intro (And.intro hr2 hp2) (And.intro hs2 hb2))
        clear CL hr2 hp2 hs2 hb2
        go_wp2_with fail
        go_end0
        exact⟨rfl,FIN.out Z1 X2 _ (by have:=HF.out.1.1;rw [HY2.out] at this;simpa using this) HF.out.1.2 (by rw [HY2.out];simp) HF.out.2.1 sx1.out.2.1,(HBX.out.trans HB2.out).trans HF.out.2.2⟩
       ·have t7:(ee:Int) < b:=by have:=HL.out;omega
        have t7':decide ((ee:Int) < b)=true:=by simpa using t7
        have t7n:decide (ee < b)=true:=by simpa using t7
        go_wp2_with fail
        refine (CR.out _).mono ?_
        rintro e w2 ⟨rfl,hr2,hb2⟩
        have CL:=Lib.hid (LFT.out hx1 hy1 w2 (by have:=hr2;simpa using this) (HP.out.keep _ _ HCW.out hb2))
        have HB2:=Lib.hid (HBX.out.trans hb2)
        have HC2:=Lib.hid (HP.out.keep _ _ HCW.out hb2)
        clear CR hr2 hb2
        go_wp2_with fail
        refine CL.out.mono ?_
        rintro e w3 ⟨rfl,⟨Z1,hr3,hp3,hs3⟩,hb3⟩
        have CL2:=Lib.hid (RGT.out hx2 hy2 Z1 (by rw [hp3.length_eq,List.length_append]) w3 (by simpa using hr3) (HP.out.keep _ _ HC2.out hb3))
        have HF1:=Lib.hid (And.intro hp3 (And.intro hs3 (HB2.out.trans hb3)))
        clear CL hr3 hp3 hs3 hb3
        go_wp2_with fail
        refine CL2.out.mono ?_
        rintro e w4 ⟨rfl,⟨Z2,hr2,hp2,hs2⟩,hb2⟩
        have HF:=Lib.hid (And.intro (And.intro hr2 hp2) (And.intro hs2 hb2))
        clear CL2 hr2 hp2 hs2 hb2
        go_wp2_with fail
        go_end0
        exact⟨rfl,FIN.out Z1 Z2 _ HF.out.1.1 HF1.out.1 HF.out.1.2 HF1.out.2.1 HF.out.2.1,HF1.out.2.2.trans HF.out.2.2⟩
theorem cut_len {X:List Int} {i:Nat} (h:i<=X.length):∃ A B,X=A++B/\A.length=i :=
 ⟨X.take i,X.drop i,(List.take_append_drop _ _).symm,by rw [List.length_take];omega⟩
theorem perm_mid {A X Z B L:List Int} (h:(A++(X++B)).Perm L) (hz:Z.Perm X):(A++(Z++B)).Perm L :=
 ((hz.append_right B).append_left A).trans h
theorem stable_any {g n c tb:Nat} {tail:List Value} {C:World->Prop} {D:Int->Prop} {key:Int->Nat} {sg:Int->Int->Int} {L:List Int} {w:World} (hp:CmpP tb (.slice (some ⟨g,0,none⟩) n c) C D key sg) (h62:n<=1152921504606846976) (hc:n<=c)
  (hr:RowI w g L tail) (hn:L.length=n) (hC:C w) (hD:∀ z ∈ L,D z) :
  Calls Tryz.prog 132 #[.slice (some ⟨g,0,none⟩) n c,I n,.func (.func 88) #[] #[.pointer (some ⟨tb,0,none⟩)]] w fun e w'=>e=.returned (.tuple #[])/\(∃ Z,RowI w' g Z tail/\Z.Perm L/\Srt key Z)/\ButV (.slice (some ⟨g,0,none⟩) n c) w w':=by
 have INS:=Lib.hid (fun (P X R:List Int) (a b:Nat) W (hW:RowI W g (P++X++R) tail) (ha:P.length=a) (hb:P.length+X.length=b) (hn:P.length+X.length+R.length=n) (hb0:ButV (.slice (some ⟨g,0,none⟩) n c) w W) (hpm:(P++(X++R)).Perm L) =>
  insertion_any hW ha hb hn (by omega) hc hp (hp.keep _ _ hC hb0) (fun x hx=>hD x (hpm.subset (by simp [hx]))))
 have MRG:=Lib.hid (fun (P X Y R:List Int) (a m b:Nat) W (hW:RowI W g (P++X++Y++R) tail) (ha:P.length=a) (hm:a+X.length=m) (hb:m+Y.length=b) (hn:b+R.length=n) (hx:0 < X.length) (hy:0 < Y.length) (sx:Srt key X) (sy:Srt key Y) (hb0:ButV (.slice (some ⟨g,0,none⟩) n c) w W) (hpm:(P++(X++Y++R)).Perm L) =>
  symmerge_any hp (by omega) hc (X.length+Y.length) rfl hW ha hm hb hn hx hy sx sy (hp.keep _ _ hC hb0) (fun x hx=>hD x (hpm.subset (by simp at hx ⊢;rcases hx with h | h;exact .inr (.inl h);exact .inr (.inr (.inl h))))))
 have HR:=Lib.hid hr
 have HN:=Lib.hid hn
 have hb0:=Lib.hid ((Ext.refl w).but (.slice (some ⟨g,0,none⟩) n c))
 clear hr hn hC hD hp
 go_enter Tryz.func132,Tryz.ntmps132
 go_wp2_with fail
 go_loopw [7,8] (fun va vb wr=>∃ (L1 U:List Int) (k kk:Nat),va=I k/\vb=I kk/\Hid (kk=k+20/\L1.length=k/\L1.length+U.length=n)/\k<=n/\RowI wr g (L1++U) tail/\FullB key 20 L1/\(L1++U).Perm L/\ButV (.slice (some ⟨g,0,none⟩) n c) w wr) (fun _ b _=>n+40 - (intOf b).toNat)
 case atStart=>exact⟨[],L,0,20,rfl,rfl,Lib.hid ⟨rfl,rfl,by simpa using HN.out⟩,Nat.zero_le _,HR.out,.nil,.refl _,hb0.out⟩
 case round =>
  obtain⟨L1,U,k,kk,rfl,rfl,hk,hkn,hrow,hfull,hperm,hb⟩:=hrel
  have HF:=Lib.hid (And.intro (And.intro hrow hfull) (And.intro hperm hb))
  clear hrow hfull hperm hb
  by_cases hle:kk<=n
  ·have d:(kk:Int)<=n:=by omega
   obtain⟨X,U2,rfl,hX⟩:=cut_len (X:=U) (i:=20) (by have:=hk.out;omega)
   have CI:=Lib.hid (INS.out L1 X U2 k kk _ (by have:=HF.out.1.1;simpa using this) hk.out.2.1 (by have:=hk.out;omega) (by have:=hk.out.2.2;rw [List.length_append] at this;omega) HF.out.2.2 HF.out.2.1)
   have HX:=Lib.hid hX
   clear hX
   go_wp2_with fail
   refine CI.out.mono ?_
   rintro e w2 ⟨rfl,⟨Z,hr2,hp2,hs2⟩,hb2⟩
   have H2:=Lib.hid (And.intro (And.intro hr2 hp2) (And.intro hs2 hb2))
   clear CI hr2 hp2 hs2 hb2
   go_wp2_with fail
   go_roundw
   case rel=>exact⟨L1++Z,U2,kk,kk+20,rfl,by simp,Lib.hid ⟨rfl,by have:=hk.out;have:=H2.out.1.2.length_eq;have:=HX.out;rw [List.length_append];omega,by have:=hk.out.2.2;have h3:=H2.out.1.2.length_eq;rw [List.length_append] at this ⊢;omega⟩,hle,H2.out.1.1,.snoc HF.out.1.2 (by have:=H2.out.1.2.length_eq;have:=HX.out;omega) H2.out.2.1,by rw [List.append_assoc];exact perm_mid HF.out.2.1 H2.out.1.2,HF.out.2.2.trans H2.out.2.2⟩
   case measure=>simp [intOf];omega
  ·have d:¬ (kk:Int)<=n:=by omega
   have CI:=Lib.hid (INS.out L1 U [] k n _ (by have:=HF.out.1.1;simpa using this) hk.out.2.1 (by have:=hk.out;omega) (by have:=hk.out.2.2;simpa using this) HF.out.2.2 (by have:=HF.out.2.1;simpa using this))
   go_wp2_with fail
   refine CI.out.mono ?_
   rintro e w2 ⟨rfl,⟨Z,hr2,hp2,hs2⟩,hb2⟩
   have H2:=Lib.hid (show RowI w2 g (L1++Z) tail/\(L1++Z).Perm L/\BlkB key 20 (L1++Z)/\ButV (.slice (some ⟨g,0,none⟩) n c) w w2 from by
    refine ⟨by simpa using hr2,(hp2.append_left L1).trans HF.out.2.1,HF.out.1.2.blk (.last ?_ hs2),HF.out.2.2.trans hb2⟩
    have:=hp2.length_eq
    have:=hk.out
    omega)
   clear CI hr2 hp2 hs2 hb2 HF hle d
   go_wp2_with fail
   go_loopw [6,7,8,9] (fun vs va vb vm wr=>∃ (L':List Int) (bs:Nat),vs=I bs/\20<=bs/\bs<=2 * n+20/\RowI wr g L' tail/\L'.Perm L/\BlkB key bs L'/\ButV (.slice (some ⟨g,0,none⟩) n c) w wr) (fun s _ _ _ _=>n - (intOf s).toNat)
   case atStart=>exact⟨L1++Z,20,rfl,by omega,by omega,H2.out⟩
   case round =>
    obtain⟨L',bs,rfl,h20,hbs,hrow,hperm,hblk,hb⟩:=hrel
    have HF:=Lib.hid (And.intro (And.intro hrow hperm) (And.intro hblk hb))
    have hll:L'.length=n:=by rw [hperm.length_eq];exact HN.out
    have HLL:=Lib.hid hll
    clear hrow hperm hblk hb hll
    by_cases hlt:bs < n
    ·have d:(bs:Int) < n:=by omega
     obtain⟨wo,rfl⟩:∃ wo:World,wo=wr:=⟨_,rfl⟩
     go_wp2_with fail
     go_loopw [7,8] (fun va vb wr=>∃ (L1 L2:List Int) (k kk:Nat),va=I k/\vb=I kk/\Hid (kk=k+2 * bs/\L1.length=k/\L1.length+L2.length=n)/\k<=n/\RowI wr g (L1++L2) tail/\FullB key (2 * bs) L1/\BlkB key bs L2/\(L1++L2).Perm L/\ButV (.slice (some ⟨g,0,none⟩) n c) w wr) (fun a _ _=>n+1 - (intOf a).toNat)
     case atStart=>exact⟨[],L',0,2 * bs,rfl,by simp,Lib.hid ⟨by omega,rfl,by simpa using HLL.out⟩,Nat.zero_le _,HF.out.1.1,.nil,HF.out.2.1,HF.out.1.2,HF.out.2.2⟩
     case round =>
      obtain⟨L1,L2,k,kk,rfl,rfl,hk,hkn,hrow,hfull,hblk,hperm,hb⟩:=hrel
      have HG:=Lib.hid (And.intro (And.intro hrow hfull) (And.intro hperm hb))
      have HBK:=Lib.hid hblk
      clear hrow hfull hperm hb hblk
      obtain⟨mm,hmm⟩:∃ mm,mm=k+bs:=⟨_,rfl⟩
      have v0:(k:Int)+bs=mm:=by omega
      have HMM:=Lib.hid hmm
      by_cases hle:kk<=n
      ·have d1:(kk:Int)<=n:=by omega
       obtain⟨X,Y,M,rfl,hX,hY0,hY,sx,sy,hM⟩:=HBK.out.two (by have:=hk.out;omega)
       have hY:Y.length=bs:=by
        rcases hY with h | ⟨rfl,h⟩
        ·exact h
        ·have:=hk.out;simp at this;omega
       have CI:=Lib.hid (MRG.out L1 X Y M k mm kk _ (by have:=HG.out.1.1;simpa using this) hk.out.2.1 (by omega) (by have:=hk.out;omega) (by have:=hk.out;simp at this;omega) (by omega) (by omega) sx sy HG.out.2.2 HG.out.2.1)
       have HXY:=Lib.hid (And.intro (And.intro hX hY) hM)
       clear hmm hX hY hY0 sx sy hM
       go_wp2_with fail
       refine CI.out.mono ?_
       rintro e w2 ⟨rfl,⟨Z2,hr2,hp2,hs2⟩,hb2⟩
       have H3:=Lib.hid (And.intro (And.intro hr2 hp2) (And.intro hs2 hb2))
       have HZL:=Lib.hid (show Z2.length=2 * bs from by have h1:=hp2.length_eq;have:=HXY.out;rw [List.length_append] at h1;omega)
       clear CI hr2 hp2 hs2 hb2
       go_wp2_with fail
       go_roundw
       case rel=>exact⟨L1++Z2,M,kk,kk+2 * bs,rfl,by simp,Lib.hid ⟨rfl,by have:=hk.out;have:=HZL.out;rw [List.length_append];omega,by have h3:=hk.out.2.2;have h4:=HZL.out;simp only [List.length_append] at h3 ⊢;have:=HXY.out;omega⟩,hle,H3.out.1.1,.snoc HG.out.1.2 HZL.out H3.out.2.1,HXY.out.2,by rw [List.append_assoc];exact perm_mid HG.out.2.1 H3.out.1.2,HG.out.2.2.trans H3.out.2.2⟩
       case measure=>have:=hk.out;simp [intOf];omega
      ·have d1:¬ (kk:Int)<=n:=by omega
       by_cases hml:mm < n
       ·have d2:(mm:Int) < n:=by omega
        obtain⟨X,Y,M,rfl,hX,hY0,hY,sx,sy,hM⟩:=HBK.out.two (by have:=hk.out;omega)
        obtain⟨rfl,hY⟩:M = []/\Y.length<=bs:=by
         rcases hY with h | h
         ·have:=hk.out;simp at this;omega
         ·exact h
        have CI:=Lib.hid (MRG.out L1 X Y [] k mm n _ (by have:=HG.out.1.1;simpa using this) hk.out.2.1 (by omega) (by have:=hk.out;simp at this;omega) (by simp) (by omega) (by omega) sx sy HG.out.2.2 HG.out.2.1)
        have HXY:=Lib.hid (And.intro hX hY)
        clear hmm hX hY hY0 sx sy hM
        go_wp2_with fail
        refine CI.out.mono ?_
        rintro e w2 ⟨rfl,⟨Z2,hr2,hp2,hs2⟩,hb2⟩
        have H3:=Lib.hid (show RowI w2 g (L1++Z2) tail/\(L1++Z2).Perm L/\BlkB key (2 * bs) (L1++Z2)/\ButV (.slice (some ⟨g,0,none⟩) n c) w w2 from by
         refine ⟨by simpa using hr2,by have:=perm_mid (B:=[]) (X:=X++Y) (by simpa using HG.out.2.1) hp2;simpa using this,HG.out.1.2.blk (.last ?_ hs2),HG.out.2.2.trans hb2⟩
         have h1:=hp2.length_eq
         have:=HXY.out
         rw [List.length_append] at h1
         omega)
        clear CI hr2 hp2 hs2 hb2
        go_wp2_with fail
        go_roundw
        case rel=>exact⟨L1++Z2,2 * bs,by first | rfl | (congr 1;omega),by omega,by omega,H3.out⟩
        case measure=>simp [intOf];omega
       ·have d2:¬ (mm:Int) < n:=by omega
        have H3:=Lib.hid (show RowI wr g (L1++L2) tail/\(L1++L2).Perm L/\BlkB key (2 * bs) (L1++L2)/\ButV (.slice (some ⟨g,0,none⟩) n c) w wr from by
         have h1:L2.length<=bs:=by have:=hk.out;omega
         exact⟨HG.out.1.1,HG.out.2.1,HG.out.1.2.blk (.last (by omega) (HBK.out.one h1)),HG.out.2.2⟩)
        clear hmm
        go_wp2_with fail
        go_roundw
        case rel=>exact⟨L1++L2,2 * bs,by first | rfl | (congr 1;omega),by omega,by omega,H3.out⟩
        case measure=>simp [intOf];omega
    ·have d:¬ (bs:Int) < n:=by omega
     have HS:=Lib.hid (HF.out.2.1.one (by have:=HLL.out;omega))
     go_wp2
     go_end0
     exact⟨rfl,⟨L',HF.out.1.1,HF.out.1.2,HS.out⟩,HF.out.2.2⟩
theorem sortstable_any {g n c tb:Nat} {tail:List Value} {C:World->Prop} {D:Int->Prop} {key:Int->Nat} {sg:Int->Int->Int} {L:List Int} {w:World} (hp:CmpP tb (.slice (some ⟨g,0,none⟩) n c) C D key sg) (h62:n<=1152921504606846976) (hc:n<=c)
  (hr:RowI w g L tail) (hn:L.length=n) (hC:C w) (hD:∀ z ∈ L,D z) :
  Calls Tryz.prog 87 #[.slice (some ⟨g,0,none⟩) n c,.func (.func 88) #[] #[.pointer (some ⟨tb,0,none⟩)]] w fun e w'=>e=.returned (.tuple #[])/\(∃ Z,RowI w' g Z tail/\Z.Perm L/\Srt key Z)/\ButV (.slice (some ⟨g,0,none⟩) n c) w w':=by
 have H:=Lib.hid (stable_any hp h62 hc hr hn hC hD)
 clear hr hn hC hD hp
 go_enter Tryz.func87,Tryz.ntmps87
 go_wp2_with fail
 refine H.out.mono ?_
 rintro e w2 ⟨rfl,h⟩
 have HF:=Lib.hid h
 clear h H
 go_wp2_with fail
 go_end0
 exact⟨rfl,HF.out⟩
def saidL (v w:Word):List Int:=[higherM v.keeper w.keeper,cmpN v.round w.round,cmpPath v.keeper w.keeper]
def saidM (v w:Word):Word:={ of:=v.of,has:=max v.has w.has,keeper:=if firstL (saidL v w) < 0 then w.keeper else v.keeper,round:=if firstL (saidL v w) < 0 then w.round else v.round,agreed:=v.agreed || w.agreed,cap:=max v.cap w.cap,pruned:=v.pruned || w.pruned }
def WordsAt (a b:Nat) (x y:Word) (W:World):Prop:=RowIs W a 71 (wordC x) []/\RowIs W b 71 (wordC y) []
theorem WordsAt.ext {a b:Nat} {x y:Word} {W W':World} (h:WordsAt a b x y W) (he:Ext W W'):WordsAt a b x y W':=⟨h.1.ext he,h.2.ext he⟩
section
variable {a b:Nat} {x y:Word} {W:World}
theorem said1_any (h:WordsAt a b x y W) (hk:x.keeper.length < 4611686018427387904) (hl:y.keeper.length < 4611686018427387904):Calls Tryz.prog 147 #[.pointer (some ⟨a,0,none⟩),.pointer (some ⟨b,0,none⟩)] W fun e w'=>e=.returned (I (higherM x.keeper y.keeper))/\Ext W w':=by
 have hx:=h.1.cell (j:=2) rfl
 have hy:=h.2.cell (j:=2) rfl
 have HC:=Lib.hid (fun W=>higher_any x.keeper y.keeper hk hl W)
 generalize higherM x.keeper y.keeper=K at *
 clear h
 go_enter Tryz.func147,Tryz.ntmps147
 go_wp2_with fail
 refine (HC.out _).mono ?_
 rintro e w1 ⟨rfl,hx1⟩
 go_wp2
 go_ret
 exact⟨rfl,hx1⟩
theorem said2_any (h:WordsAt a b x y W):Calls Tryz.prog 148 #[.pointer (some ⟨a,0,none⟩),.pointer (some ⟨b,0,none⟩)] W fun e w'=>e=.returned (I (cmpN x.round y.round))/\Ext W w':=by
 have hx:=h.1.cell (j:=3) rfl
 have hy:=h.2.cell (j:=3) rfl
 have HC:=Lib.hid (fun W=>(ncmp_any x.round y.round W).mono (R':=fun e w'=>e=.returned (I (cmpN x.round y.round))/\Ext W w') (by rintro e w' ⟨rfl,rfl⟩;exact⟨rfl,Ext.refl _⟩))
 generalize cmpN x.round y.round=K at *
 clear h
 go_enter Tryz.func148,Tryz.ntmps148
 go_wp2_with fail
 refine (HC.out _).mono ?_
 rintro e w1 ⟨rfl,hx1⟩
 go_wp2
 go_ret
 exact⟨rfl,hx1⟩
theorem said3_any (h:WordsAt a b x y W) (hk:x.keeper.length < 4611686018427387904) (hl:y.keeper.length < 4611686018427387904):Calls Tryz.prog 149 #[.pointer (some ⟨a,0,none⟩),.pointer (some ⟨b,0,none⟩)] W fun e w'=>e=.returned (I (cmpPath x.keeper y.keeper))/\Ext W w':=by
 have hx:=h.1.cell (j:=2) rfl
 have hy:=h.2.cell (j:=2) rfl
 have HC:=Lib.hid (fun W=>pcmp_any x.keeper y.keeper hk hl W)
 generalize cmpPath x.keeper y.keeper=K at *
 clear h
 go_enter Tryz.func149,Tryz.ntmps149
 go_wp2_with fail
 refine (HC.out _).mono ?_
 rintro e w1 ⟨rfl,hx1⟩
 go_wp2
 go_ret
 exact⟨rfl,hx1⟩
end
def word0:Word:=⟨[],0,[],0,false,0,false⟩
theorem said_any (x y:Word) (hx:x.keeper.length < 4611686018427387904) (hy:y.keeper.length < 4611686018427387904) (w:World):Calls Tryz.prog 110 #[wordV x,wordV y] w fun e w'=>e=.returned (wordV (saidM x y))/\Ext w w':=by
 have ra:=rowNew w 71 (wordC x)
 have xa:=(Ext.refl w).alloc (.cells (wordC x).toArray 71)
 have rb:=rowNew (w.alloc (.cells (wordC x).toArray 71)) 71 (wordC y)
 have xb:=xa.alloc (.cells (wordC y).toArray 71)
 have rc:=rowNew ((w.alloc (.cells (wordC x).toArray 71)).alloc (.cells (wordC y).toArray 71)) 71 (wordC word0)
 have xc:=xb.alloc (.cells (wordC word0).toArray 71)
 simp only [World.size_alloc] at rb rc
 have hpl:WordsAt w.heap.size (w.heap.size+1) x y (((w.alloc (.cells (wordC x).toArray 71)).alloc (.cells (wordC y).toArray 71)).alloc (.cells (wordC word0).toArray 71)):=⟨(ra.alloc _).alloc _,rb.alloc _⟩
 have hsz:(((w.alloc (.cells (wordC x).toArray 71)).alloc (.cells (wordC y).toArray 71)).alloc (.cells (wordC word0).toArray 71)).heap.size=w.heap.size+3:=by simp
 have HT:=Lib.hid (fun (W:World) (h:WordsAt w.heap.size (w.heap.size+1) x y W) (g:Nat) (hr:RowIs W g 96 ([(147,higherM x.keeper y.keeper),(148,cmpN x.round y.round),(149,cmpPath x.keeper y.keeper)].map fun (e:Nat × Int)=>.func (.func e.1) #[] #[.pointer (some ⟨w.heap.size,0,none⟩),.pointer (some ⟨w.heap.size+1,0,none⟩)]) []) =>
  told_any (C:=WordsAt w.heap.size (w.heap.size+1) x y) (fun _ _ h k=>h.ext k) (by
   intro e he
   simp only [List.mem_cons,List.not_mem_nil,or_false] at he
   rcases he with rfl | rfl | rfl
   ·exact⟨enters_of Tryz.func147 (by kernel_rfl) rfl,fun W h=>said1_any h hx hy⟩
   ·exact⟨enters_of Tryz.func148 (by kernel_rfl) rfl,fun W h=>said2_any h⟩
   ·exact⟨enters_of Tryz.func149 (by kernel_rfl) rfl,fun W h=>said3_any h hx hy⟩) hr h (by simp))
 have hfl:firstL ([(147,higherM x.keeper y.keeper),(148,cmpN x.round y.round),(149,cmpPath x.keeper y.keeper)].map fun (e:Nat × Int)=>e.2)=firstL (saidL x y):=rfl
 rw [hfl] at HT
 unfold saidM
 generalize firstL (saidL x y)=K at *
 have HSZ:=Lib.hid hsz
 have HW:=Lib.hid (And.intro hpl (And.intro rc (And.intro xc hsz)))
 clear hfl hpl ra rb rc xa xb xc hsz hx hy
 unfold wordV
 unfold wordC word0 at HW
 go_enter Tryz.func110,Tryz.ntmps110
 go_wp2_with fail
 have h3:=HW.out.2.2.2
 have hr4:=rowNew (((w.alloc (.cells (wordC x).toArray 71)).alloc (.cells (wordC y).toArray 71)).alloc (.cells (wordC word0).toArray 71)) 96 [.func (.func 147) #[] #[.pointer (some ⟨w.heap.size,0,none⟩),.pointer (some ⟨w.heap.size+1,0,none⟩)],.func (.func 148) #[] #[.pointer (some ⟨w.heap.size,0,none⟩),.pointer (some ⟨w.heap.size+1,0,none⟩)],.func (.func 149) #[] #[.pointer (some ⟨w.heap.size,0,none⟩),.pointer (some ⟨w.heap.size+1,0,none⟩)]]
 have x34:=(Ext.refl (((w.alloc (.cells (wordC x).toArray 71)).alloc (.cells (wordC y).toArray 71)).alloc (.cells (wordC word0).toArray 71))).alloc (.cells ([.func (.func 147) #[] #[.pointer (some ⟨w.heap.size,0,none⟩),.pointer (some ⟨w.heap.size+1,0,none⟩)],.func (.func 148) #[] #[.pointer (some ⟨w.heap.size,0,none⟩),.pointer (some ⟨w.heap.size+1,0,none⟩)],.func (.func 149) #[] #[.pointer (some ⟨w.heap.size,0,none⟩),.pointer (some ⟨w.heap.size+1,0,none⟩)]]:List Value).toArray 96)
 rw [show (((w.alloc (.cells (wordC x).toArray 71)).alloc (.cells (wordC y).toArray 71)).alloc (.cells (wordC word0).toArray 71)).heap.size=w.heap.size+1+1+1 from by simp] at hr4
 refine (HT.out _ (HW.out.1.ext x34) _ hr4).mono ?_
 rintro e w2 ⟨rfl,hx2⟩
 have hx4:=x34.trans hx2
 have hr5:=rowNew w2 71 (wordC x)
 have hx5:=hx4.alloc (.cells (wordC x).toArray 71)
 have HA:=Lib.hid (And.intro (HW.out.1.ext hx5) (And.intro (HW.out.2.1.ext hx5) (And.intro (HW.out.2.2.1.trans hx5) hr5)))
 have hs2:w.heap.size+3<=w2.heap.size:=by have h1:=hx4.size;have h2:=HSZ.out;omega
 have pa2:=(HW.out.1.ext hx4).1
 unfold wordC at pa2
 clear hr4 x34 hx2 hx4 HT h3 hx5 hr5 HW
 have q0:=pa2.cell (j:=0) rfl
 have q1:=pa2.cell (j:=1) rfl
 have q2:=pa2.cell (j:=2) rfl
 have q3:=pa2.cell (j:=3) rfl
 have q4:=pa2.cell (j:=4) rfl
 have q5:=pa2.cell (j:=5) rfl
 have q6:=pa2.cell (j:=6) rfl
 clear pa2
 have hnx:w.heap.size+3<=w2.heap.size:=hs2
 unfold WordsAt wordC at HA
 by_cases hlt:K < 0
 case pos =>
  obtain⟨⟨ra,rb⟩,rc,xx,r2⟩:=HA.out
  go_wp2_with fail
  clear q0 q1 q2 q3 q4 q5 q6 HA
  generalize w2.alloc (.cells #[St x.of,U x.has,St x.keeper,U x.round,.bool x.agreed,U x.cap,.bool x.pruned] 71)=W3 at *
  generalize w2.heap.size=nx at *
  have n1:¬ w.heap.size+1=nx:=by omega
  have n2:¬ nx=w.heap.size+1:=by omega
  have y2:=rb.cell (j:=2) rfl
  have y3:=rb.cell (j:=3) rfl
  have d2:=r2.cell (j:=2) rfl
  have d3:=r2.cell (j:=3) rfl
  have f2:=r2.frozen 2
  have f3:=r2.frozen 3
  have HR:=Lib.hid (show _/\_/\_/\_/\_ from ⟨r2,xx,ra,rb,rc⟩)
  clear r2 xx ra rb rc
  go_region
  obtain⟨r2,xx,ra,rb,rc⟩:=HR.out
  replace r2:=(r2.set (j:=2) (by simp) (St y.keeper)).set (j:=3) (by simp) (U y.round)
  simp only [List.set_cons_succ,List.set_cons_zero] at r2
  replace xx:=((xx.set (p:=⟨nx,2,none⟩) (by show w.heap.size<=nx;omega) (St y.keeper)).set (p:=⟨nx,3,none⟩) (by show w.heap.size<=nx;omega) (U y.round)).drew
  replace ra:=(ra.other (p:=⟨nx,2,none⟩) (by show nx ≠ w.heap.size;omega) (St y.keeper)).other (p:=⟨nx,3,none⟩) (by show nx ≠ w.heap.size;omega) (U y.round)
  replace rb:=(rb.other (p:=⟨nx,2,none⟩) (by show nx ≠ w.heap.size+1;omega) (St y.keeper)).other (p:=⟨nx,3,none⟩) (by show nx ≠ w.heap.size+1;omega) (U y.round)
  replace rc:=(rc.other (p:=⟨nx,2,none⟩) (by show nx ≠ w.heap.size+1+1;omega) (St y.keeper)).other (p:=⟨nx,3,none⟩) (by show nx ≠ w.heap.size+1+1;omega) (U y.round)
  replace r2:=r2.ext (Ext.refl _).drew
  replace ra:=ra.ext (Ext.refl _).drew
  replace rb:=rb.ext (Ext.refl _).drew
  replace rc:=rc.ext (Ext.refl _).drew
  clear HR y2 y3 d2 d3 f2 f3 n1 n2
  generalize ((W3.setCell ⟨nx,2,none⟩ (.string ⟨y.keeper.toArray⟩)).setCell ⟨nx,3,none⟩ (.int .u64 y.round)).drew=W4 at *
  (try simp only [Exit.inBlock,Exit.then])
  have HKP:=Lib.hid (show (if K < 0 then y.keeper else x.keeper)=y.keeper/\(if K < 0 then y.round else x.round)=y.round from ⟨if_pos hlt,if_pos hlt⟩)
  have x1:=ra.cell (j:=1) rfl
  have x4:=ra.cell (j:=4) rfl
  have x5:=ra.cell (j:=5) rfl
  have x6:=ra.cell (j:=6) rfl
  have y1:=rb.cell (j:=1) rfl
  have y4:=rb.cell (j:=4) rfl
  have y5:=rb.cell (j:=5) rfl
  have y6:=rb.cell (j:=6) rfl
  have d0:=r2.cell (j:=0) rfl
  have d1:=r2.cell (j:=1) rfl
  have d2:=r2.cell (j:=2) rfl
  have d3:=r2.cell (j:=3) rfl
  have d4:=r2.cell (j:=4) rfl
  have d5:=r2.cell (j:=5) rfl
  have d6:=r2.cell (j:=6) rfl
  have f1:=r2.frozen 1
  have f4:=r2.frozen 4
  have f5:=r2.frozen 5
  have f6:=r2.frozen 6
  have c0:=rc.cell (j:=0) rfl
  have c1:=rc.cell (j:=1) rfl
  have c2:=rc.cell (j:=2) rfl
  have c3:=rc.cell (j:=3) rfl
  have c4:=rc.cell (j:=4) rfl
  have c5:=rc.cell (j:=5) rfl
  have c6:=rc.cell (j:=6) rfl
  have e0:=rc.frozen 0
  have e1:=rc.frozen 1
  have e2:=rc.frozen 2
  have e3:=rc.frozen 3
  have e4:=rc.frozen 4
  have e5:=rc.frozen 5
  have e6:=rc.frozen 6
  have n1:¬ w.heap.size=nx:=by omega
  have n2:¬ w.heap.size+1=nx:=by omega
  have n3:¬ w.heap.size+1+1=nx:=by omega
  have n4:¬ nx=w.heap.size:=by omega
  have n5:¬ nx=w.heap.size+1:=by omega
  have n6:¬ nx=w.heap.size+1+1:=by omega
  have HXX:=Lib.hid (And.intro xx hnx)
  clear ra rb r2 rc xx hnx
  (try clear HA)
  have hmx:∀ a b:Nat,((max a b:Nat):Int)=max (a:Int) b:=fun a b=>by omega
  rcases hba:x.agreed with _ | _ <;> rcases hbp:x.pruned with _ | _
  ·rw [hba] at x4 d4
   rw [hbp] at x6 d6
   (try rw [hba,hbp] at hW4)
   (try rw [hba] at q4)
   (try rw [hbp] at q6)
   go_wp2
   refine bodyPost_ret (v:=.agg #[St x.of,.int .u64 (max (x.has:Int) y.has),St y.keeper,U y.round,.bool y.agreed,.int .u64 (max (x.cap:Int) y.cap),.bool y.pruned]) (by simp [results,Tryz.f110,go_sem,n3,n6,c0,c1,c2,c3,c4,c5,c6]) rfl ?_
   refine ⟨by simp [hmx,HKP.out.1,HKP.out.2,hba,hbp],?_⟩
   have h1:=HXX.out.2
   repeat refine Ext.set ?_ (by first | (show w.heap.size<=nx;omega) | (show w.heap.size<=w.heap.size+1+1;omega)) _
   exact HXX.out.1
  ·rw [hba] at x4 d4
   rw [hbp] at x6 d6
   (try rw [hba,hbp] at hW4)
   (try rw [hba] at q4)
   (try rw [hbp] at q6)
   go_wp2
   refine bodyPost_ret (v:=.agg #[St x.of,.int .u64 (max (x.has:Int) y.has),St y.keeper,U y.round,.bool y.agreed,.int .u64 (max (x.cap:Int) y.cap),.bool true]) (by simp [results,Tryz.f110,go_sem,n3,n6,c0,c1,c2,c3,c4,c5,c6]) rfl ?_
   refine ⟨by simp [hmx,HKP.out.1,HKP.out.2,hba,hbp],?_⟩
   have h1:=HXX.out.2
   repeat refine Ext.set ?_ (by first | (show w.heap.size<=nx;omega) | (show w.heap.size<=w.heap.size+1+1;omega)) _
   exact HXX.out.1
  ·rw [hba] at x4 d4
   rw [hbp] at x6 d6
   (try rw [hba,hbp] at hW4)
   (try rw [hba] at q4)
   (try rw [hbp] at q6)
   go_wp2
   refine bodyPost_ret (v:=.agg #[St x.of,.int .u64 (max (x.has:Int) y.has),St y.keeper,U y.round,.bool true,.int .u64 (max (x.cap:Int) y.cap),.bool y.pruned]) (by simp [results,Tryz.f110,go_sem,n3,n6,c0,c1,c2,c3,c4,c5,c6]) rfl ?_
   refine ⟨by simp [hmx,HKP.out.1,HKP.out.2,hba,hbp],?_⟩
   have h1:=HXX.out.2
   repeat refine Ext.set ?_ (by first | (show w.heap.size<=nx;omega) | (show w.heap.size<=w.heap.size+1+1;omega)) _
   exact HXX.out.1
  ·rw [hba] at x4 d4
   rw [hbp] at x6 d6
   (try rw [hba,hbp] at hW4)
   (try rw [hba] at q4)
   (try rw [hbp] at q6)
   go_wp2
   refine bodyPost_ret (v:=.agg #[St x.of,.int .u64 (max (x.has:Int) y.has),St y.keeper,U y.round,.bool true,.int .u64 (max (x.cap:Int) y.cap),.bool true]) (by simp [results,Tryz.f110,go_sem,n3,n6,c0,c1,c2,c3,c4,c5,c6]) rfl ?_
   refine ⟨by simp [hmx,HKP.out.1,HKP.out.2,hba,hbp],?_⟩
   have h1:=HXX.out.2
   repeat refine Ext.set ?_ (by first | (show w.heap.size<=nx;omega) | (show w.heap.size<=w.heap.size+1+1;omega)) _
   exact HXX.out.1
 case neg =>
  obtain⟨⟨ra,rb⟩,rc,xx,r2⟩:=HA.out
  obtain⟨nx,hnxe⟩:∃ nx,w2.heap.size=nx:=⟨_,rfl⟩
  have HKP:=Lib.hid (show (if K < 0 then y.keeper else x.keeper)=x.keeper/\(if K < 0 then y.round else x.round)=x.round from ⟨if_neg hlt,if_neg hlt⟩)
  rw [hnxe] at r2 hnx
  obtain⟨W4,hW4⟩:∃ W4,w2.alloc (.cells #[St x.of,U x.has,St x.keeper,U x.round,.bool x.agreed,U x.cap,.bool x.pruned] 71)=W4:=⟨_,rfl⟩
  rw [hW4] at ra rb rc xx r2
  clear hs2
  have x1:=ra.cell (j:=1) rfl
  have x4:=ra.cell (j:=4) rfl
  have x5:=ra.cell (j:=5) rfl
  have x6:=ra.cell (j:=6) rfl
  have y1:=rb.cell (j:=1) rfl
  have y4:=rb.cell (j:=4) rfl
  have y5:=rb.cell (j:=5) rfl
  have y6:=rb.cell (j:=6) rfl
  have d0:=r2.cell (j:=0) rfl
  have d1:=r2.cell (j:=1) rfl
  have d2:=r2.cell (j:=2) rfl
  have d3:=r2.cell (j:=3) rfl
  have d4:=r2.cell (j:=4) rfl
  have d5:=r2.cell (j:=5) rfl
  have d6:=r2.cell (j:=6) rfl
  have f1:=r2.frozen 1
  have f4:=r2.frozen 4
  have f5:=r2.frozen 5
  have f6:=r2.frozen 6
  have c0:=rc.cell (j:=0) rfl
  have c1:=rc.cell (j:=1) rfl
  have c2:=rc.cell (j:=2) rfl
  have c3:=rc.cell (j:=3) rfl
  have c4:=rc.cell (j:=4) rfl
  have c5:=rc.cell (j:=5) rfl
  have c6:=rc.cell (j:=6) rfl
  have e0:=rc.frozen 0
  have e1:=rc.frozen 1
  have e2:=rc.frozen 2
  have e3:=rc.frozen 3
  have e4:=rc.frozen 4
  have e5:=rc.frozen 5
  have e6:=rc.frozen 6
  have n1:¬ w.heap.size=nx:=by omega
  have n2:¬ w.heap.size+1=nx:=by omega
  have n3:¬ w.heap.size+1+1=nx:=by omega
  have n4:¬ nx=w.heap.size:=by omega
  have n5:¬ nx=w.heap.size+1:=by omega
  have n6:¬ nx=w.heap.size+1+1:=by omega
  have HXX:=Lib.hid (And.intro xx hnx)
  clear ra rb r2 rc xx hnx
  (try clear HA)
  have hmx:∀ a b:Nat,((max a b:Nat):Int)=max (a:Int) b:=fun a b=>by omega
  rcases hba:x.agreed with _ | _ <;> rcases hbp:x.pruned with _ | _
  ·rw [hba] at x4 d4
   rw [hbp] at x6 d6
   (try rw [hba,hbp] at hW4)
   (try rw [hba] at q4)
   (try rw [hbp] at q6)
   go_wp2
   refine bodyPost_ret (v:=.agg #[St x.of,.int .u64 (max (x.has:Int) y.has),St x.keeper,U x.round,.bool y.agreed,.int .u64 (max (x.cap:Int) y.cap),.bool y.pruned]) (by simp [results,Tryz.f110,go_sem,n3,n6,c0,c1,c2,c3,c4,c5,c6]) rfl ?_
   refine ⟨by simp [hmx,HKP.out.1,HKP.out.2,hba,hbp],?_⟩
   have h1:=HXX.out.2
   repeat refine Ext.set ?_ (by first | (show w.heap.size<=nx;omega) | (show w.heap.size<=w.heap.size+1+1;omega)) _
   exact HXX.out.1
  ·rw [hba] at x4 d4
   rw [hbp] at x6 d6
   (try rw [hba,hbp] at hW4)
   (try rw [hba] at q4)
   (try rw [hbp] at q6)
   go_wp2
   refine bodyPost_ret (v:=.agg #[St x.of,.int .u64 (max (x.has:Int) y.has),St x.keeper,U x.round,.bool y.agreed,.int .u64 (max (x.cap:Int) y.cap),.bool true]) (by simp [results,Tryz.f110,go_sem,n3,n6,c0,c1,c2,c3,c4,c5,c6]) rfl ?_
   refine ⟨by simp [hmx,HKP.out.1,HKP.out.2,hba,hbp],?_⟩
   have h1:=HXX.out.2
   repeat refine Ext.set ?_ (by first | (show w.heap.size<=nx;omega) | (show w.heap.size<=w.heap.size+1+1;omega)) _
   exact HXX.out.1
  ·rw [hba] at x4 d4
   rw [hbp] at x6 d6
   (try rw [hba,hbp] at hW4)
   (try rw [hba] at q4)
   (try rw [hbp] at q6)
   go_wp2
   refine bodyPost_ret (v:=.agg #[St x.of,.int .u64 (max (x.has:Int) y.has),St x.keeper,U x.round,.bool true,.int .u64 (max (x.cap:Int) y.cap),.bool y.pruned]) (by simp [results,Tryz.f110,go_sem,n3,n6,c0,c1,c2,c3,c4,c5,c6]) rfl ?_
   refine ⟨by simp [hmx,HKP.out.1,HKP.out.2,hba,hbp],?_⟩
   have h1:=HXX.out.2
   repeat refine Ext.set ?_ (by first | (show w.heap.size<=nx;omega) | (show w.heap.size<=w.heap.size+1+1;omega)) _
   exact HXX.out.1
  ·rw [hba] at x4 d4
   rw [hbp] at x6 d6
   (try rw [hba,hbp] at hW4)
   (try rw [hba] at q4)
   (try rw [hbp] at q6)
   go_wp2
   refine bodyPost_ret (v:=.agg #[St x.of,.int .u64 (max (x.has:Int) y.has),St x.keeper,U x.round,.bool true,.int .u64 (max (x.cap:Int) y.cap),.bool true]) (by simp [results,Tryz.f110,go_sem,n3,n6,c0,c1,c2,c3,c4,c5,c6]) rfl ?_
   refine ⟨by simp [hmx,HKP.out.1,HKP.out.2,hba,hbp],?_⟩
   have h1:=HXX.out.2
   repeat refine Ext.set ?_ (by first | (show w.heap.size<=nx;omega) | (show w.heap.size<=w.heap.size+1+1;omega)) _
   exact HXX.out.1
end
end Go.Proofs.YtblkikjmocnllaaGreatDoor
