/- Laws. -/
import Derived.Test.YtaabaflgeljbjaaGreatPr14
import Derived.Test.YtaabaflgeljbjaaGreatPr07
import Derived.Test.YtaabaflgeljbjaaGreatPr12
set_option linter.unusedVariables false
set_option linter.unusedSimpArgs false
set_option maxRecDepth 100000
set_option maxHeartbeats 40000000
namespace Go.Proofs.YtaabaflgeljbjaaGreat
open Go.Value renaming slice→Xa,pointer→Xb,bool→Xc,agg→Xd
open Go.Obj renaming cells→Xe
open Go.Ending renaming returned→Xf
open Go renaming World→Xg,Value→Xh
open Ext renaming refl→Xi
open Go renaming undef→Qe
open List renaming mem_cons→Qa,pairwise_cons→Qb,getElem?_eq_some_iff→Qf,mem_cons_self→Qg,mem_filter→Qh,append_assoc→Qi,getElem?_eq_getElem→Ql,mem_cons_of_mem→Qo,append_toArray→Qp,size_toArray→Qq,push_toArray→Qr,length_cons→Qs,cons_append→Qt,length_nil→Qu,nil_append→Qv,append_nil→Qw,mem_map→Ya,pairwise_map→Yb,getElem?_map→Yc,all_eq_true→Yd
open Nat renaming le_refl→Qc,le_trans→Qd,le_antisymm→Qx,reduceAdd→Qy,reduceSub→Qz
open Go.World renaming cell?_of_block→Qj,cell?_setCell_same'→Qk,setCell→Qn,frozen?→Ye
open Go.RowKit.Below renaming trans→Qm,setCell→Yf
section
open Go.RowKit Go.Shelf
attribute [local go_sem] Oper.semAt_some
abbrev Pair:=Str×Nat×Nat
def zg2 (p:Pair):Xh:=Xd #[St p.1,U p.2.1,U p.2.2]
def za3:List Mark->List Mark->List Pair
 | [],[]=>[]
 | a::r,[]=>(a.1,a.2,0)::za3 r []
 | [],b::s=>(b.1,0,b.2)::za3 [] s
 | a::r,b::s =>
  if a.1==b.1 then(b.1,a.2,b.2)::za3 r s
  else if ltS a.1 b.1 then(a.1,a.2,0)::za3 r (b::s)
  else(b.1,0,b.2)::za3 (a::r) s
termination_by a b=>a.length+b.length
theorem zgq {w wr:Xg}{S:Nat->Prop}{A:Option Addr}{n c e:Nat}{l pre post:List Mark}{m:Mark}(i:Sl markT w S (Xa A n c) l)(h:∀b,S b->b<w.heap.size->b<e)(hb:KpS S e w wr)(j:l=pre++m::post) :
  ∃b o,A=some ⟨b,o,none⟩/\wr.cell? ⟨b,o+pre.length * 2,none⟩=some (St m.1)/\wr.cell? ⟨b,o+pre.length * 2+1,none⟩=some (U m.2):=by
 obtain⟨b,o,vs,p,k,d,rfl,g⟩:=i.at_ j;injection k with e1 e2 e3
 subst e1;have h0:=g 0 _ rfl;have h1:=g 1 _ rfl;have f:b<w.heap.size:=zae h0;exact⟨b,o,rfl,(Qj (a:=⟨b,_,none⟩) (hb.2 b d (h b d f))).trans h0,(Qj (a:=⟨b,_,none⟩) (hb.2 b d (h b d f))).trans h1⟩
theorem zds {w wr:Xg}{S:Nat->Prop}{b o c:Nat}{v:Xh}(d:w.cell? ⟨b,o,none⟩=some v)(e:S b)(f:b<c)(hb:KpS S c w wr):wr.cell? ⟨b,o,none⟩=some v :=
 (Qj (a:=⟨b,o,none⟩) (hb.2 b e f)).trans d
theorem zfm (a:Mark)(r:List Mark):za3 (a::r) []=(a.1,a.2,0)::za3 r []:=by rw[za3]
theorem zfn (b:Mark)(s:List Mark):za3 [] (b::s)=(b.1,0,b.2)::za3 [] s:=by rw[za3]
theorem zpd {an bn:Nat}(r s:List Mark)(k:Str):za3 ((k,an)::r) ((k,bn)::s)=(k,an,bn)::za3 r s:=by rw[za3];simp
theorem zpe {a b:Mark}(r s:List Mark)(h1:(a.1==b.1)=false)(c:ltS a.1 b.1=true):za3 (a::r) (b::s)=(a.1,a.2,0)::za3 r (b::s):=by rw[za3,zN (by simp[h1]),zP c]
theorem zpf {a b:Mark}(r s:List Mark)(h1:(a.1==b.1)=false)(c:ltS a.1 b.1=false):za3 (a::r) (b::s)=(b.1,0,b.2)::za3 (a::r) s:=by rw[za3,zN (by simp[h1]),zN (by simp[c])]
theorem zja (wr:Xg)(t:TypeId):(wr.alloc (Xe #[St [],U 0,U 0] t)).cell? ⟨wr.heap.size,0,none⟩=some (St [])/\(wr.alloc (Xe #[St [],U 0,U 0] t)).cell? ⟨wr.heap.size,1,none⟩=some (U 0) /\
  (wr.alloc (Xe #[St [],U 0,U 0] t)).cell? ⟨wr.heap.size,2,none⟩=some (U 0)/\∀o,(wr.alloc (Xe #[St [],U 0,U 0] t)).frozen? ⟨wr.heap.size,o,none⟩=false :=
 ⟨by simp[go_sem],by simp[go_sem],by simp[go_sem],fun o=>by unfold Ye;rw[World.alloc_heap_new];rfl⟩
theorem zwo (n l D E n₀:Nat){S:Nat->Prop}{a3 a4:Xh}{A B:List Mark}(Z a0:List Pair->Xg->Prop)(bp:1<=n)(W:Xg)(hJ:AbidesFrom W.heap.size Z)(ac:n₀<=W.heap.size)(C:∀pre x W,Z pre W->pre.length<(za3 A B).length->YieldAt Fence.wide (n-1) Tryz.prog l #[zg2 x] W fun e aa=>(e=Xf (Xc true)/\Z (pre++[x]) aa/\KpS S n₀ W aa) ∨ (e=Xf (Xc false)/\a0 (pre++[x]) aa))(h1:W.cell? ⟨D,0,none⟩=some a3)(a6:W.cell? ⟨E,0,none⟩=some a4)(a1:S D/\D<n₀)(a2:S E/\E<n₀)(ha:Sl markT W S a3 A)(hb:Sl markT W S a4 B)(N:∀b,S b->b<W.heap.size->b<n₀)(h0:Z [] W) :
  CallsIn Fence.wide n Tryz.prog 126 #[.func (.yield l) #[] #[],Xb (some ⟨D,0,none⟩),Xb (some ⟨E,0,none⟩)] W fun e aa=>(∃v,e=Xf v) /\
   ((∃a5,a5=za3 A B/\Z a5 aa) ∨ (∃pre,pre <+: za3 A B/\a0 pre aa)):=by
 obtain⟨ba,be,rfl,bj,bk⟩:=ha.form;obtain⟨bb,bf,rfl,bm,bo⟩:=hb.form;refine callsIn_of_wp Tryz.func126 rfl trivial ?_ rfl;simp only[Tryz.ntmps126,Qq,Qs,Qu,Qy,Qz,Array.replicate_succ,Array.replicate_zero,Qr,Qp,Qv,Qt]
 gi_wp2
 gi_loopw [4,5] (fun i j wr=>∃o u preB r done,A=o++u/\B=preB++r/\i=I o.length/\j=I preB.length/\za3 A B=done++za3 u r/\Z done wr/\KpS S n₀ W wr)
  (fun i j _=>A.length+B.length-(intOf i).toNat-(intOf j).toNat)
 case atStart=>exact⟨[],A,[],B,[],rfl,rfl,rfl,rfl,rfl,h0,KpS.refl _ _ _⟩
 obtain⟨o,u,preB,r,done,k,m,rfl,rfl,t,z,hk⟩:=hrel;have c1:=zds h1 a1.1 a1.2 hk;have c2:=zds a6 a2.1 a2.2 hk
 cases u
 case nil=>
  cases r
  case nil=>
   rw[Qw]at k m;subst k;subst m;have h:=zH t;clear t
   gi_wp2
   go_end0
   exact⟨⟨_,rfl⟩,.inl ⟨_,rfl,by rw[h.out];simpa[za3]using z⟩⟩
  rename_i b r
  rw[Qw]at k;subst k;obtain⟨T,az,rfl,s,M⟩:=zgq hb N hk m;have av:preB.length<B.length:=(by rw[m];simp);have P:=zH m;have h:=zH t;have G:=zH hJ;have J:=zH C;have p:=zH hk;have H:=zH z;have ah:((A.length:Int)==A.length)=true:=(by simp);have ai:((preB.length:Int)==B.length)=false:=(by rw[beq_eq_false_iff_ne];omega);have d:=(Xi wr).alloc (Xe #[St [],U 0,U 0] 155);have af:=d.cell c1;have ag:=d.cell c2;have ap:=d.cell s;have aq:=d.cell M;have c:=zja wr 155;have ak:D≠wr.heap.size:=(by have:=zae c1;omega);have al:E≠wr.heap.size:=(by have:=zae c2;omega);have ax:T≠wr.heap.size:=(by have:=zae s;omega);clear t hJ C hk z hb ha m
  gi_wp2
  generalize wr.alloc (Xe #[St [],U 0,U 0] 155)=ad at *
  gi_quiet (fail)
  gi_wp2
  gi_quiet (fail)
  gi_wp2
  gi_region
  generalize f:Qn _ _ _=W2;have g:Ext wr W2:=(by rw[<- f];exact((d.drewN _).set (by simp) _).set (by simp) _);have V:W2.cell? ⟨wr.heap.size,0,none⟩=some (St b.1):=(by rw[<- f];simp[go_sem,c.1,c.2.1,c.2.2.1]);have X:W2.cell? ⟨wr.heap.size,1,none⟩=some (U 0):=(by rw[<- f];simp[go_sem,c.1,c.2.1,c.2.2.1]);have Y:W2.cell? ⟨wr.heap.size,2,none⟩=some (U b.2):=(by rw[<- f];simp[go_sem,c.1,c.2.1,c.2.2.1]);have F:=zH g;obtain⟨aj,tmps,assign,body,K,hR⟩:=J.out done (b.1,0,b.2) W2 (G.out done wr W2 none H.out (zb3 g) (by simp)) (by rw[h.out,zfn];simp);clear f g;dsimp only[zg2]at K
  gi_wp2
  refine hR.mono ?_;rintro e ae (⟨rfl,hJ3,hk3⟩|⟨rfl,hJx3⟩)
  ·gi_wp2
   go_roundw
   case rel=>exact⟨A,[],preB++[b],r,done++[(b.1,0,b.2)],by simp,by rw[P.out];simp,by simp,by simp,by rw[h.out,zfn];simp,hJ3,(p.out.trans (F.out.kpS (Qd ac p.out.1))).trans hk3⟩
   case measure=>simp[intOf];omega
  gi_wp2
  refine bodyPost_ret (results_none rfl _ _ _) rfl ?_;exact⟨⟨_,rfl⟩,.inr ⟨done++[(b.1,0,b.2)],⟨_,by rw[h.out,zfn,Qi];rfl⟩,hJx3⟩⟩
 rename_i a u
 cases r
 case nil=>
  rw[Qw]at m;subst m;obtain⟨R,ay,rfl,y,Q⟩:=zgq ha N hk k;have au:o.length<A.length:=(by rw[k];simp);have O:=zH k;have h:=zH t;have G:=zH hJ;have J:=zH C;have p:=zH hk;have H:=zH z;have ah:((o.length:Int)==A.length)=false:=(by rw[beq_eq_false_iff_ne];omega);have ai:((B.length:Int)==B.length)=true:=(by simp);have d:=(Xi wr).alloc (Xe #[St [],U 0,U 0] 155);have af:=d.cell c1;have ag:=d.cell c2;have am:=d.cell y;have ao:=d.cell Q;have c:=zja wr 155;have ak:D≠wr.heap.size:=(by have:=zae c1;omega);have al:E≠wr.heap.size:=(by have:=zae c2;omega);have aw:R≠wr.heap.size:=(by have:=zae y;omega);clear t hJ C hk z hb ha k
  gi_wp2
  generalize wr.alloc (Xe #[St [],U 0,U 0] 155)=ad at *
  gi_quiet (fail)
  gi_wp2
  gi_quiet (fail)
  gi_wp2
  gi_region
  generalize f:Qn _ _ _=W2;have g:Ext wr W2:=(by rw[<- f];exact((d.drewN _).set (by simp) _).set (by simp) _);have V:W2.cell? ⟨wr.heap.size,0,none⟩=some (St a.1):=(by rw[<- f];simp[go_sem,c.1,c.2.1,c.2.2.1]);have X:W2.cell? ⟨wr.heap.size,1,none⟩=some (U a.2):=(by rw[<- f];simp[go_sem,c.1,c.2.1,c.2.2.1]);have Y:W2.cell? ⟨wr.heap.size,2,none⟩=some (U 0):=(by rw[<- f];simp[go_sem,c.1,c.2.1,c.2.2.1]);have F:=zH g;obtain⟨aj,tmps,assign,body,K,hR⟩:=J.out done (a.1,a.2,0) W2 (G.out done wr W2 none H.out (zb3 g) (by simp)) (by rw[h.out,zfm];simp);clear f g;dsimp only[zg2]at K
  gi_wp2
  refine hR.mono ?_;rintro e ae (⟨rfl,hJ3,hk3⟩|⟨rfl,hJx3⟩)
  ·gi_wp2
   go_roundw
   case rel=>exact⟨o++[a],u,B,[],done++[(a.1,a.2,0)],by rw[O.out];simp,by simp,by simp,by simp,by rw[h.out,zfm];simp,hJ3,(p.out.trans (F.out.kpS (Qd ac p.out.1))).trans hk3⟩
   case measure=>simp[intOf];omega
  gi_wp2
  refine bodyPost_ret (results_none rfl _ _ _) rfl ?_;exact⟨⟨_,rfl⟩,.inr ⟨done++[(a.1,a.2,0)],⟨_,by rw[h.out,zfm,Qi];rfl⟩,hJx3⟩⟩
 rename_i b r
 rcases zfp a.1 b.1 with⟨q1,a8,q3,q4,a9⟩|q|⟨q1,a8,q3,q4,a9⟩
 ·have w:=zH (zpe u r q3 q1);obtain⟨R,ay,rfl,y,Q⟩:=zgq ha N hk k;obtain⟨T,az,rfl,s,M⟩:=zgq hb N hk m;have au:o.length<A.length:=(by rw[k];simp);have O:=zH k;have av:preB.length<B.length:=(by rw[m];simp);have P:=zH m;have h:=zH t;have G:=zH hJ;have J:=zH C;have p:=zH hk;have H:=zH z;have ah:((o.length:Int)==A.length)=false:=(by rw[beq_eq_false_iff_ne];omega);have ai:((preB.length:Int)==B.length)=false:=(by rw[beq_eq_false_iff_ne];omega);have d:=(Xi wr).alloc (Xe #[St [],U 0,U 0] 155);have af:=d.cell c1;have ag:=d.cell c2;have am:=d.cell y;have ao:=d.cell Q;have ap:=d.cell s;have aq:=d.cell M;have c:=zja wr 155;have ak:D≠wr.heap.size:=(by have:=zae c1;omega);have al:E≠wr.heap.size:=(by have:=zae c2;omega);have aw:R≠wr.heap.size:=(by have:=zae y;omega);have ax:T≠wr.heap.size:=(by have:=zae s;omega);clear t hJ C hk z hb ha k m
  gi_wp2
  generalize wr.alloc (Xe #[St [],U 0,U 0] 155)=ad at *
  gi_quiet (fail)
  gi_wp2
  gi_quiet (fail)
  gi_wp2
  gi_region
  generalize f:Qn _ _ _=W2;have g:Ext wr W2:=(by rw[<- f];exact((d.drewN _).set (by simp) _).set (by simp) _);have V:W2.cell? ⟨wr.heap.size,0,none⟩=some (St a.1):=(by rw[<- f];simp[go_sem,c.1,c.2.1,c.2.2.1]);have X:W2.cell? ⟨wr.heap.size,1,none⟩=some (U a.2):=(by rw[<- f];simp[go_sem,c.1,c.2.1,c.2.2.1]);have Y:W2.cell? ⟨wr.heap.size,2,none⟩=some (U 0):=(by rw[<- f];simp[go_sem,c.1,c.2.1,c.2.2.1]);have F:=zH g;obtain⟨aj,tmps,assign,body,K,hR⟩:=J.out done (a.1,a.2,0) W2 (G.out done wr W2 none H.out (zb3 g) (by simp)) (by rw[h.out,w.out];simp);clear f g;dsimp only[zg2]at K
  gi_wp2
  refine hR.mono ?_;rintro e ae (⟨rfl,hJ3,hk3⟩|⟨rfl,hJx3⟩)
  ·gi_wp2
   go_roundw
   case rel=>exact⟨o++[a],u,preB,b::r,done++[(a.1,a.2,0)],by rw[O.out];simp,P.out,by simp,by simp,by rw[h.out,w.out];simp,hJ3,(p.out.trans (F.out.kpS (Qd ac p.out.1))).trans hk3⟩
   case measure=>simp[intOf];omega
  gi_wp2
  refine bodyPost_ret (results_none rfl _ _ _) rfl ?_;exact⟨⟨_,rfl⟩,.inr ⟨done++[(a.1,a.2,0)],⟨_,by rw[h.out,w.out,Qi];rfl⟩,hJx3⟩⟩
 ·obtain⟨L,an⟩:=a;obtain⟨a7,bn⟩:=b;obtain rfl:L=a7:=q;have w:=zH (zpd (an:=an) (bn:=bn) u r L);obtain⟨R,ay,rfl,y,Q⟩:=zgq ha N hk k;obtain⟨T,az,rfl,s,M⟩:=zgq hb N hk m;have au:o.length<A.length:=(by rw[k];simp);have O:=zH k;have av:preB.length<B.length:=(by rw[m];simp);have P:=zH m;have h:=zH t;have G:=zH hJ;have J:=zH C;have p:=zH hk;have H:=zH z;have ah:((o.length:Int)==A.length)=false:=(by rw[beq_eq_false_iff_ne];omega);have ai:((preB.length:Int)==B.length)=false:=(by rw[beq_eq_false_iff_ne];omega);have d:=(Xi wr).alloc (Xe #[St [],U 0,U 0] 155);have af:=d.cell c1;have ag:=d.cell c2;have am:=d.cell y;have ao:=d.cell Q;have ap:=d.cell s;have aq:=d.cell M;have c:=zja wr 155;have ak:D≠wr.heap.size:=(by have:=zae c1;omega);have al:E≠wr.heap.size:=(by have:=zae c2;omega);have aw:R≠wr.heap.size:=(by have:=zae y;omega);have ax:T≠wr.heap.size:=(by have:=zae s;omega);clear t hJ C hk z hb ha k m
  gi_wp2
  generalize wr.alloc (Xe #[St [],U 0,U 0] 155)=ad at *
  gi_quiet (fail)
  gi_wp2
  gi_quiet (fail)
  gi_wp2
  gi_region
  generalize f:Qn _ _ _=W2;have g:Ext wr W2:=(by rw[<- f];exact((d.drewN _).set (by simp) _).set (by simp) _);have V:W2.cell? ⟨wr.heap.size,0,none⟩=some (St L):=(by rw[<- f];simp[go_sem,c.1,c.2.1,c.2.2.1]);have X:W2.cell? ⟨wr.heap.size,1,none⟩=some (U an):=(by rw[<- f];simp[go_sem,c.1,c.2.1,c.2.2.1]);have Y:W2.cell? ⟨wr.heap.size,2,none⟩=some (U 0):=(by rw[<- f];simp[go_sem,c.1,c.2.1,c.2.2.1]);have f0:W2.frozen? ⟨wr.heap.size,0,none⟩=false:=(by rw[<- f];simp[go_sem,c.2.2.2]);have f1:W2.frozen? ⟨wr.heap.size,1,none⟩=false:=(by rw[<- f];simp[go_sem,c.2.2.2]);have bi:W2.frozen? ⟨wr.heap.size,2,none⟩=false:=(by rw[<- f];simp[go_sem,c.2.2.2]);have bc:W2.cell? _=_:=g.cell c1;have bd:W2.cell? _=_:=g.cell c2;have bg:W2.cell? _=_:=g.cell s;have bh:W2.cell? _=_:=g.cell M;clear f
  gi_wp2
  gi_region
  generalize ab:World.drew _=W4;have ar:Ext wr W4:=(by rw[<- ab];first|exact(((g.drewN _).set (Qc _) _).set (Qc _) _).drew|exact((g.set (Qc _) _).set (Qc _) _).drew|exact((g.drew.set (Qc _) _).set (Qc _) _).drew);have bq:W4.cell? ⟨wr.heap.size,0,none⟩=some (St L):=(by rw[<- ab];simp[go_sem,V,X,Y]);have br:W4.cell? ⟨wr.heap.size,1,none⟩=some (U an):=(by rw[<- ab];simp[go_sem,V,X,Y]);have bs:W4.cell? ⟨wr.heap.size,2,none⟩=some (U bn):=(by rw[<- ab];simp[go_sem,V,X,Y]);have F:=zH ar;obtain⟨aj,tmps,assign,body,K,hR⟩:=J.out done (L,an,bn) W4 (G.out done wr W4 none H.out (zb3 ar) (by simp)) (by rw[h.out,w.out];simp);clear ab ar;dsimp only[zg2]at K
  gi_wp2
  refine hR.mono ?_;rintro e ae (⟨rfl,hJ3,hk3⟩|⟨rfl,hJx3⟩)
  ·gi_wp2
   go_roundw
   case rel=>exact⟨o++[(L,an)],u,preB++[(L,bn)],r,done++[(L,an,bn)],by rw[O.out];simp,by rw[P.out];simp,by simp,by simp,by rw[h.out,w.out];simp,hJ3,(p.out.trans (F.out.kpS (Qd ac p.out.1))).trans hk3⟩
   case measure=>simp[intOf];omega
  gi_wp2
  refine bodyPost_ret (results_none rfl _ _ _) rfl ?_;exact⟨⟨_,rfl⟩,.inr ⟨done++[(L,an,bn)],⟨_,by rw[h.out,w.out,Qi];rfl⟩,hJx3⟩⟩
 have w:=zH (zpf u r q3 q1);obtain⟨R,ay,rfl,y,Q⟩:=zgq ha N hk k;obtain⟨T,az,rfl,s,M⟩:=zgq hb N hk m;have au:o.length<A.length:=(by rw[k];simp);have O:=zH k;have av:preB.length<B.length:=(by rw[m];simp);have P:=zH m;have h:=zH t;have G:=zH hJ;have J:=zH C;have p:=zH hk;have H:=zH z;have ah:((o.length:Int)==A.length)=false:=(by rw[beq_eq_false_iff_ne];omega);have ai:((preB.length:Int)==B.length)=false:=(by rw[beq_eq_false_iff_ne];omega);have d:=(Xi wr).alloc (Xe #[St [],U 0,U 0] 155);have af:=d.cell c1;have ag:=d.cell c2;have am:=d.cell y;have ao:=d.cell Q;have ap:=d.cell s;have aq:=d.cell M;have c:=zja wr 155;have ak:D≠wr.heap.size:=(by have:=zae c1;omega);have al:E≠wr.heap.size:=(by have:=zae c2;omega);have aw:R≠wr.heap.size:=(by have:=zae y;omega);have ax:T≠wr.heap.size:=(by have:=zae s;omega);clear t hJ C hk z hb ha k m
 gi_wp2
 generalize wr.alloc (Xe #[St [],U 0,U 0] 155)=ad at *
 gi_quiet (fail)
 gi_wp2
 gi_quiet (fail)
 gi_wp2
 gi_region
 generalize f:Qn _ _ _=W2;have g:Ext wr W2:=(by rw[<- f];exact((d.drewN _).set (by simp) _).set (by simp) _);have V:W2.cell? ⟨wr.heap.size,0,none⟩=some (St b.1):=(by rw[<- f];simp[go_sem,c.1,c.2.1,c.2.2.1]);have X:W2.cell? ⟨wr.heap.size,1,none⟩=some (U 0):=(by rw[<- f];simp[go_sem,c.1,c.2.1,c.2.2.1]);have Y:W2.cell? ⟨wr.heap.size,2,none⟩=some (U b.2):=(by rw[<- f];simp[go_sem,c.1,c.2.1,c.2.2.1]);have F:=zH g;obtain⟨aj,tmps,assign,body,K,hR⟩:=J.out done (b.1,0,b.2) W2 (G.out done wr W2 none H.out (zb3 g) (by simp)) (by rw[h.out,w.out];simp);clear f g;dsimp only[zg2]at K
 gi_wp2
 refine hR.mono ?_;rintro e ae (⟨rfl,hJ3,hk3⟩|⟨rfl,hJx3⟩)
 ·gi_wp2
  go_roundw
  case rel=>exact⟨o,a::u,preB++[b],r,done++[(b.1,0,b.2)],O.out,by rw[P.out];simp,by simp,by simp,by rw[h.out,w.out];simp,hJ3,(p.out.trans (F.out.kpS (Qd ac p.out.1))).trans hk3⟩
  case measure=>simp[intOf];omega
 gi_wp2
 refine bodyPost_ret (results_none rfl _ _ _) rfl ?_;exact⟨⟨_,rfl⟩,.inr ⟨done++[(b.1,0,b.2)],⟨_,by rw[h.out,w.out,Qi];rfl⟩,hJx3⟩⟩
end
section
open Go.RowKit Go.Shelf
attribute [local go_sem] Oper.semAt_some
theorem zpg (a b:Xh)(w:Xg)(ha:a.oneCell'=true)(hb:b.oneCell'=true) :
  Calls Tryz.prog 82 #[a,b] w fun e w'=>e=Xf (.func (.func 126) #[] #[Xb (some ⟨w.heap.size,0,none⟩),Xb (some ⟨w.heap.size+1,0,none⟩)])/\w'=(w.alloc (Xe #[a] 22)).alloc (Xe #[b] 22):=by
 go_enter Tryz.func82,Tryz.ntmps82;go_wp2;go_ret;exact⟨rfl,rfl⟩
theorem zmp (n:Nat)(r:1<=n){S:Nat->Prop}{n₀ a c:Nat}{i j:Xh}{A B:List Mark}{w:Xg}(s:n₀<=w.heap.size)(h1:w.cell? ⟨a,0,none⟩=some i)(f:w.cell? ⟨c,0,none⟩=some j)(g:S a)(h:S c)(e:∀b,S b->b<n₀)(ha:Sl markT w S i A)(hb:Sl markT w S j B) :
  SeqStopsK Fence.wide n Tryz.prog 126 #[Xb (some ⟨a,0,none⟩),Xb (some ⟨c,0,none⟩)] (fun x=>#[zg2 x]) (KpS S n₀) (fun t=>t=za3 A B) (fun pre=>pre <+: za3 A B) (za3 A B).length w :=
 fun l k m W d hJ _ q h0 =>
  zwo n l a c n₀ k m r W hJ (Qd s d.size) q (d.cell (p:=⟨a,0,none⟩) (zae h1) |>.trans h1) (d.cell (p:=⟨c,0,none⟩) (zae f) |>.trans f)
   ⟨g,e _ g⟩ ⟨h,e _ h⟩ (ha.ext (by decide) d) (hb.ext (by decide) d) (fun b o _=>e b o) h0
def za0 (a b:List Mark):List Mark:=(za3 (zbu a) (zbu b)).map fun p=>(p.1,max p.2.1 p.2.2)
theorem zkq (a b:List Mark):(za3 a b).length<=a.length+b.length:=by
 fun_induction za3 a b<;>simp_all<;>omega
abbrev zll (l:List Pair):List Mark:=l.map fun p=>(p.1,max p.2.1 p.2.2)
def BoxRow (bx base m n₀:Nat)(T:TypeId)(l:List Mark)(W:Xg):Prop :=
 ∃v,W.cell? ⟨bx,0,none⟩=some v/\W.frozen? ⟨bx,0,none⟩=false/\Own W base T 2 v l.length (l.flatMap zaj)/\(∀b,zad v b->b≠bx/\(b<m ∨ n₀<=b))/\n₀<=W.heap.size/\bx<m
theorem BoxRow.from (c base m n₀:Nat)(T:TypeId){β:Type}(f:β->List Mark)(B:Nat):OwnFrom B (fun s W=>BoxRow c base m n₀ T (f s) W):=fun s W k row ⟨v,h1,d,g,h,i,j⟩ a b =>
 ⟨v,cell_kept h1 a (fun r e=>(b r e).2),(frozen_kept h1 a (fun r e=>(b r e).2)).trans d,g.kept a (fun r e=>(b r e).2),h,Qd i a.size,j⟩
theorem BoxRow.grew {c base m n₀:Nat}{T:TypeId}{l':List Mark}{W d:Xg}{v v':Xh}(k:n₀<=W.heap.size)(q:c<m)(s:m<=n₀)(o:W.cell? ⟨c,0,none⟩=some v)(h:W.frozen? ⟨c,0,none⟩=false)(p:∀b,zad v b->b≠c/\(b<m ∨ n₀<=b))(g:Grew W d v v')(r:Own d base T 2 v' l'.length (l'.flatMap zaj)):d.cell? ⟨c,0,none⟩=some v/\d.frozen? ⟨c,0,none⟩=false/\BoxRow c base m n₀ T l' (d.setCell ⟨c,0,none⟩ v'):=by
 have hb:=zae o;have n:=g.same c hb (fun e=>(p _ e).1 rfl);have i:d.cell? ⟨c,0,none⟩=some v:=(Qj (a:=⟨c,0,none⟩) n).trans o
 have j:d.frozen? ⟨c,0,none⟩=false:=by unfold Ye at h ⊢;simp only[]at h ⊢;rw[n];exact h
 have l:∀b,zad v' b->b≠c/\(b<m ∨ n₀<=b):=fun b f=>by
  rcases g.blk b f with e|e
  ·exact p b e
  subst e;exact⟨by omega,.inr k⟩
 refine⟨i,j,v',Qk _ _ _ (by rw[i];rfl),by rw[World.frozen?_setCell];exact j,?_,l,Qd k (by simpa using g.size),q⟩;exact r.keep fun b f _=>Below.heap_setCell d _ v' b (l b f).1
theorem zy4 (a b:Nat):((max a b:Nat):Int)=max (a:Int) (b:Int):=by omega
set_option maxRecDepth 100000 in
set_option maxHeartbeats 1000000 in
theorem zjb {ar au : Nat -> Prop}{i j : Xh}{A B : List Mark}{w : Xg}(ha : Sl markT w ar i A)(hb : Sl markT w au j B)(a2 : A.length <= 1099511627776)(a3 : B.length <= 1099511627776) :
   Calls Tryz.prog 57 #[i, j] w fun e w' => ∃v', e = Xf v' /\ Own w' w.heap.size 97 2 v' (za0 A B).length ((za0 A B).flatMap zaj) /\ Ext w w' := by
 obtain⟨C, a4, aj⟩ := zq0 (P := Tryz.prog) (w := w) w.heap.size 22 97 2 24 (A.length + B.length) (Xd #[St [], U 0]) Tryz.underlying22 zgp rfl (by omega) (by omega) (Qc _)
 rw[Int.natCast_add]at a4
 have ao := zH (fun(W : Xg) (a : Ext w W) => callsIn_wide (n := 8).2 (zi9 (ha.ext (by decide) a) a2))
 have ap := zH (fun(W : Xg) (a : Ext w W) => callsIn_wide (n := 8).2 (zi9 (hb.ext (by decide) a) a3))
 have aq := zH aj
 obtain⟨J, N, rfl, -, -⟩ := ha.form
 obtain⟨L, Q, rfl, -, -⟩ := hb.form
 clear ha hb aj
 refine(callsIn_wide (n := 9)).1 ?_
 refine callsIn_of_wp_marks Tryz.func57 rfl trivial ?_ rfl
 simp only[Tryz.ntmps57, Qq, Qs, Qu, Qy, Qz, Array.replicate_succ, Array.replicate_zero, Qr, Qp, Qv, Qt]
 have ac : Ext w ((w.alloc (Xe C 97)).alloc (Xe #[Xa (some ⟨w.heap.size, 0, none⟩) 0 (A.length + B.length)] 22)) := ((Xi w).alloc _).alloc _
 have D := zix (w.alloc (Xe C 97)) (Xa (some ⟨w.heap.size, 0, none⟩) 0 (A.length + B.length)) 22
 rw[World.size_alloc]at D
 have a6 := aq.out.alloc (Xe #[Xa (some ⟨w.heap.size, 0, none⟩) 0 (A.length + B.length)] 22)
 have bq : ((w.alloc (Xe C 97)).alloc (Xe #[Xa (some ⟨w.heap.size, 0, none⟩) 0 (A.length + B.length)] 22)).heap.size = w.heap.size + 2 := by simp
 gi_wp2
 generalize (w.alloc (Xe C 97)).alloc (Xe #[Xa (some ⟨w.heap.size, 0, none⟩) 0 (A.length + B.length)] 22) = av at *
 refine⟨trivial, (ao.out _ ac).mono ?_⟩
 rintro e bc⟨i, rfl, al, ad⟩
 have a8 := ac.trans ad
 gi_wp2
 refine⟨trivial, (ap.out _ a8).mono ?_⟩
 rintro e d⟨j, rfl, am, ae⟩
 have an := zH (callsIn_wide (n := 8).2 (zpg i j d (by obtain⟨_, _, rfl, -⟩ := al.form; rfl) (by obtain⟨_, _, rfl, -⟩ := am.form; rfl)))
 have af : Ext d ((d.alloc (Xe #[i] 22)).alloc (Xe #[j] 22)) := ((Xi d).alloc _).alloc _
 have c1 : ((d.alloc (Xe #[i] 22)).alloc (Xe #[j] 22)).cell? ⟨d.heap.size, 0, none⟩ = some i := by simp[go_sem]
 have c2 : ((d.alloc (Xe #[i] 22)).alloc (Xe #[j] 22)).cell? ⟨d.heap.size + 1, 0, none⟩ = some j := by simp[go_sem]
 have br : ((d.alloc (Xe #[i] 22)).alloc (Xe #[j] 22)).heap.size = d.heap.size + 2 := by simp
 gi_wp2
 refine⟨trivial, an.out.mono ?_⟩
 rintro e bw⟨rfl, rfl⟩
 gi_wp2
 generalize (d.alloc (Xe #[i] 22)).alloc (Xe #[j] 22) = h at *
 have H : Ext av h := (ad.trans ae).trans af
 have bo := ad.size
 have bp := ae.size
 have ab : Ext w h := ac.trans H
 have a9 : Sl markT h (fun b => w.heap.size + 2 <= b /\ b<h.heap.size) i (zbu A) :=
   ((own_markT (S := fun _ => False).2 al).ext (ae.trans af)).sl (by decide) (fun _ _ a => a.elim) (fun b a T => ⟨by omega, T⟩)
 have ba : Sl markT h (fun b => w.heap.size + 2 <= b /\ b<h.heap.size) j (zbu B) :=
   ((own_markT (S := fun _ => False).2 am).ext af).sl (by decide) (fun _ _ a => a.elim) (fun b a T => ⟨by omega, T⟩)
 have bj := zeo A
 have bk := zeo B
 have bm := zkq (zbu A) (zbu B)
 refine wpIn_rangeFunc_ownH rfl (by omega) (gf := 126) (lb := #[Xb (some ⟨d.heap.size, 0, none⟩), Xb (some ⟨d.heap.size + 1, 0, none⟩)]) rfl trivial (enters_of Tryz.func126 (by kernel_rfl) rfl)
   (zmp 8 (by omega) (w := h) (n₀ := h.heap.size) (S := fun b => w.heap.size + 2 <= b /\ b<h.heap.size) (Qc _) c1 c2 ⟨by omega, by omega⟩ ⟨by omega, by omega⟩ (fun b a => a.2) a9 ba)
   (fun a k => a.trans k) (KpS.put (Qc _)) (Below.refl _ _) (fun _ => rfl)
   (fun pre W => BoxRow (w.heap.size + 1) w.heap.size (w.heap.size + 2) h.heap.size 97 (zll pre) W /\ Below w.heap.size w W)
   (fun _ _ _ => False)
   (OwnFrom.and (BoxRow.from _ _ _ _ _ _ _) (ownFrom_below (Qc _) ab.size))
   (fun _ _ _ _ _ a7 _ _ => a7)
   ⟨⟨_, H.cell D.1, (H.frozen (zae D.1)).trans D.2, a6.ext H, by rintro b⟨g, bs, bd, ay, bh, rfl⟩; cases ay; exact⟨by omega, .inl (by omega)⟩, Qc _, by omega⟩, ab⟩
   (fun x M W => ∃o, (W.cell? ⟨o, 0, none⟩ = some (St x.1) /\ W.cell? ⟨o, 1, none⟩ = some (U x.2.1) /\ W.cell? ⟨o, 2, none⟩ = some (U x.2.2)) /\
     M = { tmps := #[Xa J A.length N, Xa L B.length Q, Qe, Qe, Xa none 0 0, Xb (some ⟨w.heap.size + 1, 0, none⟩), Xb (some ⟨o, 0, none⟩), Xa J A.length N, I A.length, Xa L B.length Q, I B.length, I (A.length + B.length), Xa (some ⟨w.heap.size, 0, none⟩) 0 (A.length + B.length), Xa J A.length N, i, Xa L B.length Q, j, .func (.func 126) #[] #[Xb (some ⟨d.heap.size, 0, none⟩), Xb (some ⟨d.heap.size + 1, 0, none⟩)], zg2 x, Qe, Qe, Qe, Qe, Qe, Qe, Qe, Qe, Qe, Qe, Qe, Qe], defers := [] })
   (fun x M s W bb row ⟨o, ⟨h1, ag, V⟩, aw⟩ Y aa => ⟨o, ⟨cell_kept h1 Y (fun r e => (aa r e).2), cell_kept ag Y (fun r e => (aa r e).2), cell_kept V Y (fun r e => (aa r e).2)⟩, aw⟩)
   ?assign ?body ?done ?stop
 case assign =>
   rintro l pre x W K⟨⟨v, t, F, m, y, q, G⟩, p⟩ hK
   have f := (Xi W).alloc (Xe #[St x.1, U x.2.1, U x.2.2] 155)
   dsimp only[zg2]
   gi_wp2
   have Z := p.size
   exact hK _ _ ((KeepsOthers.alloc _ _).from _) (f.kpS q) ⟨⟨v, f.cell t, (f.frozen (zae t)).trans F, m.ext f, y, Qd q f.size, G⟩, Qm p (f.below Z)⟩
     ⟨W.heap.size, ⟨by simp[go_sem], by simp[go_sem], by simp[go_sem]⟩, rfl⟩
 case body =>
   rintro l pre x M W bi-⟨⟨v, t, F, m, y, q, G⟩, p⟩ ⟨o, ⟨bt, bu, bv⟩, rfl⟩ bn
   have Z := p.size
   have a5 : (zll pre).length = pre.length := by simp
   gi_wp2_with (gi_at_builtin; refine zfl rfl (.tmp 19) (.tmp 28) 22 rfl w.heap.size 97 2 24 (Xd #[St [], U 0]) Tryz.underlying22 zgp rfl (by omega) v (zll pre).length ((zll pre).flatMap zaj) rfl (m.alloc _) _ 1 1 _ rfl (Src.new rfl (by intro u ak; simp at ak; rcases ak with rfl|rfl<;>rfl)) (by omega) (by omega) (by simp; omega) ?_; intro v' w' ai E
                have f := (Xi W).alloc (Xe #[St x.1, .int .u64 (max x.2.1 x.2.2)] 97)
                obtain⟨be, bf, ah⟩ := BoxRow.grew (l' := zll (pre ++ [x])) (Qd q f.size) G (by omega) (f.cell t) ((f.frozen (zae t)).trans F) y E (by simpa[zaj, U, zy4]using ai)
                have a0 := (KeepsOthers.alloc _ _).trans (E.keeps (m.alloc _))
                have a1 : KpS (fun b => w.heap.size + 2 <= b /\ b<h.heap.size) h.heap.size W w' := (f.kpS q).trans (KpS.grew E (Qd q f.size) (fun b a ag => by rcases(y b a).2 with V|V<;>omega))
                have ax := Ext.grewOwn (Qm p (f.below Z)) E (m.alloc _) (Qc _)
                have X := ai.form
                obtain⟨R, O, rfl, -, -⟩ := X)
   exact⟨(a0.trans (KeepsOthers.setCell _ _ _)).from _, a1.trans (KpS.set _ (fun a => by have := a.1; simp at this) _), by rw[a5]at ah; exact ah, ax.setCell (by simp) _⟩
 case done =>
   rintro z bx W bg rfl⟨⟨v, t, F, m, y, q, G⟩, p⟩ hK
   have X := m.form
   obtain⟨R, O, rfl, -, -⟩ := X
   gi_wp2
   refine⟨by simp, .inl ⟨_, _, rfl, run_takeDeferred hK, ?_⟩⟩
   have az : Own (W.putObj z (.deferred none)) w.heap.size 97 2 (Xa R (za3 (zbu A) (zbu B)).length O) (za0 A B).length ((za0 A B).flatMap zaj) := by
     have a := m.kept (grownBy_putObj' W z (.deferred none)) (fun r e => by cases e; exact⟨_, hK, rfl⟩)
     rw[List.length_map]at a
     simpa[za0]using a
   refine⟨_, results_tmp rfl _ _ _, Xa R (za3 (zbu A) (zbu B)).length O, rfl, az, ?_⟩
   exact(Qm p (belowK_b (w := w) (Qc _) W z _ _ (by have := ab.size; omega) hK rfl rfl))
 case stop =>
   rintro z c pre W _ _ a _
   exact a.elim
end
section
open Go.RowKit Go.Shelf
def zbm (a b:List Mark):Bool:=(za3 (zbu a) (zbu b)).all fun p=>!decide (p.2.1<p.2.2)
section
attribute [local go_sem] Oper.semAt_some
theorem zil {af ag:Nat->Prop}{g h:Xh}{A B:List Mark}{w:Xg}(ha:Sl markT w af g A)(hb:Sl markT w ag h B)(am:A.length<=1099511627776)(an:B.length<=1099511627776) :
  Calls Tryz.prog 35 #[g,h] w fun e w'=>e=Xf (Xc (zbm A B))/\Ext w w':=by
 have ad:=zH (fun(W:Xg) (f:Ext w W)=>callsIn_wide (n:=8).2 (zi9 (ha.ext (by decide) f) am));have ae:=zH (fun(W:Xg) (f:Ext w W)=>callsIn_wide (n:=8).2 (zi9 (hb.ext (by decide) f) an));obtain⟨T,Y,rfl,-,-⟩:=ha.form;obtain⟨V,Z,rfl,-,-⟩:=hb.form;clear ha hb;refine(callsIn_wide (n:=9)).1 ?_;refine callsIn_of_wp_marks Tryz.func35 rfl trivial ?_ rfl;simp only[Tryz.ntmps35,Qq,Qs,Qu,Qy,Qz,Array.replicate_succ,Array.replicate_zero,Qr,Qp,Qv,Qt];have N:Ext w (w.alloc (Xe #[Xc false] 4)):=(Xi w).alloc _;have J:=zix w (Xc false) 4;have a6:(w.alloc (Xe #[Xc false] 4)).heap.size=w.heap.size+1:=by simp
 gi_wp2
 generalize w.alloc (Xe #[Xc false] 4)=ah at *;refine⟨trivial,(ad.out _ N).mono ?_⟩;rintro e ay⟨g,rfl,aa,O⟩;have av:=N.trans O
 gi_wp2
 refine⟨trivial,(ae.out _ av).mono ?_⟩;rintro e d⟨h,rfl,ab,Q⟩;have ac:=zH (callsIn_wide (n:=8).2 (zpg g h d (by obtain⟨_,_,rfl,-⟩:=aa.form;rfl) (by obtain⟨_,_,rfl,-⟩:=ab.form;rfl)));have R:Ext d ((d.alloc (Xe #[g] 22)).alloc (Xe #[h] 22)):=((Xi d).alloc _).alloc _;have c1:((d.alloc (Xe #[g] 22)).alloc (Xe #[h] 22)).cell? ⟨d.heap.size,0,none⟩=some g:=by simp[go_sem]
 have c2:((d.alloc (Xe #[g] 22)).alloc (Xe #[h] 22)).cell? ⟨d.heap.size+1,0,none⟩=some h:=by simp[go_sem]
 have au:((d.alloc (Xe #[g] 22)).alloc (Xe #[h] 22)).heap.size=d.heap.size+2:=by simp
 gi_wp2
 refine⟨trivial,ac.out.mono ?_⟩;rintro e ba⟨rfl,rfl⟩
 gi_wp2
 generalize (d.alloc (Xe #[g] 22)).alloc (Xe #[h] 22)=i at *;have P:Ext ah i:=(O.trans Q).trans R;have a4:=O.size;have a5:=Q.size;have D:Ext w i:=N.trans P
 have aw:Sl markT i (fun b=>w.heap.size+1<=b/\b<i.heap.size) g (zbu A) :=
  ((own_markT (S:=fun _=>False).2 aa).ext (Q.trans R)).sl (by decide) (fun _ _ f=>f.elim) (fun b f H=>⟨by omega,H⟩)
 have ax:Sl markT i (fun b=>w.heap.size+1<=b/\b<i.heap.size) h (zbu B) :=
  ((own_markT (S:=fun _=>False).2 ab).ext R).sl (by decide) (fun _ _ f=>f.elim) (fun b f H=>⟨by omega,H⟩)
 have a0:=zeo A;have a1:=zeo B;have a2:=zkq (zbu A) (zbu B)
 refine wpIn_rangeFunc_ownH rfl (by omega) (gf:=126) (lb:=#[Xb (some ⟨d.heap.size,0,none⟩),Xb (some ⟨d.heap.size+1,0,none⟩)]) rfl trivial (enters_of Tryz.func126 (by kernel_rfl) rfl)
  (zmp 8 (by omega) (w:=i) (n₀:=i.heap.size) (S:=fun b=>w.heap.size+1<=b/\b<i.heap.size) (Qc _) c1 c2 ⟨by omega,by omega⟩ ⟨by omega,by omega⟩ (fun b f=>f.2) aw ax)
  (fun f k=>f.trans k) (KpS.put (Qc _)) (Below.refl _ _) (fun _=>rfl)
  (fun pre W=>(W.cell? ⟨w.heap.size,0,none⟩=some (Xc false)/\W.frozen? ⟨w.heap.size,0,none⟩=false/\(∀p∈pre,¬p.2.1<p.2.2)/\i.heap.size<=W.heap.size)/\Below w.heap.size w W)
  (fun c pre W=>(c=.ret/\W.cell? ⟨w.heap.size,0,none⟩=some (Xc false)/\∃p∈pre,p.2.1<p.2.2)/\Below w.heap.size w W)
  (OwnFrom.and (fun s W X row q o t=>⟨cell_kept q.1 o (fun r e=>(t r e).2),(frozen_kept q.1 o (fun r e=>(t r e).2)).trans q.2.1,q.2.2.1,Qd q.2.2.2 o.size⟩) (ownFrom_below (Qc _) D.size))
  (fun c=>OwnFrom.and (fun s W X row q o t=>⟨q.1,cell_kept q.2.1 o (fun r e=>(t r e).2),q.2.2⟩) (ownFrom_below (Qc _) D.size))
  ⟨⟨P.cell J.1,(P.frozen (zae J.1)).trans J.2,by simp,Qc _⟩,D⟩
  (fun x G W=>∃u,(W.cell? ⟨u,0,none⟩=some (St x.1)/\W.cell? ⟨u,1,none⟩=some (U x.2.1)/\W.cell? ⟨u,2,none⟩=some (U x.2.2)) /\
   G = { tmps:=#[Xa T A.length Y,Xa V B.length Z,Qe,Qe,Xb (some ⟨w.heap.size,0,none⟩),Xb (some ⟨u,0,none⟩),Xa T A.length Y,g,Xa V B.length Z,h,.func (.func 126) #[] #[Xb (some ⟨d.heap.size,0,none⟩),Xb (some ⟨d.heap.size+1,0,none⟩)],zg2 x,Qe,Qe,Qe,Qe,Qe],defers:=[] })
  (fun x G s W X row ⟨u,⟨h1,ai,aj⟩,ak⟩ o t=>⟨u,⟨cell_kept h1 o (fun r e=>(t r e).2),cell_kept ai o (fun r e=>(t r e).2),cell_kept aj o (fun r e=>(t r e).2)⟩,ak⟩)
  ?assign ?body ?done ?stop
 case assign =>
  rintro l pre x W K⟨⟨m,E,v,C⟩,j⟩ hK;have z:=(Xi W).alloc (Xe #[St x.1,U x.2.1,U x.2.2] 155);dsimp only[zg2]
  gi_wp2
  have ao:=j.size
  exact hK _ _ ((KeepsOthers.alloc _ _).from _) (z.kpS C) ⟨⟨z.cell m,(z.frozen (zae m)).trans E,v,Qd C z.size⟩,Qm j (z.below ao)⟩
   ⟨W.heap.size,⟨by simp[go_sem],by simp[go_sem],by simp[go_sem]⟩,rfl⟩
 case body =>
  rintro l pre x G W az-⟨⟨m,E,v,C⟩,j⟩ ⟨u,⟨a7,a8,a9⟩,rfl⟩ a3
  by_cases F:x.2.1<x.2.2
  ·have ar:(x.2.1:Int)<x.2.2:=by omega
   gi_wp2
   exact⟨(KeepsOthers.setCell _ _ _).from _,⟨rfl,Qk _ _ _ (by rw[m];rfl),x,by simp,F⟩,Yf j (by simp) _⟩
  have ar:¬(x.2.1:Int)<x.2.2:=by omega
  gi_wp2
  exact⟨KeepsFrom.refl _ _,KpS.refl _ _ _,⟨m,E,fun a b c f=>Nat.le_of_not_lt (zm7 v F (a,b,c) f),by rw[<- au];exact C⟩,j⟩
 case done =>
  rintro y bb W al rfl⟨⟨m,E,v,C⟩,j⟩ hK
  gi_wp2
  have I:=(KeepsOthers.setCell W ⟨w.heap.size,0,none⟩ (Xc true)).same y _ hK rfl;refine⟨by simp,.inl ⟨_,_,rfl,run_takeDeferred I,?_⟩⟩;have L:=cell_kept (Qk W ⟨w.heap.size,0,none⟩ (Xc true) (by rw[m];rfl)) (grownBy_putObj' _ y (.deferred none)) (fun r e=>by cases e;exact⟨_,I,rfl⟩)
  have M:zbm A B=true:=by
   unfold zbm;rw[Yd];intro p ap
   simpa using v p ap
  refine⟨Xc true,?_,by rw[M],(Yf j (p:=⟨w.heap.size,0,none⟩) (by simp) _).trans (belowK_b (w:=w) (Qc _) _ y _ _ (by have:=D.size;omega) I rfl rfl)⟩;simp[results,Tryz.f35,go_sem,L]
 case stop =>
  rintro y c pre W al aq⟨⟨rfl,m,p,v,F⟩,j⟩ hK
  gi_wp2
  refine⟨by simp,.inl ⟨_,_,rfl,run_takeDeferred hK,?_⟩⟩;have L:=cell_kept m (grownBy_putObj' _ y (.deferred none)) (fun r e=>by cases e;exact⟨_,hK,rfl⟩)
  have M:zbm A B=false:=by unfold zbm;rw[List.all_eq_false];exact⟨p,aq.subset v,by simpa using F⟩
  refine⟨Xc false,?_,by rw[M],Qm j (belowK_b (w:=w) (Qc _) W y _ _ (by have:=D.size;omega) hK rfl rfl)⟩;simp[results,Tryz.f35,go_sem,L]
end
theorem zwp (s:Str)(m:Mark){b:Nat}{w:Xg}(hb:w.cell? ⟨b,0,none⟩=some (St s)) :
  Calls Tryz.prog 95 #[Xd #[St m.1,U m.2],Xb (some ⟨b,0,none⟩)] w fun e w'=>e=Xf (Xc (m.1==s))/\Ext w w':=by
 have d:=zae hb
 by_cases a:m.1=s
 ·have c:(m.1==s)=true:=by simpa using a
  go_enter Tryz.func95,Tryz.ntmps95;go_wp2;go_ret;exact⟨by simp[a],(Xi _).alloc _⟩
 have c:(m.1==s)=false:=by simpa using a
 go_enter Tryz.func95,Tryz.ntmps95;go_wp2;go_ret;exact⟨by simp[c],(Xi _).alloc _⟩
theorem zt8 (s:Str)(b base:Nat)(hb:b<base):PredM Tryz.prog 95 #[Xb (some ⟨b,0,none⟩)] base (fun W=>W.cell? ⟨b,0,none⟩=some (St s)) (fun m=>m.1==s) where
 enters:=enters_of Tryz.func95 (by kernel_rfl) rfl
 keep W W' h hB:=(Below.cell hB (p:=⟨b,0,none⟩) hb).trans h
 does m W h:=zwp s m h
def zau (l:List Mark)(s:Str):List Mark:=(zbu l).filter fun m=>!(m.1==s)
theorem zkr {S:Nat->Prop}{v:Xh}{l:List Mark}{w:Xg}(s:Str)(b:Sl markT w S v l)(j:l.length<=1099511627776) :
  Calls Tryz.prog 42 #[v,St s] w fun e w'=>∃v',e=Xf v'/\Own w' w.heap.size 97 2 v' (zau l s).length ((zau l s).flatMap zaj)/\Ext w w':=by
 have f:=(Xi w).alloc (Xe #[St s] 9);have g:=zH (zi9 (b.ext (by decide) f) j);clear b;go_enter Tryz.func42,Tryz.ntmps42;go_wp2_with fail;refine g.out.mono ?_;rintro e m⟨v1,rfl,c,a⟩;have h:=zH (zmn c (zt8 s w.heap.size _ (by simp)) (a.cell (by simp[go_sem])) a.size);clear c;go_wp2_with fail;refine h.out.mono ?_;rintro e n⟨v2,rfl,d,k⟩;have i:=zH d;clear d;go_wp2_with fail;go_ret;exact⟨_,rfl,i.out.lower (by simp),f.trans (Qm a k)⟩
def setM (l:List Mark)(s:Str)(n:Nat):List Mark:=za0 (zau l s) [(s,n)]
theorem zh4 (l:List Mark)(s:Str):(zau l s).length<=l.length:=Qd (List.length_filter_le _ _) (zeo l)
theorem zj9 {S:Nat->Prop}{v:Xh}{l:List Mark}{w:Xg}(s:Str)(n:Nat)(f:Sl markT w S v l)(b:l.length<=1099511627776) :
  Calls Tryz.prog 67 #[v,St s,U n] w fun e w'=>∃v',e=Xf v'/\Own w' w.heap.size 97 2 v' (setM l s n).length ((setM l s n).flatMap zaj)/\Ext w w':=by
 have m:=zH (zkr s f b);clear f;go_enter Tryz.func67,Tryz.ntmps67;go_wp2_with fail;refine m.out.mono ?_;rintro e c⟨v1,rfl,g,i⟩;have k:=(Xi c).alloc (Xe #[St s,U n] 97)
 have d:Sl markT (c.alloc (Xe #[St s,U n] 97)) (fun _=>True) (Xa (some ⟨c.heap.size,0,none⟩) 1 1) [(s,n)] :=
  ⟨_,1,rfl,Qc _,by omega,fun pre x post b=>by
   cases pre with
   | nil=>simp at b;obtain⟨rfl,-⟩:=b;exact⟨_,0,_,rfl,trivial,rfl,fun j u t=>by
     rw[cell_of_row _ c.heap.size _ #[St s,U n] 97 (0,0) (Go.heap_alloc_new c _)]
     simpa[zaj]using t⟩
   | cons a r=>simp at b⟩
 have o:=zH (zjb ((own_markT (S:=fun _=>False).2 (g.ext k)).sl (S':=fun _=>True) (by decide) (fun _ _ q=>q.elim) (fun _ _ _=>trivial)) d (Qd (zh4 l s) b) (by simp));clear g d;go_wp2_with fail;refine o.out.mono ?_;rintro e A⟨v3,rfl,h,y⟩;have p:=zH h;have z:=i.size;clear h;go_wp2_with fail;go_ret;exact⟨_,rfl,p.out.lower (by simp;omega),(i.trans k).trans y⟩
theorem zmq (a b:Mark)(W:Xg):Calls Tryz.prog 121 #[Xd #[St a.1,U a.2],Xd #[St b.1,U b.2]] W fun e w'=>e=Xf (I (cmpD a b))/\∃q os,w'=Go.Sort.grow (W.drewN q) os:=by
 have c:=zH zhl;have d:=zH zm8;have f:=zH @zwk;go_enter Tryz.func121,Tryz.ntmps121;go_wp2_with fail
 go_region_held3 (fun w'=>w'.cell? ⟨W.heap.size,0,none⟩=some (St a.1)/\w'.cell? ⟨W.heap.size,1,none⟩=some (U a.2)/\w'.cell? ⟨W.heap.size+1,0,none⟩=some (St b.1)/\w'.cell? ⟨W.heap.size+1,1,none⟩=some (U b.2)) (first|(simp[go_sem];done)) (first|(go_at_call 87;refine(c.out _ _ _).mono ?_;rintro e w'⟨rfl,rfl⟩)|(go_at_call 131;refine(d.out _ _ _).mono ?_;rintro e w'⟨rfl,rfl⟩)|(go_at_call 130;refine(f.out (cmpS a.1 b.1) (cmpN a.2 b.2) (by simp[go_sem]) (by simp[go_sem])).mono ?_;rintro e w'⟨rfl,rfl⟩))
 go_wp2;go_ret;exact⟨rfl,1,_,zmo _ _ _ _⟩
end
section
open Go.Sort
theorem zph (s:Str):∀(l:List Mark) (a x:Nat),l.foldl (fun n m=>if m.1==s && !s.isEmpty then max n m.2 else n) a<=x↔a<=x/\∀m∈l,m.1=s->s≠[]->m.2<=x
 | [],a,x=>by simp
 | m::r,a,x=>by
  rw[List.foldl_cons,zph s r]
  by_cases c:m.1=s
  ·by_cases h0:s = []
   ·subst h0;simp
   have:(m.1==s && !s.isEmpty)=true:=by simp[c,h0]
   rw[this,zP rfl]
   constructor
   ·rintro⟨h1,h2⟩;refine⟨by omega,fun y b=>?_⟩;rcases Qa.1 b with rfl|b
    ·exact fun _ _=>by omega
    exact h2 y b
   rintro⟨h1,h2⟩;have:=h2 m (by simp) c h0;exact⟨by omega,fun y b=>h2 y (by simp[b])⟩
  have:(m.1==s && !s.isEmpty)=false:=by simp[c]
  rw[this];simp[c]
theorem ofM_le {l:List Mark}{s:Str}{x:Nat}:ofM l s<=x↔∀m∈l,m.1=s->s≠[]->m.2<=x:=by
 unfold ofM;rw[zph];simp
theorem znx {l:List Mark}{m:Mark}(h:m∈l)(h0:m.1≠[]):m.2<=ofM l m.1:=ofM_le.1 (Qc _) m h rfl h0
theorem zme {a b:List Mark}{s t:Str}(h:∀x,ofM a s<=x↔ofM b t<=x):ofM a s=ofM b t:=Qx ((h _).2 (Qc _)) ((h _).1 (Qc _))
theorem zff (s:Str):ofM [] s=0:=rfl
theorem zh5 (l:List Mark):ofM l []=0:=Nat.le_zero.1 (ofM_le.2 fun _ _ _ h=>absurd rfl h)
theorem ziz {l:List Mark}{s:Str}(d:ofM l s≠0):∃m∈l,m.1=s/\s≠[]/\m.2=ofM l s:=by
 refine Classical.byContradiction fun c=>?_
 have:ofM l s<=ofM l s-1:=ofM_le.2 fun m b h1 a=>by
  have f:m.2<=ofM l s:=by subst h1;exact znx b a
  have g:m.2≠ofM l s:=fun e=>c ⟨m,b,h1,a,e⟩
  omega
 omega
theorem zwq {a b:List Mark}(d:∀m,m∈a↔m∈b)(s:Str):ofM a s=ofM b s:=zme fun x=>by
 rw[ofM_le,ofM_le];exact⟨fun k m c=>k m ((d m).2 c),fun k m c=>k m ((d m).1 c)⟩
def SortedM (l:List Mark):Prop:=l.Pairwise fun a b=>ltS a.1 b.1=true
def GoodM (l:List Mark):Prop:=SortedM l/\∀m∈l,m.1≠[]/\1<=m.2
theorem SortedM.uniq {l:List Mark}(c:SortedM l){a b:Mark}(ha:a∈l)(hb:b∈l)(e:a.1=b.1):a=b:=by
 induction l with
 | nil=>simp at ha
 | cons x r f =>
  obtain⟨h1,d⟩:=Qb.1 c;rcases Qa.1 ha with rfl|ha'<;>rcases Qa.1 hb with rfl|hb'
  ·rfl
  ·have:=h1 b hb';rw[e,zap]at this;cases this
  ·have:=h1 a ha';rw[<- e,zap]at this;cases this
  exact f d ha' hb'
theorem SortedM.of {l:List Mark}(b:SortedM l){m:Mark}(a:m∈l)(h0:m.1≠[]):ofM l m.1=m.2:=by
 refine Qx (ofM_le.2 fun y c h1 _=>?_) (znx a h0);rw[b.uniq c a h1];exact Qc _
theorem SortedM.nodup {l:List Mark}(d:SortedM l):l.Nodup:=d.imp fun {a b} c e=>by subst e;rw[zap]at c;cases c
theorem GoodM.mem_iff {l:List Mark}(a:GoodM l){m:Mark}:m∈l↔m.1≠[]/\1<=m.2/\ofM l m.1=m.2:=by
 constructor
 ·intro b;exact⟨(a.2 m b).1,(a.2 m b).2,a.1.of b (a.2 m b).1⟩
 rintro⟨h1,h2,h3⟩;obtain⟨y,d,c,-,e⟩:=ziz (l:=l) (s:=m.1) (by omega);have:y=m:=Prod.ext c (by omega)
 rwa[this]at d
theorem zov {a b:List Mark}(ha:SortedM a)(hb:SortedM b)(c:∀m,m∈a↔m∈b):a=b:=by
 have f:a.Perm b:=(List.perm_ext_iff_of_nodup ha.nodup hb.nodup).2 c
 have key:∀ {l:List Mark},SortedM l->l.Pairwise (fun x y=>ltOf cmpM y x=false):=fun e=>e.imp fun {x y} d=>zbt fun c=>by
  rcases cmpM_lt.1 c with c|⟨c,-⟩
  ·have:=zay d c;rw[zap]at this;cases this
  rw[c,zap]at d;cases d
 exact zej zo8 f (key ha) (key hb)
theorem GoodM.ext {a b:List Mark}(ha:GoodM a)(hb:GoodM b)(h:∀s,ofM a s=ofM b s):a=b :=
 zov ha.1 hb.1 fun m=>by rw[ha.mem_iff,hb.mem_iff,h]
theorem noM_false {m:Mark}:noM m=false↔m.1≠[]/\1<=m.2:=by
 unfold noM;obtain⟨s,n⟩:=m;cases s<;>simp<;>omega
theorem zy6 (l:List Mark)(s:Str):ofM (l.filter fun m=>!noM m) s=ofM l s:=zme fun x=>by
 rw[ofM_le,ofM_le]
 constructor
 ·intro a m b h1 d
  cases c:noM m
  case false=>exact a m (Qh.2 ⟨b,by simp[c]⟩) h1 d
  have:¬(m.1≠[]/\1<=m.2):=fun k=>by rw[noM_false.2 k]at c;cases c
  have e:m.1≠[]:=(by rw[h1];exact d);have:¬ 1<=m.2:=fun k=>this ⟨e,k⟩
  omega
 exact fun a m b=>a m (Qh.1 b).1
theorem zjc {a b:Mark}(h:a.1=b.1)(l:List Mark):za6 a l=za6 b l:=by
 cases l with
 | nil=>rfl
 | cons m r=>unfold za6;rw[h]
theorem zg4:∀(l:List Mark) (a m:Mark),m∈za6 a l->m∈l
 | [],_,_,h=>by simp[za6]at h
 | b::r,a,m,h=>by
  unfold za6 at h
  split at h
  ·exact Qo _ (zg4 r b m h)
  rcases Qa.1 h with rfl|h
  ·simp
  exact Qo _ (zg4 r b m h)
theorem zlm {l:List Mark}{m:Mark}(h:m∈zb0 l):m∈l:=by
 cases l
 case nil=>exact h
 rename_i a r
 rcases Qa.1 h with rfl|h
 ·simp
 exact Qo _ (zg4 r a m h)
theorem zg5:∀(l:List Mark) (a m:Mark),(a::l).Pairwise (fun x y=>ltOf cmpM y x=false)->m∈a::l->∃y∈a::za6 a l,y.1=m.1/\m.2<=y.2
 | [],a,m,_,hm=>⟨a,by simp,by simp at hm;subst hm;exact⟨rfl,Qc _⟩⟩
 | b::r,a,m,hp,hm=>by
  obtain⟨h1,d⟩:=Qb.1 hp;obtain⟨g,f⟩:=Qb.1 d;unfold za6
  by_cases hb:b.1=a.1
  ·have:(b.1==a.1)=true:=by simpa using hb
   rw[this,zP rfl,zjc hb];rcases Qa.1 hm with rfl|hm
   ·exact⟨_,by simp,rfl,Qc _⟩
   have ha:ltOf cmpM b a=false:=h1 b (by simp);rcases Qa.1 hm with rfl|hm
   ·refine⟨a,by simp,hb.symm,?_⟩;rcases ziy ha with h|⟨-,h⟩
    ·rw[hb,zap]at h;cases h
    exact h
   exact zg5 r a m (Qb.2 ⟨fun y c=>h1 y (by simp[c]),f⟩) (by simp[hm])
  have:(b.1==a.1)=false:=by simpa using hb
  rw[this];simp only[Bool.false_eq_true,if_false];rcases Qa.1 hm with rfl|hm
  ·exact⟨_,by simp,rfl,Qc _⟩
  obtain⟨y,c,e⟩:=zg5 r b m d hm;exact⟨y,by simp only[Qa]at c ⊢;exact .inr c,e⟩
theorem zfq:∀(l:List Mark) (a:Mark),(a::l).Pairwise (fun x y=>ltOf cmpM y x=false)->SortedM (a::za6 a l)
 | [],a,_=>by simp[za6,SortedM]
 | b::r,a,hp=>by
  obtain⟨h1,d⟩:=Qb.1 hp;obtain⟨i,g⟩:=Qb.1 d;unfold za6
  by_cases hb:b.1=a.1
  ·have:(b.1==a.1)=true:=by simpa using hb
   rw[this,zP rfl,zjc hb];exact zfq r a (Qb.2 ⟨fun y c=>h1 y (by simp[c]),g⟩)
  have:(b.1==a.1)=false:=by simpa using hb
  rw[this];simp only[Bool.false_eq_true,if_false];have f:=zfq r b d
  have e:ltS a.1 b.1=true:=by
   rcases ziy (h1 b (by simp))with h|⟨h,-⟩
   ·exact h
   exact absurd h hb
  refine Qb.2 ⟨fun y c=>?_,f⟩;rcases Qa.1 c with rfl|c
  ·exact e
  exact zay e ((Qb.1 f).1 y c)
theorem zny {l:List Mark}(b:l.Pairwise (fun x y=>ltOf cmpM y x=false)):SortedM (zb0 l):=by
 cases l with
 | nil=>simp[zb0,SortedM]
 | cons a r=>exact zfq r a b
theorem zso {l:List Mark}(f:l.Pairwise (fun x y=>ltOf cmpM y x=false))(s:Str):ofM (zb0 l) s=ofM l s:=by
 refine Qx (ofM_le.2 fun m b h1 c=>by subst h1;exact znx (zlm b) c) (ofM_le.2 fun m b h1 c=>?_)
 cases l with
 | nil=>simp at b
 | cons a r=>obtain⟨y,g,d,e⟩:=zg5 r a m f b;refine Qd e ?_;rw[<- h1,<- d];exact znx (l:=zb0 (a::r)) g (by rw[d,h1];exact c)
theorem zfr (l:List Mark)(s:Str):ofM (zbu l) s=ofM l s:=by
 unfold zbu;rw[zso (zdn zkn _),zwq (fun m=>(zbq _).mem_iff),zy6]
theorem zeq (l:List Mark):GoodM (zbu l):=by
 refine⟨zny (zdn zkn _),fun m b=>?_⟩;have:=(zbq _).mem_iff.1 (zlm b);have a:=(Qh.1 this).2;exact noM_false.1 (by simpa using a)
theorem ze6 (a b:List Mark):∀p∈za3 a b,(∃m∈a,m.1=p.1) ∨ (∃m∈b,m.1=p.1):=by
 fun_induction za3 a b with
 | case1=>simp
 | case2 x r ih =>
  intro p d;rcases Qa.1 d with rfl|d
  ·exact .inl ⟨x,by simp,rfl⟩
  rcases ih p d with⟨m,c,e⟩|⟨m,c,e⟩
  ·exact .inl ⟨m,by simp[c],e⟩
  simp at c
 | case3 y s ih =>
  intro p d;rcases Qa.1 d with rfl|d
  ·exact .inr ⟨y,by simp,rfl⟩
  rcases ih p d with⟨m,c,e⟩|⟨m,c,e⟩
  ·simp at c
  exact .inr ⟨m,by simp[c],e⟩
 | case4 x r y s h ih =>
  intro p d;rcases Qa.1 d with rfl|d
  ·exact .inr ⟨y,by simp,rfl⟩
  rcases ih p d with⟨m,c,e⟩|⟨m,c,e⟩
  ·exact .inl ⟨m,by simp[c],e⟩
  exact .inr ⟨m,by simp[c],e⟩
 | case5 x r y s h h' ih =>
  intro p d;rcases Qa.1 d with rfl|d
  ·exact .inl ⟨x,by simp,rfl⟩
  rcases ih p d with⟨m,c,e⟩|⟨m,c,e⟩
  ·exact .inl ⟨m,by simp[c],e⟩
  exact .inr ⟨m,c,e⟩
 | case6 x r y s h h' ih =>
  intro p d;rcases Qa.1 d with rfl|d
  ·exact .inr ⟨y,by simp,rfl⟩
  rcases ih p d with⟨m,c,e⟩|⟨m,c,e⟩
  ·exact .inl ⟨m,c,e⟩
  exact .inr ⟨m,by simp[c],e⟩
theorem GoodM.tail {x:Mark}{r:List Mark}(a:GoodM (x::r)):GoodM r:=⟨(Qb.1 a.1).2,fun m b=>a.2 m (by simp[b])⟩
theorem GoodM.head {x:Mark}{r:List Mark}(h:GoodM (x::r)):∀m∈r,ltS x.1 m.1=true:=(Qb.1 h.1).1
theorem zln:GoodM []:=⟨.nil,by simp⟩
theorem zfg {x:Mark}{r:List Mark}{s:Str}(b:x.1≠s):ofM (x::r) s=ofM r s:=zme fun n=>by
 rw[ofM_le,ofM_le]
 exact⟨fun k m a=>k m (by simp[a]),fun k m a h1 c=>by
  rcases Qa.1 a with rfl|a
  ·exact absurd h1 b
  exact k m a h1 c⟩
theorem zgi {l:List Mark}{s:Str}(a:∀m∈l,m.1≠s):ofM l s=0:=Nat.le_zero.1 (ofM_le.2 fun m b h1 _=>absurd h1 (a m b))
theorem GoodM.of_head {x:Mark}{r:List Mark}(h:GoodM (x::r)):ofM (x::r) x.1=x.2:=h.1.of (by simp) (h.2 x (by simp)).1
theorem zjt {a b:Str}(h:ltS a b=true):b≠a:=(zck h).symm
theorem zek (a b:List Mark):GoodM a->GoodM b->(za3 a b).Pairwise fun p q=>ltS p.1 q.1=true:=by
 fun_induction za3 a b with
 | case1=>exact fun _ _=>.nil
 | case2 x r ih =>
  intro ha hb;refine Qb.2 ⟨fun p d=>?_,ih ha.tail hb⟩;rcases ze6 _ _ p d with⟨m,c,e⟩|⟨m,c,e⟩
  ·rw[<- e];exact ha.head m c
  simp at c
 | case3 y s ih =>
  intro ha hb;refine Qb.2 ⟨fun p d=>?_,ih ha hb.tail⟩;rcases ze6 _ _ p d with⟨m,c,e⟩|⟨m,c,e⟩
  ·simp at c
  rw[<- e];exact hb.head m c
 | case4 x r y s h ih =>
  intro ha hb;have f:x.1=y.1:=by simpa using h
  refine Qb.2 ⟨fun p d=>?_,ih ha.tail hb.tail⟩;rcases ze6 _ _ p d with⟨m,c,e⟩|⟨m,c,e⟩
  ·rw[<- e];show ltS y.1 m.1=true;rw[<- f];exact ha.head m c
  rw[<- e];exact hb.head m c
 | case5 x r y s h f ih =>
  intro ha hb;refine Qb.2 ⟨fun p d=>?_,ih ha.tail hb⟩;rcases ze6 _ _ p d with⟨m,c,e⟩|⟨m,c,e⟩
  ·rw[<- e];exact ha.head m c
  rw[<- e];rcases Qa.1 c with rfl|c
  ·exact f
  exact zay f (hb.head m c)
 | case6 x r y s h f ih =>
  intro ha hb
  have g:ltS y.1 x.1=true:=by
   rcases zcj x.1 y.1 with k|k|k
   ·exact absurd k f
   ·exact absurd (by simpa using k) h
   exact k
  refine Qb.2 ⟨fun p d=>?_,ih ha hb.tail⟩;rcases ze6 _ _ p d with⟨m,c,e⟩|⟨m,c,e⟩
  ·rw[<- e];rcases Qa.1 c with rfl|c
   ·exact g
   exact zay g (ha.head m c)
  rw[<- e];exact hb.head m c
theorem zim (a b:List Mark):GoodM a->GoodM b->∀p∈za3 a b,p.2.1=ofM a p.1/\p.2.2=ofM b p.1:=by
 fun_induction za3 a b with
 | case1=>intro _ _ p c;simp at c
 | case2 x r ih =>
  intro ha hb p c;have d:=zek (x::r) [] ha hb;rw[zfm]at d;rcases Qa.1 c with rfl|c
  ·exact⟨ha.of_head.symm,(zff _).symm⟩
  obtain⟨e,f⟩:=ih ha.tail hb p c;rw[zfg (zck ((Qb.1 d).1 p c))];exact⟨e,f⟩
 | case3 y s ih =>
  intro ha hb p c;have d:=zek [] (y::s) ha hb;rw[zfn]at d;rcases Qa.1 c with rfl|c
  ·exact⟨(zff _).symm,hb.of_head.symm⟩
  obtain⟨e,f⟩:=ih ha hb.tail p c;rw[zfg (x:=y) (zck ((Qb.1 d).1 p c))];exact⟨e,f⟩
 | case4 x r y s h ih =>
  intro ha hb p c;obtain⟨xs,n⟩:=x;obtain⟨q,o⟩:=y;have g:xs=q:=by simpa using h
  subst g;have d:=zek ((xs,n)::r) ((xs,o)::s) ha hb;rw[zpd]at d;rcases Qa.1 c with rfl|c
  ·exact⟨ha.of_head.symm,hb.of_head.symm⟩
  obtain⟨e,f⟩:=ih ha.tail hb.tail p c;have j:=zck ((Qb.1 d).1 p c);rw[zfg (x:=(xs,n)) j,zfg (x:=(xs,o)) j];exact⟨e,f⟩
 | case5 x r y s h g ih =>
  intro ha hb p c;have d:=zek (x::r) (y::s) ha hb;rw[zpe r s (by simpa using h) g]at d;rcases Qa.1 c with rfl|c
  ·refine⟨ha.of_head.symm,(zgi fun m i=>?_).symm⟩;rcases Qa.1 i with rfl|i
   ·exact zjt g
   exact zjt (zay g (hb.head m i))
  obtain⟨e,f⟩:=ih ha.tail hb p c;rw[zfg (zck ((Qb.1 d).1 p c))];exact⟨e,f⟩
 | case6 x r y s h g ih =>
  intro ha hb p c
  have l:ltS y.1 x.1=true:=by
   rcases zcj x.1 y.1 with k|k|k
   ·exact absurd k g
   ·exact absurd (by simpa using k) h
   exact k
  have d:=zek (x::r) (y::s) ha hb;rw[zpf r s (by simpa using h) (by simpa using g)]at d;rcases Qa.1 c with rfl|c
  ·refine⟨(zgi fun m i=>?_).symm,hb.of_head.symm⟩;rcases Qa.1 i with rfl|i
   ·exact zjt l
   exact zjt (zay l (ha.head m i))
  obtain⟨e,f⟩:=ih ha hb.tail p c;rw[zfg (x:=y) (zck ((Qb.1 d).1 p c))];exact⟨e,f⟩
theorem znz (a b:List Mark)(s:Str):(∃m∈a,m.1=s) ∨ (∃m∈b,m.1=s)->∃p∈za3 a b,p.1=s:=by
 fun_induction za3 a b with
 | case1=>simp
 | case2 x r ih =>
  rintro(⟨m,hm,e⟩|⟨m,hm,e⟩)
  ·rcases Qa.1 hm with rfl|hm
   ·exact⟨_,Qg,e⟩
   obtain⟨p,d,c⟩:=ih (.inl ⟨m,hm,e⟩);exact⟨p,by simp only[Qa];exact .inr d,c⟩
  simp at hm
 | case3 y s' ih =>
  rintro(⟨m,hm,e⟩|⟨m,hm,e⟩)
  ·simp at hm
  rcases Qa.1 hm with rfl|hm
  ·exact⟨_,Qg,e⟩
  obtain⟨p,d,c⟩:=ih (.inr ⟨m,hm,e⟩);exact⟨p,by simp only[Qa];exact .inr d,c⟩
 | case4 x r y s' h ih =>
  have f:x.1=y.1:=by simpa using h
  rintro(⟨m,hm,e⟩|⟨m,hm,e⟩)
  ·rcases Qa.1 hm with rfl|hm
   ·exact⟨_,Qg,f.symm.trans e⟩
   obtain⟨p,d,c⟩:=ih (.inl ⟨m,hm,e⟩);exact⟨p,by simp only[Qa];exact .inr d,c⟩
  rcases Qa.1 hm with rfl|hm
  ·exact⟨_,Qg,e⟩
  obtain⟨p,d,c⟩:=ih (.inr ⟨m,hm,e⟩);exact⟨p,by simp only[Qa];exact .inr d,c⟩
 | case5 x r y s' h f ih =>
  rintro(⟨m,hm,e⟩|⟨m,hm,e⟩)
  ·rcases Qa.1 hm with rfl|hm
   ·exact⟨_,Qg,e⟩
   obtain⟨p,d,c⟩:=ih (.inl ⟨m,hm,e⟩);exact⟨p,by simp only[Qa];exact .inr d,c⟩
  obtain⟨p,d,c⟩:=ih (.inr ⟨m,hm,e⟩);exact⟨p,by simp only[Qa];exact .inr d,c⟩
 | case6 x r y s' h f ih =>
  rintro(⟨m,hm,e⟩|⟨m,hm,e⟩)
  ·obtain⟨p,d,c⟩:=ih (.inl ⟨m,hm,e⟩);exact⟨p,by simp only[Qa];exact .inr d,c⟩
  rcases Qa.1 hm with rfl|hm
  ·exact⟨_,Qg,e⟩
  obtain⟨p,d,c⟩:=ih (.inr ⟨m,hm,e⟩);exact⟨p,by simp only[Qa];exact .inr d,c⟩
theorem zcp (a b:List Mark):GoodM (za0 a b):=by
 have f:=zeq a;have g:=zeq b;refine⟨?_,fun m c=>?_⟩
 ·unfold za0 SortedM;rw[Yb];exact zek _ _ f g
 unfold za0 at c;obtain⟨p,h,rfl⟩:=Ya.1 c;obtain⟨i,j⟩:=zim _ _ f g p h;rcases ze6 _ _ p h with⟨m,c,e⟩|⟨m,c,e⟩
 ·have h1:=f.2 m c;have d:=f.1.of c h1.1;rw[e]at h1 d;exact⟨h1.1,by show 1<=max p.2.1 p.2.2;rw[i,d];omega⟩
 have h1:=g.2 m c;have d:=g.1.of c h1.1;rw[e]at h1 d;exact⟨h1.1,by show 1<=max p.2.1 p.2.2;rw[j,d];omega⟩
theorem zfs (a b:List Mark)(s:Str):ofM (za0 a b) s=max (ofM a s) (ofM b s):=by
 have k:=zeq a;have l:=zeq b;rw[<- zfr a,<- zfr b]
 by_cases h0:s = []
 ·subst h0;rw[zh5,zh5,zh5];rfl
 by_cases g:(∃m∈zbu a,m.1=s) ∨ (∃m∈zbu b,m.1=s)
 ·obtain⟨p,d,e⟩:=znz _ _ s g;obtain⟨h,i⟩:=zim _ _ k l p d;have c:(p.1,max p.2.1 p.2.2)∈za0 a b:=Ya.2 ⟨p,d,rfl⟩;have:=(zcp a b).1.of c (by rw[e];exact h0);rw[e]at this h i;rw[this,h,i]
 have h1:∀m∈zbu a,m.1≠s:=fun m c e=>g (.inl ⟨m,c,e⟩)
 have j:∀m∈zbu b,m.1≠s:=fun m c e=>g (.inr ⟨m,c,e⟩)
 rw[zgi h1,zgi j];refine zgi fun m c e=>?_
 unfold za0 at c;obtain⟨p,d,rfl⟩:=Ya.1 c;rcases ze6 _ _ p d with⟨m,c,f⟩|⟨m,c,f⟩
 ·exact h1 m c (f.trans e)
 exact j m c (f.trans e)
theorem coversM_iff {a b:List Mark}:zbm a b=true↔∀s,ofM b s<=ofM a s:=by
 have h:=zeq a;have i:=zeq b;unfold zbm;rw[Yd]
 constructor
 ·intro d s;rw[<- zfr a,<- zfr b]
  by_cases h0:ofM (zbu b) s=0
  ·omega
  obtain⟨m,k,e,-,l⟩:=ziz h0;obtain⟨p,c,j⟩:=znz (zbu a) (zbu b) s (.inr ⟨m,k,e⟩);obtain⟨f,g⟩:=zim _ _ h i p c;have:=d p c;simp at this;rw[j]at f g;omega
 intro d p c;obtain⟨f,g⟩:=zim _ _ h i p c;have:=d p.1;rw[<- zfr a,<- zfr b]at this;simp;omega
theorem ze7 (l:List Mark)(s:Str):GoodM (zau l s):=by
 have a:=zeq l;exact⟨a.1.sublist List.filter_sublist,fun m b=>a.2 m (Qh.1 b).1⟩
theorem zcs (l:List Mark)(s t:Str):ofM (zau l s) t=if t=s then 0 else ofM l t:=by
 rw[<- zfr l];unfold zau
 split
 ·rename_i b;subst b
  exact zgi fun m a e=>by have:=(Qh.1 a).2;simp[e]at this
 rename_i b;refine zme fun x=>?_
 rw[ofM_le,ofM_le]
 constructor
 ·intro k m a h1 c;exact k m (Qh.2 ⟨a,by simp[h1,b]⟩) h1 c
 exact fun k m a=>k m (Qh.1 a).1
theorem zft (l:List Mark)(s:Str)(n:Nat):GoodM (setM l s n):=zcp _ _
theorem ztw (s:Str)(n:Nat)(t:Str):ofM [(s,n)] t=if t=s/\s≠[]then n else 0:=by
 unfold ofM
 by_cases h:t=s
 ·subst h
  by_cases h0:t = []
  ·subst h0;simp
  simp[h0]
 have:s≠t:=fun e=>h e.symm
 simp[this,h]
theorem zho (l:List Mark)(s:Str)(n:Nat)(t:Str):ofM (setM l s n) t=if t=s then(if s = []then 0 else n)else ofM l t:=by
 unfold setM;rw[zfs,zcs,ztw]
 by_cases h:t=s
 ·by_cases h0:s = []<;>simp[h,h0]
 simp[h]
theorem zlo:∀(l:List Mark) (last:Str),zd5 last l=true↔(∀m∈l,ltS last m.1=true)/\SortedM l/\∀m∈l,1<=m.2/\m.2<=281474976710656
 | [],_=>by simp[zd5,SortedM]
 | m::r,last=>by
  have d:(leS m.1 last=false)↔ltS last m.1=true:=by
   unfold leS;rcases zfp m.1 last with⟨q1,b,q3,q4,c⟩|q|⟨q1,b,q3,q4,c⟩
   ·simp only[ltS]at *;simp[q1,b]
   ·have:=zap last;simp only[ltS]at *;simp[q,this]
   simp only[ltS]at *;simp[q1,b,c]
  simp only[zd5,Bool.and_eq_true,Bool.not_eq_true',decide_eq_true_eq,zlo r m.1,d]
  constructor
  ·rintro⟨⟨⟨h1,h2⟩,h3⟩,h4,h5,h6⟩;refine⟨fun y a=>?_,Qb.2 ⟨h4,h5⟩,fun y a=>?_⟩
   ·rcases Qa.1 a with rfl|a
    ·exact h1
    exact zay h1 (h4 y a)
   rcases Qa.1 a with rfl|a
   ·exact⟨h2,h3⟩
   exact h6 y a
  rintro⟨h1,h2,h3⟩;obtain⟨e,f⟩:=Qb.1 h2;exact⟨⟨⟨h1 m (by simp),(h3 m (by simp)).1⟩,(h3 m (by simp)).2⟩,e,f,fun y a=>h3 y (by simp[a])⟩
theorem mayM_iff {l:List Mark}:mayM l=true↔l.length<=512/\GoodM l/\∀m∈l,m.2<=281474976710656:=by
 unfold mayM;rw[Bool.and_eq_true,decide_eq_true_eq,zlo]
 constructor
 ·rintro⟨h0,h1,h2,h3⟩;exact⟨h0,⟨h2,fun m a=>⟨fun e=>(by have:=h1 m a;rw[e,yay]at this;cases this),(h3 m a).1⟩⟩,fun m a=>(h3 m a).2⟩
 rintro⟨h0,⟨h1,h2⟩,h3⟩;exact⟨h0,fun m a=>yaz (h2 m a).1,h1,fun m a=>⟨(h2 m a).2,h3 m a⟩⟩
theorem zpi {l:List Mark}(h:GoodM l):za0 l []=l:=(zcp _ _).ext h fun s=>by rw[zfs,zff];omega
theorem zka (l:List Mark):za0 l []=zbu l:=(zcp _ _).ext (zeq _) fun s=>by rw[zfs,zff,zfr];omega
end
section
open Go.RowKit Go.Shelf
theorem zsp (m:Mark)(s:Str)(W:Xg):Calls Tryz.prog 204 #[Xd #[St m.1,U m.2],St s] W fun e w'=>e=Xf (I (cmpS m.1 s))/\Ext W w':=by
 have a:=zH zhl;go_enter Tryz.func204,Tryz.ntmps204;go_wp2_with fail;refine(a.out _ _ _).mono ?_;rintro e w'⟨rfl,rfl⟩;go_wp2;go_ret;exact⟨rfl,(Xi _).alloc _⟩
def Cut (l:List Str)(s:Str)(i j:Nat):Prop:=(∀k x,k<i->l[k]? = some x->ltS x s=true)/\(∀k x,j<=k->l[k]? = some x->ltS x s=false)
def RiseS (l:List Str):Prop:=l.Pairwise fun a b=>ltS a b=true
theorem RiseS.lt {l:List Str}(a:RiseS l){i j:Nat}{x y:Str}(c:i<j)(d:l[i]? = some x)(e:l[j]? = some y):ltS x y=true:=by
 obtain⟨h1,rfl⟩:=Qf.1 d;obtain⟨b,rfl⟩:=Qf.1 e;exact List.pairwise_iff_getElem.1 a i j h1 b c
theorem Cut.left {l:List Str}{s x:Str}{i j a:Nat}(hR:RiseS l)(e:Cut l s i j)(d:l[a]? = some x)(c:ltS x s=true):Cut l s (a+1) j:=by
 refine⟨fun k y hk b=>?_,e.2⟩;rcases Nat.lt_or_ge k a with h1|h1
 ·exact zay (hR.lt h1 b d) c
 obtain rfl:k=a:=by omega
 rw[d]at b;cases b;exact c
theorem Cut.right {l:List Str}{s x:Str}{i j a:Nat}(hR:RiseS l)(f:Cut l s i j)(e:l[a]? = some x)(b:ltS x s=false):Cut l s i a:=by
 refine⟨f.1,fun k y hk c=>zbt fun d=>?_⟩;rcases Nat.lt_or_ge a k with h1|h1
 ·rw[zay (hR.lt h1 e c) d]at b;cases b
 obtain rfl:k=a:=by omega
 rw[e]at c;cases c;rw[b]at d;cases d
theorem zpj {l:List Mark}(h:SortedM l):RiseS (l.map (·.1)):=by unfold RiseS;rw[Yb];exact h
def Found (l:List Str)(s:Str)(i:Nat)(is:Bool):Prop:=i<=l.length/\Cut l s i i/\is=(l[i]?==some s)
theorem Found.yes {l:List Str}{s:Str}{i:Nat}(h:Found l s i true):l[i]? = some s:=by have:=h.2.2;simpa using this.symm
theorem Found.no {l:List Str}{s:Str}{i:Nat}(hR:RiseS l)(a:Found l s i false):s∉l:=fun e=>by
 obtain⟨k,hk⟩:=List.getElem?_of_mem e;rcases Nat.lt_trichotomy k i with h1|h1|h1
 ·have:=a.2.1.1 k s h1 hk;rw[zap]at this;cases this
 ·subst h1;have:=a.2.2;rw[hk]at this;simp at this
 have d:i<l.length:=Nat.lt_trans h1 (Qf.1 hk).1;have c:l[i]? = some l[i]:=Ql d;have b:=a.2.1.2 i _ (Qc _) c;rw[hR.lt h1 c hk]at b;cases b
theorem zq4 {S:Nat->Prop}{v:Xh}{l:List Mark}{w:Xg}(s:Str)(D:Sl markT w S v l)(hR:SortedM l)(ac:l.length<=1099511627776) :
  Calls Tryz.prog 203 #[v,St s,.func (.func 204) #[] #[]] w fun e w'=>∃(i:Nat) (is:Bool),e=Xf (.tuple #[I i,Xc is])/\Found (l.map (·.1)) s i is/\Ext w w':=by
 have M:=D;obtain⟨A,c,rfl,h1,Y⟩:=D.form;have X:∀args w,(callFunc 204 args).run Tryz.prog w=.ok (.enter 204 args) w:=enters_of Tryz.func204 (by kernel_rfl) rfl;have G:=zH zsp;have J:=zH (zpj hR)
 have F:=zH (fun(k:Nat) (m:Mark) (wr:Xg) (d:Ext w wr) (f:l[k]? = some m)=>by
  have U:=(Qf.1 f).1
  have W:l=l.take k++m::l.drop (k+1):=by have e:=(Qf.1 f).2;rw[<- e,List.getElem_cons_drop,List.take_append_drop]
  have:=zf1 M d W
  rwa[show(l.take k).length=k by simp;omega]at this)
 clear D M hR;go_enter Tryz.func203,Tryz.ntmps203;go_wp2_with fail
 go_loopw [9,10] (fun a b wr=>∃i j:Nat,a=I i/\b=I j/\i<=j/\j<=l.length/\Hid (Cut (l.map (·.1)) s i j)/\Ext w wr) (fun a b _=>(intOf b).toNat-(intOf a).toNat)
 case atStart=>exact⟨0,l.length,rfl,rfl,Nat.zero_le _,Qc _,zH ⟨fun k x hk=>by omega,fun k x hk p=>by have:=(Qf.1 p).1;simp at this;omega⟩,Xi _⟩
 obtain⟨i,j,rfl,rfl,ab,K,hcut,p⟩:=hrel
 by_cases U:i<j
 ·obtain⟨d,Z⟩:∃d,(i+j) / 2=d:=⟨_,rfl⟩
  have R:i<=d:=(by omega);have aa:d<j:=(by omega);have T:d<l.length:=(by omega);obtain⟨m,f⟩:∃m,l[d]? = some m:=⟨_,Ql T⟩
  obtain⟨b,o,rfl,P,Q⟩:=F.out d m wr p f;have t:=zH (G.out m s wr);have O:=zH f;have g:=zH p;clear f p;have ae:IntKind.i64.wrap ((i:Int)+j)=(i:Int)+j:=IntWalk.i64_in _ (by omega);have L:∀n:Int,n=(i+j) / 2->n=d:=fun n ad=>by omega
  have H:=zH L;clear L;have y:(l.map (·.1))[d]? = some m.1:=(by rw[Yc,O.out];rfl);have u:=zH y;clear y;cases h:ltS m.1 s
  ·have V:¬cmpS m.1 s<0:=fun k=>by rw[cmpS_lt.1 k]at h;cases h
   have B:=zH h;clear h;go_wp2_with fail;refine t.out.mono ?_;rintro e E⟨rfl,q⟩;go_wp2_with fail;go_roundw
   case rel=>exact⟨i,d,rfl,congrArg (Value.int .i64) (H.out _ rfl),R,by omega,zH (Cut.right J.out hcut.out u.out B.out),g.out.trans q⟩
   case measure=>simp only[intOf];omega
  have V:cmpS m.1 s<0:=cmpS_lt.2 h;have B:=zH h;clear h;go_wp2_with fail;refine t.out.mono ?_;rintro e E⟨rfl,q⟩;go_wp2_with fail;go_roundw
  case rel=>exact⟨d+1,j,congrArg (Value.int .i64) (by have:=H.out _ rfl;omega),rfl,by omega,K,zH (Cut.left J.out hcut.out u.out B.out),g.out.trans q⟩
  case measure=>simp only[intOf];omega
 obtain rfl:i=j:=by omega
 have g:=zH p;clear p
 by_cases C:i<l.length
 ·obtain⟨m,f⟩:∃m,l[i]? = some m:=⟨_,Ql C⟩
  obtain⟨b,o,rfl,P,Q⟩:=F.out i m wr g.out f;have t:=zH (G.out m s wr);have y:(l.map (·.1))[i]? = some m.1:=(by rw[Yc,f];rfl);have u:=zH y;clear y f
  by_cases r:m.1=s
  ·have h0:cmpS m.1 s=0:=cmpS_eq.2 r;have z:=zH r;have N:=zH h0;clear r h0;go_wp2_with fail;refine t.out.mono ?_;rintro e E⟨rfl,q⟩;rw[N.out];go_wp2_with fail
   go_ret2
   exact⟨i,true,rfl,⟨by simpa using Nat.le_of_lt C,hcut.out,by rw[u.out,z.out];simp⟩,g.out.trans q⟩
  have h0:(cmpS m.1 s==0)=false:=by rw[beq_eq_false_iff_ne];exact fun k=>r (cmpS_eq.1 k)
  have z:=zH r;clear r;go_wp2_with fail;refine t.out.mono ?_;rintro e E⟨rfl,q⟩;go_wp2_with fail
  go_ret2
  exact⟨i,false,rfl,⟨by simpa using Nat.le_of_lt C,hcut.out,by rw[u.out];simp[z.out]⟩,g.out.trans q⟩
 go_wp2_with fail
 go_ret2
 exact⟨i,false,rfl,⟨by simpa using K,hcut.out,by rw[List.getElem?_eq_none (by simp;omega)];simp⟩,g.out⟩
end
end Go.Proofs.YtaabaflgeljbjaaGreat
