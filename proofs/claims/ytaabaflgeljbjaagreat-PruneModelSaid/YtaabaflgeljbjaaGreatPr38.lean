/- Package bag: Turn. -/
import Derived.Test.YtaabaflgeljbjaaGreatPr22
import Derived.Test.YtaabaflgeljbjaaGreatPr37
import Derived.Test.YtaabaflgeljbjaaGreatPr06
set_option linter.unusedVariables false
set_option linter.unusedSimpArgs false
set_option maxRecDepth 100000
set_option maxHeartbeats 40000000
namespace Go.Proofs.YtaabaflgeljbjaaGreat
section
open Go.RowKit
theorem zt1 (w:World)(T:Nat)(xs:List Value):RowIs (w.alloc (.cells xs.toArray T)) w.heap.size T xs []:=by
 unfold RowIs;rw[List.append_nil];exact Go.heap_alloc_new w _
def zci (p:PrD)(q:zan):zan:=if q.2.1=p.1 then(q.1,p.2.2.1,addU p.2.2.2 q.2.2)else q
def zcr (l:List Item)(p:PrD):List Item:=za7 (setL ((setL (zab l)).map (zci p)))
theorem zyg {S:Nat->Prop}{v:Value}{l:List Item}{w:World}(p:PrD)(h:Sl itemT w S v l)(a2:(zab l).length<=1099511627776) :
  Calls Tryz.prog 93 #[v,prV p] w fun e w'=>∃v',e=.returned v'/\OwnL itemT 57 w' w.heap.size (fun b=>w.heap.size<=b) v' (zcr l p)/\Ext w w':=by
 obtain⟨b,c,o,n⟩:=p;obtain⟨s,E⟩:∃s,(w.alloc (.cells #[St b,U c,St o,U n] 29)).alloc (.map #[] 0)=s:=⟨_,rfl⟩
 have an:Ext w s:=by rw[<- E];exact((Ext.refl w).alloc _).alloc _
 have a8:RowIs s w.heap.size 29 [St b,U c,St o,U n] []:=by rw[<- E];exact(zt1 w _ _).alloc _
 have a5:SetOf zar s (w.heap.size+1) []:=by rw[<- E];have:=SetOf.new (K:=zar) (w.alloc (.cells #[St b,U c,St o,U n] 29));rwa[World.size_alloc]at this
 have au:=zH (zkc (h.ext (by decide) an));have aw:=zH (show zcr l (b,c,o,n)=za7 (setL ((setL (zab l)).map (zci (b,c,o,n))))from rfl);have bf:=@run_makeMap Tryz.prog;have b0:s.heap.size=w.heap.size+2:=by rw[<- E];simp
 have aa:=zH (Nat.le_trans (zgj (zab l)) a2);obtain⟨A,bs,rfl,-,-⟩:=h.form;clear h a2;go_enter Tryz.func93,Tryz.ntmps93;go_wp2_with fail;clear E bf;refine au.out.mono ?_;rintro e be⟨t,rfl,bz,f,I⟩;generalize setL (zab l)=r at *;obtain⟨bq,bj,hR,Z,W⟩:=zcz (P:=Tryz.prog) Tryz.underlying217 f;have ar:=zH f.nodup;have M:=zH hR;have af:=zH ((an.trans I).trans Z);have ab:=zH ((a5.ext I).ext Z);have ac:=zH ((a8.ext I).ext Z);have bm:=I.size;have bi:=f.lt;obtain⟨it,a1⟩:∃it,be.heap.size=it:=⟨_,rfl⟩
 rw[a1]at bj M W bm bi;clear hR I Z f a5 a8 an a1 au;go_wp2_with fail
 go_loopw [11] (fun u wr=>∃done ao,(done++ao.map Prod.fst).Perm r/\RangeIs zar zeg wr t it (r.map fun k=>(k,())) ao/\SetOf zar wr (w.heap.size+1) (setL (done.map (zci (b,c,o,n))))/\RowIs wr w.heap.size 29 [St b,U c,St o,U n] []/\Ext w wr) (fun _ wr=>wr.rangeLeft t it)
 case atStart=>exact⟨[],_,by rw[ze3];exact .refl _,M.out,ab.out,ac.out,af.out⟩
 obtain⟨done,ao,V,hR,f,ai,Y⟩:=hrel;rcases zdh (P:=Tryz.prog) 0 hR with⟨rfl,G⟩|⟨r1,q,y,g,rfl,G,aj,X,bx⟩
 ·have bh:∀L,(Instr.next (.pointer (some ⟨it,0,none⟩)) false L).run Tryz.prog wr=.ok (.tuple #[.bool false]) wr:=fun L=>G
  have am:done.Perm r:=by simpa using V
  have a4:(setL (done.map (zci (b,c,o,n)))).Perm (setL (r.map (zci (b,c,o,n)))):=zdl (zdm _) (zdm _) fun x=>by rw[mem_setL,mem_setL];exact(am.map _).mem_iff
  have bb:=zH (zfe a4);have ba:=zH (zh8 f (Nat.le_trans (zgj _) (by rw[List.length_map,am.length_eq];exact aa.out)));have ax:=zH Y;clear V hR G f Y ai am a4 ar aa M ab ac af;go_wp2_with fail;refine ba.out.mono ?_;rintro e R⟨v',rfl,h,bo⟩;rw[bb.out,<- aw.out]at h;have W:=ax.out.size;have bc:=zH ((h.lower W).mono (fun b _ hb=>Nat.le_trans W hb));obtain⟨bp,bt,rfl,-,-⟩:=h.form;clear h;go_wp2_with fail;go_ret;exact⟨_,rfl,bc.out,ax.out.trans bo⟩
 have bh:∀L,(Instr.next (.pointer (some ⟨it,0,none⟩)) false L).run Tryz.prog wr=.ok (.tuple #[.bool true,zar q.1,zeg q.2]) g:=fun L=>G
 have a6:=Y.turned X (by omega);have ak:SetOf zar g (w.heap.size+1) (setL (done.map (zci (b,c,o,n)))):=f.keep (X.other _ (by omega));have ay:RowIs g w.heap.size 29 [St b,U c,St o,U n] []:=ai.keep (X.other _ (by omega));obtain⟨⟨tx,by_,k⟩,u⟩:=q;obtain⟨Q,az⟩:∃ah,g.alloc (.cells #[St tx,St by_,U k] 220)=ah:=⟨_,rfl⟩
 obtain⟨z,a7⟩:∃z,g.heap.size=z:=⟨_,rfl⟩
 have J:Ext g Q:=(by rw[<- az];exact(Ext.refl g).alloc _);have B:RowIs Q z 220 [St tx,St by_,U k] []:=(by rw[<- az,<- a7];exact zt1 g _ _);have aq:=zH hR.left_eq;have bk:it<g.heap.size:=aj.lt;have N:=zH (aj.ext J);have O:=zH (a6.trans J);have bg:=ak.lt;have T:=ak.ext J;have i:=ay.ext J;obtain⟨br,c1,c2⟩:=B.p3;have b1:=i.cell (j:=0) rfl;have b2:=i.cell (j:=2) rfl;have p3:=i.cell (j:=3) rfl;rw[a7]at bk bg
 have av:=zH (show((done++[(tx,by_,k)])++(r1++y).map Prod.fst).Perm r by have h1:=V;simp only[List.map_append,List.map_cons]at h1 ⊢;rw[List.append_assoc];exact((List.perm_middle (l₁:=r1.map Prod.fst) (a:=(tx,by_,k)) (l₂:=y.map Prod.fst)).symm.append_left done).trans h1)
 clear V hR G aj Y X a6 ak f ai ay J ar aa M ab ac af aw
 by_cases hb:by_=b
 ·subst hb
  have HF:=zH (show addK (setL (done.map (zci (by_,c,o,n)))) (tx,o,addU n k)=setL ((done++[(tx,by_,k)]).map (zci (by_,c,o,n))) by rw[List.map_append,List.map_singleton,zh6];simp[zci])
  have bd:IntKind.u64.wrap ((n:Int)+(k:Int))=((addU n k:Nat):Int):=(by rw[zca];unfold addU;omega);obtain⟨m,a3⟩:∃m,addU n k=m:=⟨_,rfl⟩
  rw[a3]at HF bd;clear a3;obtain⟨R,al⟩:∃ah,(Q.setCell ⟨z,1,none⟩ (St o)).setCell ⟨z,2,none⟩ (U m)=ah:=⟨_,rfl⟩
  have a9:RowIs R z 220 [St tx,St o,U m] []:=(by rw[<- al];exact(B.set (j:=1) (by simp) (St o)).set (j:=2) (by simp) (U m));have F:∀b,b≠z->R.heap[b]? = Q.heap[b]?:=fun b hb=>by rw[<- al,Below.heap_setCell _ _ _ _ hb,Below.heap_setCell _ _ _ _ hb]
  obtain⟨d0,d1,bu⟩:=a9.p3;have f1:=B.frozen 1;have bv:=B.frozen 2;obtain⟨ap,bn,H,d⟩:=zc9 (P:=Tryz.prog) Tryz.underlying217 zjd (T.keep (F _ (by omega))) (tx,o,m);have a0:Ext w R:=(by rw[<- al];exact(O.out.set (by simp;omega) _).set (by simp;omega) _);have D:RangeIs zar zeg ap t it (r.map fun k=>(k,())) (r1++y):=N.out.keep ((d.other t (by omega)).trans (F _ (by omega))) ((d.other it (by omega)).trans (F _ (by omega)));have ae:=zH H;have ad:=zH ((i.keep (F _ (by omega))).keep (d.other _ (by omega)));have ag:=zH (a0.turned d (by omega));have C:=zH D;clear H d a0 D B a9 F T i N O;go_wp2_with fail;go_roundw
  case rel=>exact⟨done++[(tx,by_,k)],r1++y,av.out,C.out,by rw[<- HF.out];exact ae.out,ad.out,ag.out⟩
  case measure=>rw[aq.out,C.out.left_eq];simp
 have bw:(by_==b)=false:=by simpa using hb
 have HF:=zH (show addK (setL (done.map (zci (b,c,o,n)))) (tx,by_,k)=setL ((done++[(tx,by_,k)]).map (zci (b,c,o,n))) by rw[List.map_append,List.map_singleton,zh6];simp[zci,hb])
 obtain⟨ap,bn,H,d⟩:=zc9 (P:=Tryz.prog) Tryz.underlying217 zjd T (tx,by_,k);have D:RangeIs zar zeg ap t it (r.map fun k=>(k,())) (r1++y):=N.out.keep (d.other t (by omega)) (d.other it (by omega));have ae:=zH H;have ad:=zH (i.keep (d.other _ (by omega)));have ag:=zH (O.out.turned d (by omega));have C:=zH D;clear H d D B T i N O hb;go_wp2_with fail;go_roundw
 case rel=>exact⟨done++[(tx,by_,k)],r1++y,av.out,C.out,by rw[<- HF.out];exact ae.out,ad.out,ag.out⟩
 case measure=>rw[aq.out,C.out.left_eq];simp
end
end Go.Proofs.YtaabaflgeljbjaaGreat
