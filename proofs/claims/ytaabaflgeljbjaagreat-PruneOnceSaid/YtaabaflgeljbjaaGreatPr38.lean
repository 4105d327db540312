/- Package bag: Turn. -/
import Derived.Test.YtaabaflgeljbjaaGreatPr22
import Derived.Test.YtaabaflgeljbjaaGreatPr37
import Derived.Test.YtaabaflgeljbjaaGreatPr06
set_option linter.unusedVariables false
set_option linter.unusedSimpArgs false
set_option maxRecDepth 100000
set_option maxHeartbeats 40000000
namespace Go.Proofs.YtaabaflgeljbjaaGreat
section
open Go.RowKit
theorem zt1 (w:World) (T:Nat) (xs:List Value):RowIs (w.alloc (.cells xs.toArray T)) w.heap.size T xs []:=by
 unfold RowIs;rw [List.append_nil];exact Go.heap_alloc_new w _
def zci (p:PrD) (q:zan):zan:=if q.2.1=p.1 then (q.1,p.2.2.1,addU p.2.2.2 q.2.2) else q
def zcr (l:List Item) (p:PrD):List Item:=za7 (setL ((setL (zab l)).map (zci p)))
theorem zyg {S:Nat->Prop} {v:Value} {l:List Item} {w:World} (p:PrD) (hv:Sl itemT w S v l) (hl:(zab l).length<=1099511627776) :
  Calls Tryz.prog 93 #[v,prV p] w fun e w'=>∃ v',e=.returned v'/\OwnL itemT 57 w' w.heap.size (fun b=>w.heap.size<=b) v' (zcr l p)/\Ext w w':=by
 obtain⟨b,c,o,n⟩:=p;obtain⟨W0,hW0⟩:∃ W0,(w.alloc (.cells #[St b,U c,St o,U n] 29)).alloc (.map #[] 0)=W0:=⟨_,rfl⟩
 have hx0:Ext w W0:=by rw [<- hW0];exact ((Ext.refl w).alloc _).alloc _
 have rP0:RowIs W0 w.heap.size 29 [St b,U c,St o,U n] []:=by rw [<- hW0];exact (zt1 w _ _).alloc _
 have hs0:SetOf zar W0 (w.heap.size+1) []:=by rw [<- hW0];have:=SetOf.new (K:=zar) (w.alloc (.cells #[St b,U c,St o,U n] 29));rwa [World.size_alloc] at this
 have HOF:=zH (zkc (hv.ext (by decide) hx0));have HTB:=zH (show zcr l (b,c,o,n)=za7 (setL ((setL (zab l)).map (zci (b,c,o,n)))) from rfl);have hmm:=@run_makeMap Tryz.prog;have hsz0:W0.heap.size=w.heap.size+2:=by rw [<- hW0];simp
 have HLEN:=zH (Nat.le_trans (zgj (zab l)) hl);obtain⟨A,cc,rfl,-,-⟩:=hv.form;clear hv hl;go_enter Tryz.func93,Tryz.ntmps93;go_wp2_with fail;clear hW0 hmm;refine HOF.out.mono ?_;rintro e W1 ⟨pb,rfl,hpb,hS,hx1⟩;generalize setL (zab l)=ks at *;obtain⟨W2,hr,hR,hx2,hsz⟩:=zcz (P:=Tryz.prog) Tryz.underlying217 hS;have HND:=zH hS.nodup;have HR:=zH hR;have HX2:=zH ((hx0.trans hx1).trans hx2);have HN:=zH ((hs0.ext hx1).ext hx2);have HP:=zH ((rP0.ext hx1).ext hx2);have hs1:=hx1.size;have hpit:=hS.lt;obtain⟨it,hit⟩:∃ it,W1.heap.size=it:=⟨_,rfl⟩
 rw [hit] at hr HR hsz hs1 hpit;clear hR hx1 hx2 hS hs0 rP0 hx0 hit HOF;go_wp2_with fail
 go_loopw [11] (fun u wr=>∃ done rest,(done++rest.map Prod.fst).Perm ks/\RangeIs zar zeg wr pb it (ks.map fun k=>(k,())) rest/\SetOf zar wr (w.heap.size+1) (setL (done.map (zci (b,c,o,n))))/\RowIs wr w.heap.size 29 [St b,U c,St o,U n] []/\Ext w wr) (fun _ wr=>wr.rangeLeft pb it)
 case atStart=>exact⟨[],_,by rw [ze3];exact .refl _,HR.out,HN.out,HP.out,HX2.out⟩
 case round =>
  obtain⟨done,rest,hperm,hR,hS,hP,hx⟩:=hrel;rcases zdh (P:=Tryz.prog) 0 hR with ⟨rfl,hrun⟩ | ⟨r1,q,r2,wn,rfl,hrun,hR2,ht,hent⟩
  ·have hnx:∀ ty,(Instr.next (.pointer (some ⟨it,0,none⟩)) false ty).run Tryz.prog wr=.ok (.tuple #[.bool false]) wr:=fun ty=>hrun
   have hpm:done.Perm ks:=by simpa using hperm
   have hpm2:(setL (done.map (zci (b,c,o,n)))).Perm (setL (ks.map (zci (b,c,o,n)))):=zdl (zdm _) (zdm _) fun x=>by rw [mem_setL,mem_setL];exact (hpm.map _).mem_iff
   have HPM:=zH (zfe hpm2);have HI:=zH (zh8 hS (Nat.le_trans (zgj _) (by rw [List.length_map,hpm.length_eq];exact HLEN.out)));have HX:=zH hx;clear hperm hR hrun hS hx hP hpm hpm2 HND HLEN HR HN HP HX2;go_wp2_with fail;refine HI.out.mono ?_;rintro e W5 ⟨v',rfl,hv,hx5⟩;rw [HPM.out,<- HTB.out] at hv;have hsz:=HX.out.size;have HV:=zH ((hv.lower hsz).mono (fun b _ hb=>Nat.le_trans hsz hb));obtain⟨Az,cz,rfl,-,-⟩:=hv.form;clear hv;go_wp2_with fail;go_ret;exact⟨_,rfl,HV.out,HX.out.trans hx5⟩
  ·have hnx:∀ ty,(Instr.next (.pointer (some ⟨it,0,none⟩)) false ty).run Tryz.prog wr=.ok (.tuple #[.bool true,zar q.1,zeg q.2]) wn:=fun ty=>hrun
   have hxn:=hx.turned ht (by omega);have hSn:SetOf zar wn (w.heap.size+1) (setL (done.map (zci (b,c,o,n)))):=hS.keep (ht.other _ (by omega));have hPn:RowIs wn w.heap.size 29 [St b,U c,St o,U n] []:=hP.keep (ht.other _ (by omega));obtain⟨⟨tx,by_,k⟩,u⟩:=q;obtain⟨W4,hW4⟩:∃ X,wn.alloc (.cells #[St tx,St by_,U k] 220)=X:=⟨_,rfl⟩
   obtain⟨z,hz⟩:∃ z,wn.heap.size=z:=⟨_,rfl⟩
   have hx4:Ext wn W4:=(by rw [<- hW4];exact (Ext.refl wn).alloc _);have rQ:RowIs W4 z 220 [St tx,St by_,U k] []:=(by rw [<- hW4,<- hz];exact zt1 wn _ _);have HML:=zH hR.left_eq;have hrs:it < wn.heap.size:=hR2.lt;have HR4:=zH (hR2.ext hx4);have HX4:=zH (hxn.trans hx4);have hns:=hSn.lt;have hS4:=hSn.ext hx4;have hP4:=hPn.ext hx4;obtain⟨c0,c1,c2⟩:=rQ.p3;have p0:=hP4.cell (j:=0) rfl;have p2:=hP4.cell (j:=2) rfl;have p3:=hP4.cell (j:=3) rfl;rw [hz] at hrs hns
   have HPM2:=zH (show ((done++[(tx,by_,k)])++(r1++r2).map Prod.fst).Perm ks by have h1:=hperm;simp only [List.map_append,List.map_cons] at h1 ⊢;rw [List.append_assoc];exact ((List.perm_middle (l₁:=r1.map Prod.fst) (a:=(tx,by_,k)) (l₂:=r2.map Prod.fst)).symm.append_left done).trans h1)
   clear hperm hR hrun hR2 hx ht hxn hSn hS hP hPn hx4 HND HLEN HR HN HP HX2 HTB
   by_cases hb:by_=b
   ·subst hb
    have HF:=zH (show addK (setL (done.map (zci (by_,c,o,n)))) (tx,o,addU n k)=setL ((done++[(tx,by_,k)]).map (zci (by_,c,o,n))) by rw [List.map_append,List.map_singleton,zh6];simp [zci])
    have HWA:IntKind.u64.wrap ((n:Int)+(k:Int))=((addU n k:Nat):Int):=(by rw [zca];unfold addU;omega);obtain⟨m,hm⟩:∃ m,addU n k=m:=⟨_,rfl⟩
    rw [hm] at HF HWA;clear hm;obtain⟨W5,hW5⟩:∃ X,(W4.setCell ⟨z,1,none⟩ (St o)).setCell ⟨z,2,none⟩ (U m)=X:=⟨_,rfl⟩
    have rQ5:RowIs W5 z 220 [St tx,St o,U m] []:=(by rw [<- hW5];exact (rQ.set (j:=1) (by simp) (St o)).set (j:=2) (by simp) (U m));have hk5:∀ b,b ≠ z->W5.heap[b]? = W4.heap[b]?:=fun b hb=>by rw [<- hW5,Below.heap_setCell _ _ _ _ hb,Below.heap_setCell _ _ _ _ hb]
    obtain⟨d0,d1,d2⟩:=rQ5.p3;have f1:=rQ.frozen 1;have f2:=rQ.frozen 2;obtain⟨w3,hup,hs4,ht4⟩:=zc9 (P:=Tryz.prog) Tryz.underlying217 zjd (hS4.keep (hk5 _ (by omega))) (tx,o,m);have hX5:Ext w W5:=(by rw [<- hW5];exact (HX4.out.set (by simp;omega) _).set (by simp;omega) _);have hR5:RangeIs zar zeg w3 pb it (ks.map fun k=>(k,())) (r1++r2):=HR4.out.keep ((ht4.other pb (by omega)).trans (hk5 _ (by omega))) ((ht4.other it (by omega)).trans (hk5 _ (by omega)));have HS4:=zH hs4;have HP5:=zH ((hP4.keep (hk5 _ (by omega))).keep (ht4.other _ (by omega)));have HX5:=zH (hX5.turned ht4 (by omega));have HR5:=zH hR5;clear hs4 ht4 hX5 hR5 rQ rQ5 hk5 hS4 hP4 HR4 HX4;go_wp2_with fail;go_roundw
    case rel=>exact⟨done++[(tx,by_,k)],r1++r2,HPM2.out,HR5.out,by rw [<- HF.out];exact HS4.out,HP5.out,HX5.out⟩
    case measure=>rw [HML.out,HR5.out.left_eq];simp
   ·have hbb:(by_ == b)=false:=by simpa using hb
    have HF:=zH (show addK (setL (done.map (zci (b,c,o,n)))) (tx,by_,k)=setL ((done++[(tx,by_,k)]).map (zci (b,c,o,n))) by rw [List.map_append,List.map_singleton,zh6];simp [zci,hb])
    obtain⟨w3,hup,hs4,ht4⟩:=zc9 (P:=Tryz.prog) Tryz.underlying217 zjd hS4 (tx,by_,k);have hR5:RangeIs zar zeg w3 pb it (ks.map fun k=>(k,())) (r1++r2):=HR4.out.keep (ht4.other pb (by omega)) (ht4.other it (by omega));have HS4:=zH hs4;have HP5:=zH (hP4.keep (ht4.other _ (by omega)));have HX5:=zH (HX4.out.turned ht4 (by omega));have HR5:=zH hR5;clear hs4 ht4 hR5 rQ hS4 hP4 HR4 HX4 hb;go_wp2_with fail;go_roundw
    case rel=>exact⟨done++[(tx,by_,k)],r1++r2,HPM2.out,HR5.out,by rw [<- HF.out];exact HS4.out,HP5.out,HX5.out⟩
    case measure=>rw [HML.out,HR5.out.left_eq];simp
end
end Go.Proofs.YtaabaflgeljbjaaGreat
