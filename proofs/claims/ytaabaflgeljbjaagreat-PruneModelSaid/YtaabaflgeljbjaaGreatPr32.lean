/- Laws. -/
import Derived.Test.YtaabaflgeljbjaaGreatPr26
import Derived.Test.YtaabaflgeljbjaaGreatPr31
set_option linter.unusedVariables false
set_option linter.unusedSimpArgs false
set_option maxRecDepth 100000
set_option maxHeartbeats 40000000
namespace Go.Proofs.YtaabaflgeljbjaaGreat
open Go.Value renaming slice→Xa,pointer→Xb
open Go.Obj renaming cells→Xc
open Ext renaming refl→Xd
open Nat renaming le_trans→Qb,reduceAdd→Qc
open Go.RowKit.Below renaming heap_setCell→Qa
section
open Go.RowKit Go.Shelf
theorem zk2 {S:Nat->Prop}{s:State}{v1 v2 v3:Value}{w:World}(d:StAt w S s v1 v2 v3)(b6:SmallS s) :
  Calls Tryz.prog 39 #[stV v1 v2 v3] w fun r w'=>∃h z l,r=.returned (stV h z l)/\(Own w' w.heap.size 97 2 h s.all.length (s.all.flatMap zaj)/\Own w' w.heap.size 9 1 l s.pruned.length (s.pruned.flatMap strC) /\
   ∃m,w.heap.size<=m/\m<=w'.heap.size/\(∀b,zad h b ∨ zad l b->b<m)/\OwnL entryF 46 w' m (fun b=>m<=b/\¬zad z b) z s.entries)/\Ext w w':=by
 obtain⟨n,E,q⟩:=s;obtain⟨ab,af,ah,ao,ac,ag,rfl,rfl,rfl⟩:=d.fm;have b0:=d.entries;have b7:=zH (fun(pre post:List Entry) (m:Entry) (wr:World) (aa:Ext w wr) (T:E=pre++m::post)=>zea b0 aa T);have br:=zH d;have au:=zH b6;have bi:=((Xd w).alloc (Xc #[Xa ab n.length af,Xa ah E.length ao,Xa ac q.length ag] 26)).alloc (Xc #[Xa none 0 0,Xa none 0 0,Xa none 0 0] 26);have a0:=(zaf w 26 [Xa ab n.length af,Xa ah E.length ao,Xa ac q.length ag]).alloc (Xc #[Xa none 0 0,Xa none 0 0,Xa none 0 0] 26);have b5:=zaf (w.alloc (Xc #[Xa ab n.length af,Xa ah E.length ao,Xa ac q.length ag] 26)) 26 [Xa none 0 0,Xa none 0 0,Xa none 0 0];rw[World.size_alloc]at b5;have bk:w.heap.size+2<=((w.alloc (Xc #[Xa ab n.length af,Xa ah E.length ao,Xa ac q.length ag] 26)).alloc (Xc #[Xa none 0 0,Xa none 0 0,Xa none 0 0] 26)).heap.size:=by simp
 clear d b0 b6;go_enter Tryz.func39,Tryz.ntmps39;go_wp2_with fail;generalize (w.alloc (Xc #[Xa ab n.length af,Xa ah E.length ao,Xa ac q.length ag] 26)).alloc (Xc #[Xa none 0 0,Xa none 0 0,Xa none 0 0] 26)=N at *
 refine zat [fun v _=>v=Xb (some ⟨w.heap.size,0,none⟩),fun v _=>v=Xa ab n.length af,fun v W=>Own W N.heap.size 97 2 v n.length (n.flatMap zaj),fun v _=>v=Xb (some ⟨w.heap.size,2,none⟩),fun v _=>v=Xa ac q.length ag,fun v W=>Own W N.heap.size 9 1 v q.length (q.flatMap strC),fun v W=>∃h l,v=.agg #[h,Xa none 0 0,l]/\Own W N.heap.size 97 2 h n.length (n.flatMap zaj)/\Own W N.heap.size 9 1 l q.length (q.flatMap strC),fun v W=>∃g,v=Xb (some ⟨g,0,none⟩)/\N.heap.size<=g/\RowIs W g 26 [Xa none 0 0,Xa none 0 0,Xa none 0 0] []] rfl (by kernel_rfl) ?hR ?hstep ?hend
 case hR =>
  simp only[zM]
  exact⟨kP,kP,fun v _ _ d y=>d.ext y,kP,kP,fun v _ _ d y=>d.ext y,fun v _ _ d y=>by obtain⟨h,l,e,a,b⟩:=d;exact⟨h,l,e,a.ext y,b.ext y⟩,fun v _ _ d y=>by obtain⟨g,e,a,b⟩:=d;exact⟨g,e,a,b.ext y⟩⟩
 case hstep =>
  simp only[zS,zD,Qc,zbj]
  and_intros<;>intro x W y f
  ·have d:x 1=Xb (some ⟨w.heap.size,0,none⟩):=f.1;go_wp;exact sQ
  ·have d:_=_:=f.1;have bb:=(a0.ext y).cell (j:=0) rfl;go_wp;exact sQ
  ·have d:_=_:=f.1;have Q:=y.size;have ai:=zH (zik (br.out.all.ext (by decide) (bi.trans y)) (Qb au.out.all (by decide)));go_wp;refine ai.out.mono ?_;rintro r bw⟨v,rfl,bh,ae⟩;dsimp only;go_wp;refine zaa (v:=v) ?_ ae;exact(own_markT.1 bh).lower Q
  ·have d:x 1=Xb (some ⟨w.heap.size,0,none⟩):=f.1;go_wp;exact sQ
  ·have d:_=_:=f.1;have bb:=(a0.ext y).cell (j:=2) rfl;go_wp;exact sQ
  ·have d:_=_:=f.1;have Q:=y.size;have ai:=zH (zpa (br.out.pruned.ext (by decide) (bi.trans y)) (Qb au.out.pruned (by decide)));go_wp;refine ai.out.mono ?_;rintro r bw⟨v,rfl,bh,ae⟩;dsimp only;go_wp;refine zaa (v:=v) ?_ ae;exact(OwnL.flat_iff.1 bh).lower Q
  ·have h1:Own W N.heap.size 97 2 (x 8) n.length (n.flatMap zaj):=f.1;have a7:Own W N.heap.size 9 1 (x 11) q.length (q.flatMap strC):=f.2.1;obtain⟨A,C,a5,-,-⟩:=h1.form;obtain⟨B,D,a6,-,-⟩:=a7.form;rw[a5]at h1;rw[a6]at a7;go_wp;exact zaa (v:=.agg #[Xa A n.length C,Xa none 0 0,Xa B q.length D]) ⟨_,_,rfl,h1,a7⟩ (Xd _)
  have Q:=y.size;have an:=zaf W 26 [Xa none 0 0,Xa none 0 0,Xa none 0 0];go_wp;exact zaa ⟨W.heap.size,rfl,Q,an⟩ ((Xd W).alloc _)
 case hend =>
  intro x W y f;obtain⟨g,cp,ad,F⟩:∃g,x 3=Xb (some ⟨g,0,none⟩)/\N.heap.size<=g/\RowIs W g 26 [Xa none 0 0,Xa none 0 0,Xa none 0 0] []:=f.2.2.2.2.2.2.2.1;obtain⟨h,l,cl,J,K⟩:∃h l,x 12=.agg #[h,Xa none 0 0,l]/\Own W N.heap.size 97 2 h n.length (n.flatMap zaj)/\Own W N.heap.size 9 1 l q.length (q.flatMap strC):=f.2.2.2.2.2.2.1;clear f;obtain⟨A,C,rfl,-,-⟩:=J.form;obtain⟨B,D,rfl,-,-⟩:=K.form;simp only[zS,zD,zU,Qc,List.filterMap_cons,zav,Act.put,cp,cl];obtain⟨db,dc,de⟩:=F.p3;obtain⟨c8,c9,da⟩:=F.q3;have ba:=((F.set (j:=0) (by simp) (Xa A n.length C)).set (j:=1) (by simp) (Xa none 0 0)).set (j:=2) (by simp) (Xa B q.length D);simp only[List.set_cons_succ,List.set_cons_zero]at ba
  have hk:∀b,b≠g->(((W.setCell ⟨g,0,none⟩ (Xa A n.length C)).setCell ⟨g,1,none⟩ (Xa none 0 0)).setCell ⟨g,2,none⟩ (Xa B q.length D)).heap[b]? = W.heap[b]?:=fun b hb=>((Qa _ _ _ _ hb).trans (Qa _ _ _ _ hb)).trans (Qa _ _ _ _ hb)
  have bt:=zH ((J.keep (w':=((W.setCell ⟨g,0,none⟩ (Xa A n.length C)).setCell ⟨g,1,none⟩ (Xa none 0 0)).setCell ⟨g,2,none⟩ (Xa B q.length D)) fun b hb _=>hk b (fun e=>by subst e;exact J.apart F (by decide) hb)).lower bk);have bu:=zH ((K.keep (w':=((W.setCell ⟨g,0,none⟩ (Xa A n.length C)).setCell ⟨g,1,none⟩ (Xa none 0 0)).setCell ⟨g,2,none⟩ (Xa B q.length D)) fun b hb _=>hk b (fun e=>by subst e;exact K.apart F (by decide) hb)).lower bk);have bv:=zH ba;have b3:=(((bi.trans y).set (p:=⟨g,0,none⟩) (by simp;omega) (Xa A n.length C)).set (p:=⟨g,1,none⟩) (by simp;omega) (Xa none 0 0)).set (p:=⟨g,2,none⟩) (by simp;omega) (Xa B q.length D);have b8:=zH ((a0.ext y).keep (w':=((W.setCell ⟨g,0,none⟩ (Xa A n.length C)).setCell ⟨g,1,none⟩ (Xa none 0 0)).setCell ⟨g,2,none⟩ (Xa B q.length D)) (hk _ (by omega)));have cb:=zH ((b5.ext y).keep (w':=((W.setCell ⟨g,0,none⟩ (Xa A n.length C)).setCell ⟨g,1,none⟩ (Xa none 0 0)).setCell ⟨g,2,none⟩ (Xa B q.length D)) (hk _ (by omega)));have c0:=b8.out.cell (j:=1) rfl;have c3:=(a0.ext y).cell (j:=1) rfl;have cd:=zH b3;clear J K ba b3 F y;go_wp;go_wp2_with fail;generalize ((W.setCell ⟨g,0,none⟩ (Xa A n.length C)).setCell ⟨g,1,none⟩ (Xa none 0 0)).setCell ⟨g,2,none⟩ (Xa B q.length D)=L at *;have df:=bv.out.lt;have b9:=zH (show ∀b,zad (Xa A n.length C) b ∨ zad (Xa B q.length D) b->b<L.heap.size from fun b hb=>hb.elim (fun d=>(bt.out.base_le d).2) fun d=>(bu.out.base_le d).2);have di:w.heap.size+2<=L.heap.size:=Qb bk (by omega)
  go_loopw [16] (fun i wr=>∃pre post bn,E=pre++post/\i=I pre.length/\Hid (RowIs wr g 26 [Xa A n.length C,bn,Xa B q.length D] []/\Own wr (w.heap.size+2) 97 2 (Xa A n.length C) n.length (n.flatMap zaj)/\Own wr (w.heap.size+2) 9 1 (Xa B q.length D) q.length (q.flatMap strC) /\
   RowF wr L.heap.size g bn pre/\L.heap.size<=wr.heap.size/\RowIs wr (w.heap.size+1) 26 [Xa none 0 0,Xa none 0 0,Xa none 0 0] [])/\Ext w wr) (fun i _=>E.length-(intOf i).toNat)
  case atStart=>exact⟨[],E,Xa none 0 0,rfl,rfl,zH ⟨bv.out,bt.out,bu.out,RowF.nil _ _ _ _,Nat.le_refl _,cb.out⟩,cd.out⟩
  obtain⟨pre,post,bn,T,rfl,al,aa⟩:=hrel
  cases post
  case cons m post=>
   obtain⟨b,o,a1,a2,a3,rfl,e0,a5,aj,a6,cf,cg,ch,a8⟩:=b7.out pre post m wr aa T;obtain⟨ap,c1,aq,c2,ar,av,rfl,rfl,rfl⟩:=a8.fm;have dg:pre.length<E.length:=(by rw[T];simp);have ca:=zH T;have az:=au.out.each m (by show m∈E;rw[T];simp);have dh:E.length<=549755813888:=au.out.entries;have bs:=zH (a8.ext aa);clear T a8;go_wp2_with fail;obtain⟨F,J,K,R,bm,hR⟩:=al.out;have V:=(Xd wr).alloc (Xc #[St m.key,Xa ap m.seen.length c1,Xa aq m.counts.length c2,Xa ar m.items.length av,U m.cell.1,St m.cell.2.1,.bool m.cell.2.2] 46);have X:=zaf wr 46 [St m.key,Xa ap m.seen.length c1,Xa aq m.counts.length c2,Xa ar m.items.length av,U m.cell.1,St m.cell.2.1,.bool m.cell.2.2];have ad:=F.ext V;have be:=J.ext V;have bg:=K.ext V;have ak:=R.ext V;have cy:=Qb bm V.size;have a9:=hR.ext V;have b1:=bs.out.ext V;have cx:=aa.trans V;obtain⟨G,H,rfl,-,-⟩:=R.form;generalize cr:wr.alloc (Xc #[St m.key,Xa ap m.seen.length c1,Xa aq m.counts.length c2,Xa ar m.items.length av,U m.cell.1,St m.cell.2.1,.bool m.cell.2.2] 46)=O at *;clear F J K R hR al bs V cr e0 a5 aj a6 cf cg ch;have cs:=ad.lt;have ax:∀b,zad (Xa G pre.length H) b->b<O.heap.size:=fun b hb=>(ak.base_le hb).2
   obtain⟨dr,am⟩:=ak.own;have cq:¬zad (Xa G pre.length H) g:=am.apart ad (by decide)
   refine zjj [.early (fun v _=>v=Xb (some ⟨g,1,none⟩)),.early (fun v _=>v=Xa G pre.length H),.early (fun v _=>v=entV m (Xa ap m.seen.length c1) (Xa aq m.counts.length c2) (Xa ar m.items.length av)),
    .early (fun v W=>∃h z l,v=entV m h z l/\EntNew W O.heap.size m h z l),
    .early (fun v W=>∃d h z l,v=Xa (some ⟨d,0,none⟩) 1 1/\O.heap.size<=d/\RowIs W d 46 (entL m h z l) []/\EntNew W O.heap.size m h z l),
    .move (fun v W=>RowF W L.heap.size g v (pre++[m])),.late (fun v _=>v=Xb (some ⟨g,1,none⟩))] 5 (fun W=>Ext O W) (fun W=>Moved (Xa G pre.length H) O W) Ext (MvR (Xa G pre.length H)) rfl (by kernel_rfl) (by kernel_rfl) ?hR ?hRq ?hJ ?hstep ?hend
   case hR=>simp only[zM,HF.fact];exact⟨kP,kP,kP,fun v _ _ d y=>by obtain⟨h,z,l,e,a⟩:=d;exact⟨h,z,l,e,a.ext y⟩,fun v _ _ d y=>by obtain⟨k,h,z,l,e,a,b,c⟩:=d;exact⟨k,h,z,l,e,a,b.ext y,c.ext y⟩,fun v _ _ d y=>d.ext y,kP⟩
   case hRq =>
    simp only[zM,HF.fact,HF.isStore]
    exact⟨fun _ v _ _ d _=>d,fun _ v _ _ d _=>d,fun _ v _ _ d _=>d,fun _ v _ _ d y=>by obtain⟨h,z,l,e,a⟩:=d;exact⟨h,z,l,e,a.mvR y ax⟩,
     fun _ v _ _ d y=>by obtain⟨k,h,z,l,e,a,b,c⟩:=d;exact⟨k,h,z,l,e,a,b.mvR y (fun cu=>by have:=ax k cu;omega),c.mvR y ax⟩,fun d=>(by cases d),fun _ v _ _ d _=>d⟩
   case hJ=>exact(Xd O).drew
   case hstep =>
    simp only[zS,zD,Qc,zes]
    and_intros
    ·intro x W t f;have d:x 3=Xb (some ⟨g,0,none⟩):=f.1;go_wp;exact zai rfl ⟨t,Xd _⟩
    ·intro x W t f;have d:_=_:=f.1;have bb:=(ad.ext t).cell (j:=1) rfl;go_wp;exact zai rfl ⟨t,Xd _⟩
    ·intro x W t f;have d:x 5=Xb (some ⟨wr.heap.size,0,none⟩):=f.1;have dm:=(X.ext t).cell (j:=0) rfl;have q1:=(X.ext t).cell (j:=1) rfl;have dn:=(X.ext t).cell (j:=2) rfl;have q3:=(X.ext t).cell (j:=3) rfl;have q4:=(X.ext t).cell (j:=4) rfl;have dp:=(X.ext t).cell (j:=5) rfl;have dq:=(X.ext t).cell (j:=6) rfl;go_wp;exact zai rfl ⟨t,Xd _⟩
    ·intro x W t f;have d:_=_:=f.1;have Q:=t.size;have ai:=zH (zgs (b1.ext t) (Qb az.seen (by decide)) (Qb az.counts (by decide)) (Qb az.items (by decide)) (fun it ct=>Qb (az.dots it ct) (by decide)));go_wp;refine ai.out.mono ?_;rintro r bw⟨h,z,l,rfl,Z,ae⟩;dsimp only;go_wp;exact zai (v:=entV m h z l) ⟨h,z,l,rfl,Z.lower Q⟩ ⟨t.trans ae,ae⟩
    ·intro x W t f;obtain⟨h,z,l,d,Z⟩:∃h z l,x 23=entV m h z l/\EntNew W O.heap.size m h z l:=f.1;have Q:=t.size;obtain⟨bo,d1,bp,bx,bq,bz,rfl,rfl,rfl⟩:=Z.fm;have an:=zaf W 46 (entL m (Xa bo m.seen.length d1) (Xa bp m.counts.length bx) (Xa bq m.items.length bz));have bj:=(Xd W).alloc (Xc (entL m (Xa bo m.seen.length d1) (Xa bp m.counts.length bx) (Xa bq m.items.length bz)).toArray 46);go_wp;exact zai (v:=Xa (some ⟨W.heap.size,0,none⟩) 1 1) ⟨W.heap.size,_,_,_,rfl,Q,an,Z.ext bj⟩ ⟨t.trans bj,bj⟩
    ·intro x W t f;have cm:_=_:=f.1;obtain⟨k,h,z,l,cn,hk,an,Z⟩:∃d h z l,x 24=Xa (some ⟨d,0,none⟩) 1 1/\O.heap.size<=d/\RowIs W d 46 (entL m h z l) []/\EntNew W O.heap.size m h z l:=f.2.1;have Q:=t.size;have cv:=zgm (Z.rd (S:=fun _=>True) (fun _ _ _=>trivial));obtain⟨vss,ci,cj,ck⟩:=ak.ext t
     refine zal rfl (.tmp 21) (.tmp 24) 23 rfl L.heap.size 46 7 120 zeroEnt Tryz.underlying23 zc0 rfl (by omega) (Xa G pre.length H) pre.length vss.flatten (by simp[go_sem,cm]) ck (some ⟨k,0,none⟩) 1 1 (entL m h z l) (by simp[go_sem,cn])
      ⟨by simp,cv,fun _=>⟨k,0,rfl,fun j u t=>by rw[Nat.zero_add];exact an.cell t⟩⟩ (by omega) (by omega) (by omega) ?_
     intro v' w' cw ay;exact zai (RowF.snoc ci cj Z ax cs (by omega) cw ay) ⟨Grew.moved t ay,ay.size,ay.same⟩
    intro x W b t f;have d:x 3=Xb (some ⟨g,0,none⟩):=f.1;go_wp;exact zai rfl ⟨t,Xd _⟩
   case hend =>
    intro x W t f;have aw:RowF W L.heap.size g (x 25) (pre++[m]):=f.2.2.2.2.2.1;have co:x 26=Xb (some ⟨g,1,none⟩):=f.2.2.2.2.2.2.1;clear f;obtain⟨M,P,hF,-,-⟩:=aw.form;rw[show(pre++[m]).length=pre.length+1 by simp]at hF;simp only[zS,zD,zU,Qc,List.filterMap_cons,zav,Act.put,co,hF];rw[hF]at aw;have Y:=ad.mvR t.mv cq;have b2:=a9.mvR t.mv (am.apart a9 (by decide));have bd:=be.mvR t.mv (be.apart2 am (by decide));have bf:=bg.mvR t.mv (bg.apart2 am (by decide));have b4:=cx.moved t (fun b hb=>by have:=(ak.base_le hb).1;omega);have bb:=Y.cell (j:=1) rfl;have c6:=Y.frozen 1;have bc:=Y.set (j:=1) (by simp) (Xa M (pre.length+1) P);simp only[List.set_cons_succ,List.set_cons_zero]at bc
    have a4:=zH (show RowIs (W.setCell ⟨g,1,none⟩ (Xa M (pre.length+1) P)) g 26 [Xa A n.length C,Xa M (pre.length+1) P,Xa B q.length D] []/\Own (W.setCell ⟨g,1,none⟩ (Xa M (pre.length+1) P)) (w.heap.size+2) 97 2 (Xa A n.length C) n.length (n.flatMap zaj)/\Own (W.setCell ⟨g,1,none⟩ (Xa M (pre.length+1) P)) (w.heap.size+2) 9 1 (Xa B q.length D) q.length (q.flatMap strC) /\
     RowF (W.setCell ⟨g,1,none⟩ (Xa M (pre.length+1) P)) L.heap.size g (Xa M (pre.length+1) P) (pre++[m])/\L.heap.size<=(W.setCell ⟨g,1,none⟩ (Xa M (pre.length+1) P)).heap.size/\RowIs (W.setCell ⟨g,1,none⟩ (Xa M (pre.length+1) P)) (w.heap.size+1) 26 [Xa none 0 0,Xa none 0 0,Xa none 0 0] []from
     ⟨bc,bd.keep fun b hb _=>Qa _ _ _ _ (fun e=>bd.apart Y (by decide) (by have aj:b=g:=e;rw[<- aj];exact hb)),bf.keep fun b hb _=>Qa _ _ _ _ (fun e=>bf.apart Y (by decide) (by have aj:b=g:=e;rw[<- aj];exact hb)),
      aw.set Y (by decide),by rw[World.size_setCell];exact Qb cy t.mv.1,b2.other (by simp;omega) _⟩)
    have ce:=zH (b4.set (p:=⟨g,1,none⟩) (by simp;omega) (Xa M (pre.length+1) P));clear aw bc Y b2 bd bf b4 ad a9 be bg ak am b1 X;go_wp;exact⟨⟨pre++[m],post,_,by rw[ca.out];simp,by simp,a4,ce.out⟩,by simp[intOf];omega⟩
  rw[List.append_nil]at T;subst T;obtain⟨F,J,K,R,-,hR⟩:=al.out;obtain⟨G,H,rfl,-,-⟩:=R.form;obtain⟨dj,dk,dl⟩:=F.p3;obtain⟨r0,r1,cz⟩:=hR.p3;obtain⟨f0,f1,c5⟩:=hR.q3;have a4:=al;have cc:=zH aa;clear al F J K R hR aa;go_wp2_with fail
  (try simp only[Exit.inBlock,Exit.then])
  refine bodyPost_ret (v:=stV (Xa A n.length C) (Xa G E.length H) (Xa B q.length D)) (by simp[results,Tryz.f39,go_sem,r0,r1,cz]) rfl ?_;obtain⟨F,J,K,R,bm,hR⟩:=a4.out
  have hk:∀b,b≠w.heap.size+1->(((wr.setCell ⟨w.heap.size+1,0,none⟩ (Xa A n.length C)).setCell ⟨w.heap.size+1,1,none⟩ (Xa G E.length H)).setCell ⟨w.heap.size+1,2,none⟩ (Xa B q.length D)).heap[b]? = wr.heap[b]?:=fun b hb=>((Qa _ _ _ _ hb).trans (Qa _ _ _ _ hb)).trans (Qa _ _ _ _ hb)
  refine⟨Xa A n.length C,Xa G E.length H,Xa B q.length D,rfl,⟨?_,?_,L.heap.size,by omega,by simp only[World.size_setCell];exact bm,b9.out,?_⟩,?_⟩
  ·exact(J.keep fun b hb _=>hk b (by have:=(J.base_le hb).1;omega)).lower (by omega)
  ·exact(K.keep fun b hb _=>hk b (by have:=(K.base_le hb).1;omega)).lower (by omega)
  ·exact OwnL.mono (OwnL.keep (w':=((wr.setCell ⟨w.heap.size+1,0,none⟩ (Xa A n.length C)).setCell ⟨w.heap.size+1,1,none⟩ (Xa G E.length H)).setCell ⟨w.heap.size+1,2,none⟩ (Xa B q.length D)) R (fun b hb _=>hk b (by have:=hb.1;omega)) (fun b hb _=>hk b (by have:=(R.base_le hb).1;omega))) (S':=fun b=>L.heap.size<=b/\¬zad (Xa G E.length H) b) fun b _ hb=>⟨hb.1,hb.2.2⟩
  exact((cc.out.set (p:=⟨w.heap.size+1,0,none⟩) (by simp) _).set (p:=⟨w.heap.size+1,1,none⟩) (by simp) _).set (p:=⟨w.heap.size+1,2,none⟩) (by simp) _
theorem zu1 {S:Nat->Prop}{s:State}{v1 v2 v3:Value}{w:World}(g:StAt w S s v1 v2 v3)(k:SmallS s) :
  Calls Tryz.prog 39 #[stV v1 v2 v3] w fun r w'=>∃a c d,r=.returned (stV a c d)/\StNewF w' w.heap.size s a c d/\Ext w w':=by
 refine(zk2 g k).mono ?_;rintro r w'⟨a,c,d,e,⟨h1,i,m,f,-,-,h⟩,j⟩;exact⟨a,c,d,e,⟨h1,(h.mono fun b _ hb=>⟨Qb f hb.1,hb.2⟩).lower f,i⟩,j⟩
theorem zjx {S:Nat->Prop}{s:State}{v1 v2 v3:Value}{w:World}(d:StAt w S s v1 v2 v3)(h:SmallS s) :
  Calls Tryz.prog 39 #[stV v1 v2 v3] w fun r w'=>∃a b c,r=.returned (stV a b c)/\StNew w' w.heap.size s a b c/\Ext w w':=by
 refine(zu1 d h).mono ?_;rintro r w'⟨a,b,c,e,f,g⟩;exact⟨a,b,c,e,f.new,g⟩
end
end Go.Proofs.YtaabaflgeljbjaaGreat

