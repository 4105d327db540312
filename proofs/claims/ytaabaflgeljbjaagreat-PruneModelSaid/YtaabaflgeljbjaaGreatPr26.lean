/- Laws. -/
import Derived.Test.YtaabaflgeljbjaaGreatPr24
import Derived.Test.YtaabaflgeljbjaaGreatPr25
import Derived.Test.YtaabaflgeljbjaaGreatPr16
import Derived.Test.YtaabaflgeljbjaaGreatPr22
import Derived.Test.YtaabaflgeljbjaaGreatPr11
import Derived.Test.YtaabaflgeljbjaaGreatPr15
import Derived.Test.YtaabaflgeljbjaaGreatPr21
import Derived.StillTailTactics
set_option linter.unusedVariables false
set_option linter.unusedSimpArgs false
set_option maxRecDepth 100000
set_option maxHeartbeats 40000000
namespace Go.Proofs.YtaabaflgeljbjaaGreat
open Go.Value renaming slice→Xa,pointer→Xb,bool→Xc
open Go.Obj renaming cells→Xd
open Go.Ending renaming returned→Xe
open Go renaming World→Xf,Value→Xg
open List renaming eq_nil_of_length_eq_zero→Qb,append_nil→Qc,getElem?_eq_getElem→Qd,getElem?_append_right→Qe,getElem?_eq_some_iff→Qf,append_cancel_left→Qi,getElem?_of_mem→Qj,take_append_drop→Qm,set_cons_succ→Qo,set_cons_zero→Qp,length_append→Qq,cons.inj→Qs,getElem?_append_left→Qt,toArray→Qu,getElem?_take_of_lt→Qv,getElem?_cons_succ→Qw,find?_cons_of_neg→Qx,getElem_cons_drop→Qy,getElem?_set_self→Qz,mem_of_mem_take→Ya,filterMap_cons→Yb,flatten_append→Yc,findIdx?_cons→Yd,getElem?_drop→Yf,flatten_cons→Yg,length_take→Yh
open Nat renaming le_trans→Qh,le_refl→Qn,reduceAdd→Qr,lt_of_lt_of_le→Ye,min_eq_left→Yi
open Go.World renaming size_alloc→Qg,size_setCell→Ql
open Go.RowKit.Below renaming heap_setCell→Qa
open _root_.Array renaming getElem?_eq_some_iff→Qk
section
open Go.RowKit Go.Shelf
abbrev entL (e:Entry)(v1 v2 v3:Xg):List Xg:=[St e.key,v1,v2,v3,U e.cell.1,St e.cell.2.1,Xc e.cell.2.2]
theorem zaf (w:Xf)(T:Nat)(xs:List Xg):RowIs (w.alloc (Xd xs.toArray T)) w.heap.size T xs []:=by
 unfold RowIs;rw[Qc];exact Go.heap_alloc_new w _
theorem zgs {S:Nat->Prop}{e:Entry}{v1 v2 v3:Xg}{w:Xf}(P:EntAt w S e v1 v2 v3)(cw:e.seen.length<=1099511627776)(cx:e.counts.length<=1099511627776)(cy:e.items.length<=1099511627776)(cz:∀it∈e.items,it.2.length<=1099511627776) :
  Calls Tryz.prog 66 #[entV e v1 v2 v3] w fun r w'=>∃bb bc bd,r=Xe (entV e bb bc bd)/\EntNew w' w.heap.size e bb bc bd/\Ext w w':=by
 have bm:=P.mono (S':=fun b=>S b/\b<w.heap.size) (fun b hb ci=>⟨ci,hb⟩);obtain⟨y,es,c,a,z,C,D⟩:=e;obtain⟨M,V,N,X,O,Y,rfl,rfl,rfl⟩:=P.fm;have an:=zH bm;have a6:=((Ext.refl w).alloc (Xd #[St y,Xa M es.length V,Xa N c.length X,Xa O a.length Y,U z,St C,Xc D] 46)).alloc (Xd #[St [],Xa none 0 0,Xa none 0 0,Xa none 0 0,.int .u64 0,St [],Xc false] 46);have bq:=(zaf w 46 [St y,Xa M es.length V,Xa N c.length X,Xa O a.length Y,U z,St C,Xc D]).alloc (Xd #[St [],Xa none 0 0,Xa none 0 0,Xa none 0 0,.int .u64 0,St [],Xc false] 46);have az:=zaf (w.alloc (Xd #[St y,Xa M es.length V,Xa N c.length X,Xa O a.length Y,U z,St C,Xc D] 46)) 46 [St [],Xa none 0 0,Xa none 0 0,Xa none 0 0,.int .u64 0,St [],Xc false];rw[Qg]at az;have a9:w.heap.size+2<=((w.alloc (Xd #[St y,Xa M es.length V,Xa N c.length X,Xa O a.length Y,U z,St C,Xc D] 46)).alloc (Xd #[St [],Xa none 0 0,Xa none 0 0,Xa none 0 0,.int .u64 0,St [],Xc false] 46)).heap.size:=by simp
 clear P bm;go_enter Tryz.func66,Tryz.ntmps66;go_wp2_with fail;generalize cj:(w.alloc (Xd #[St y,Xa M es.length V,Xa N c.length X,Xa O a.length Y,U z,St C,Xc D] 46)).alloc (Xd #[St [],Xa none 0 0,Xa none 0 0,Xa none 0 0,.int .u64 0,St [],Xc false] 46)=bj at *;clear cj;have be:=zH (zik (an.out.seen.ext (by decide) a6) cw);refine be.out.mono ?_;rintro r ab⟨bb,rfl,a2,R⟩;have b0:=a6.trans R;have ad:=bq.ext R;have bt:=az.ext R;have cr:=ad.frozen 1;have cl:=ad.cell (j:=1) rfl;have al:=(own_markT.1 a2).lower a9;obtain⟨s,t,rfl,-,-⟩:=a2.form;have u:=zH al;have aj:=(ad.set (j:=1) (by simp) (Xa s es.length t))
 have ax:=aj.cell (j:=2) rfl;have bu:=bt.other (p:=⟨w.heap.size,1,none⟩) (by simp) (Xa s es.length t);have a7:=b0.set (p:=⟨w.heap.size,1,none⟩) (Qn _) (Xa s es.length t);have bi:=zH (al.keep (w':=ab.setCell ⟨w.heap.size,1,none⟩ (Xa s es.length t)) fun b hb _=>Qa _ _ _ _ (fun e=>by have:=(al.base_le hb).1;have n:b=w.heap.size:=e;omega));have T:bj.heap.size<=(ab.setCell ⟨w.heap.size,1,none⟩ (Xa s es.length t)).heap.size:=by rw[Ql];exact R.size
 replace T:=Qh a9 T;clear a2 al u;go_wp2_with fail;generalize ab.setCell ⟨w.heap.size,1,none⟩ (Xa s es.length t)=cb at *;clear R bt ad b0 a6 az bq cl cr ax a9 be;clear ab bj;simp only[Qo,Qp]at aj;have bf:=zH (zsl (an.out.counts.ext (by decide) a7) cx);refine bf.out.mono ?_;rintro r H⟨bc,rfl,a3,E⟩;have b1:=a7.trans E;have ae:=aj.ext E;have bv:=bu.ext E;have cs:=ae.frozen 2;have ax:=ae.cell (j:=2) rfl;have a4:=((OwnL.flat_iff (S:=fun b=>S b/\b<w.heap.size)).1 a3).lower T;obtain⟨m,q,rfl,-,-⟩:=a3.form;have u:=zH (bi.out.ext E);have ak:=(ae.set (j:=2) (by simp) (Xa m c.length q))
 have ay:=ak.cell (j:=3) rfl;have bw:=bv.other (p:=⟨w.heap.size,2,none⟩) (by simp) (Xa m c.length q);have a8:=b1.set (p:=⟨w.heap.size,2,none⟩) (Qn _) (Xa m c.length q);have aq:=zH (u.out.keep (w':=H.setCell ⟨w.heap.size,2,none⟩ (Xa m c.length q)) fun b hb _=>Qa _ _ _ _ (fun e=>by have:=(u.out.base_le hb).1;have n:b=w.heap.size:=e;omega));have ao:=zH (a4.keep (w':=H.setCell ⟨w.heap.size,2,none⟩ (Xa m c.length q)) fun b hb _=>Qa _ _ _ _ (fun e=>by have:=(a4.base_le hb).1;have n:b=w.heap.size:=e;omega));have c5:w.heap.size+2<=(H.setCell ⟨w.heap.size,2,none⟩ (Xa m c.length q)).heap.size:=by rw[Ql];exact Qh T E.size
 clear a3 a4 u bi;go_wp2_with fail;generalize H.setCell ⟨w.heap.size,2,none⟩ (Xa m c.length q)=ac at *;clear E bv ae b1 ax cs ay bf aj bu a7 T;clear H cb;simp only[Qo,Qp]at ak;have bg:=zH (zt4 (an.out.items.ext (by decide) a8) cy);refine bg.out.mono ?_;rintro r J⟨bd,rfl,am,G⟩;have b2:=a8.trans G;have af:=ak.ext G;have bx:=bw.ext G;have ct:=af.frozen 3;have ay:=af.cell (j:=3) rfl;have bo:∀b,zad (Xa s es.length t) b->b<ac.heap.size:=fun b hb=>(aq.out.base_le hb).2
 have bp:∀b,zad (Xa m c.length q) b->b<ac.heap.size:=fun b hb=>(ao.out.base_le hb).2
 have ba:=G.size;generalize ac.heap.size=Z at am bo bp c5 ba;have a5:=am;obtain⟨l,d,rfl,-,-⟩:=am.form;have u:=zH (aq.out.ext G);have ap:=zH (ao.out.ext G);have a1:=(af.set (j:=3) (by simp) (Xa l a.length d))
 have cm:=a1.cell (j:=3) rfl;have c1:=bx.other (p:=⟨w.heap.size,3,none⟩) (by simp) (Xa l a.length d);have c3:=b2.set (p:=⟨w.heap.size,3,none⟩) (Qn _) (Xa l a.length d);have b8:=zH (u.out.keep (w':=J.setCell ⟨w.heap.size,3,none⟩ (Xa l a.length d)) fun b hb _=>Qa _ _ _ _ (fun e=>by have:=(u.out.base_le hb).1;have n:b=w.heap.size:=e;omega));have b9:=zH (ap.out.keep (w':=J.setCell ⟨w.heap.size,3,none⟩ (Xa l a.length d)) fun b hb _=>Qa _ _ _ _ (fun e=>by have:=(ap.out.base_le hb).1;have n:b=w.heap.size:=e;omega));have ca:=zH (a5.keep (w':=J.setCell ⟨w.heap.size,3,none⟩ (Xa l a.length d)) (fun b hb _=>Qa _ _ _ _ (fun e=>by have:=hb.2;have n:b=w.heap.size:=e;omega)) (fun b hb _=>Qa _ _ _ _ (fun e=>by have:=(a5.base_le hb).1;have n:b=w.heap.size:=e;omega)));have c6:Z<=(J.setCell ⟨w.heap.size,3,none⟩ (Xa l a.length d)).heap.size:=by rw[Ql];exact ba
 clear am a5 u ao ap aq;go_wp2_with fail;generalize J.setCell ⟨w.heap.size,3,none⟩ (Xa l a.length d)=de at *;clear G bx af b2 ay ct cm bg ak bw a8 ba;clear J ac;simp only[Qo,Qp]at a1
 go_loopw [19] (fun i wr=>∃A B,a=A++B/\i=I A.length/\Hid (RowIs wr w.heap.size 46 [St y,Xa s es.length t,Xa m c.length q,Xa l a.length d,U z,St C,Xc D] []/\RowIs wr (w.heap.size+1) 46 [St [],Xa none 0 0,Xa none 0 0,Xa none 0 0,.int .u64 0,St [],Xc false] []/\Own wr (w.heap.size+2) 97 2 (Xa s es.length t) es.length (es.flatMap zaj) /\
   Own wr (w.heap.size+2) 54 3 (Xa m c.length q) c.length (c.flatMap zbx)/\HalfRow wr Z (fun b=>S b/\b<w.heap.size) (Xa l a.length d) A B)/\Ext w wr/\Z<=wr.heap.size) (fun i _=>a.length-(intOf i).toNat)
 case atStart=>exact⟨[],a,rfl,rfl,zH ⟨a1,c1,b8.out,b9.out,HalfRow.start ca.out⟩,c3,c6⟩
 obtain⟨A,B,K,rfl,a0,bz,dv⟩:=hrel
 cases B
 case cons it B=>
  have dt:A.length<a.length:=(by rw[K];simp);have b6:=zH K;have cv:=cz it (by rw[K];simp);clear K;go_wp2_with fail;obtain⟨hb,k,ah,ai,Q⟩:=a0.out;obtain⟨g,cc,bk,e,dn,dp,ds,ag,cq,bs⟩:=Q.next;obtain⟨ar,n,au⟩:l=some ⟨g,0,none⟩/\a.length=A.length+(B.length+1)/\d=cc:=by injection e with ar n au;exact⟨ar,n,au⟩
  subst ar;subst au;have aa:=zH n;clear e n a0
  refine zat [fun v _=>v=Xb (some ⟨w.heap.size,3,none⟩),fun v _=>v=Xa (some ⟨g,0,none⟩) a.length d,fun v _=>v=I A.length,fun v _=>v=Xb (some ⟨w.heap.size,3,none⟩),fun v _=>v=Xa (some ⟨g,0,none⟩) a.length d,fun v _=>v=I A.length,fun v _=>v=Xb (some ⟨g,A.length * 2,none⟩),fun v _=>v=Xb (some ⟨g,A.length * 2+1,none⟩),fun v _=>v=bk,fun v W=>Own W wr.heap.size 59 2 v it.2.length (it.2.flatMap zaj)] rfl (by kernel_rfl) ?hR ?hstep ?hend
  case hR=>simp only[zM];exact⟨kP,kP,kP,kP,kP,kP,kP,kP,kP,fun v _ _ P h=>P.ext h⟩
  case hstep =>
   simp only[zS,zD,Qr,zbj]
   and_intros<;>intro x W h f
   ·have h1:x 1=Xb (some ⟨w.heap.size,0,none⟩):=f.1;go_wp;exact sQ
   ·have bn:_=_:=f.1;have br:=(hb.ext h).cell (j:=3) rfl;go_wp;exact sQ
   ·have ch:x 3=I A.length:=f.1;go_wp;exact sQ
   ·have h1:x 1=Xb (some ⟨w.heap.size,0,none⟩):=f.1;go_wp;exact sQ
   ·have dk:_=_:=f.1;have br:=(hb.ext h).cell (j:=3) rfl;go_wp;exact sQ
   ·have ch:x 3=I A.length:=f.1;go_wp;exact sQ
   ·have h0:_=_:=f.1;have h1:_=_:=f.2.1;go_wp;exact sQ
   ·have h0:_=_:=f.1;go_wp;exact sQ
   ·have dl:_=_:=f.1;have br:=h.cell ag;obtain⟨b4,cd,rfl,cn,co⟩:=bs.form;go_wp;exact sQ
   have dm:_=_:=f.1;have L:=h.size;have b5:=zH (zwg (bs.ext (by decide) h) cv);go_wp;refine b5.out.mono ?_;rintro r H⟨ce,rfl,cp,E⟩;dsimp only;go_wp;refine zaa (v:=ce) ?_ E;exact(own_markT.1 cp).lower L
  case hend =>
   intro x W h f
   obtain⟨bn,cf,cg,-,-,-,-,-,-,av,-⟩:x 22=Xb (some ⟨w.heap.size,3,none⟩)/\x 23=Xa (some ⟨g,0,none⟩) a.length d/\x 24=I A.length/\x 25=Xb (some ⟨w.heap.size,3,none⟩)/\x 26=Xa (some ⟨g,0,none⟩) a.length d/\x 27=I A.length /\
    x 28=Xb (some ⟨g,A.length * 2,none⟩)/\x 29=Xb (some ⟨g,A.length * 2+1,none⟩)/\x 30=bk/\Own W wr.heap.size 59 2 (x 31) it.2.length (it.2.flatMap zaj)/\True:=f
   simp only[zS,zD,zU,Qr,Yb,zav,Act.put,bn,cf,cg];have dq:=h.cell ag;have dr:=(h.frozen (o:=A.length * 2+1) (zae ag)).trans cq;have du:=h.size;have cu:=zae ag;have c0:=Q.ext h;obtain⟨b4,cd,b3,cn,co⟩:=av.form;rw[b3]at av;simp only[b3];have b7:=zH (aa.out▸(aa.out▸c0).put (fun b hb=>by omega) av (by omega) cu);go_wp
   refine⟨⟨A++[it],B,by rw[b6.out];simp,by simp,zH ⟨(hb.ext h).other (by simp;omega) _,(k.ext h).other (by simp;omega) _,(ah.ext h).keep fun b aw _=>Qa _ _ _ _ (fun e=>by have:=bo b aw;have n:b=g:=e;omega),
    (ai.ext h).keep fun b aw _=>Qa _ _ _ _ (fun e=>by have:=bp b aw;have n:b=g:=e;omega),aa.out▸b7.out⟩,(bz.trans h).set (by simp;omega) _,by rw[Ql];omega⟩,?_⟩
   have:=aa.out;simp only[intOf];omega
 obtain⟨hb,k,ah,ai,Q⟩:=a0.out;rw[Qc]at K;subst K;have bh:=zH Q.done;have dw:=hb.cell (j:=0) rfl;have r0:=k.cell (j:=0) rfl;have f0:=k.frozen 0;have dx:=hb.cell (j:=1) rfl;have r1:=k.cell (j:=1) rfl;have f1:=k.frozen 1;have dy:=hb.cell (j:=2) rfl;have c8:=k.cell (j:=2) rfl;have df:=k.frozen 2;have dz:=hb.cell (j:=3) rfl;have c9:=k.cell (j:=3) rfl;have dg:=k.frozen 3;have d0:=hb.cell (j:=4) rfl;have da:=k.cell (j:=4) rfl;have dh:=k.frozen 4;have d1:=hb.cell (j:=5) rfl;have db:=k.cell (j:=5) rfl;have di:=k.frozen 5;have d2:=hb.cell (j:=6) rfl;have dc:=k.cell (j:=6) rfl;have dj:=k.frozen 6;clear Q;go_wp2_with fail
 (try simp only[Exit.inBlock,Exit.then])
 refine bodyPost_ret (v:=entV ⟨y,es,c,a,(z,C,D)⟩ (Xa s es.length t) (Xa m c.length q) (Xa l a.length d)) (by simp[results,Tryz.f66,go_sem,entV,r0,r1,c8,c9,da,db,dc]) rfl ?_;have F:w.heap.size<=(⟨w.heap.size+1,0,none⟩:Addr).block:=by simp
 have ck:=zH (((((((bz.set (p:=⟨w.heap.size+1,0,none⟩) F (.string { data:=Qu y })).set (p:=⟨w.heap.size+1,1,none⟩) F (Xa s es.length t)).set (p:=⟨w.heap.size+1,2,none⟩) F (Xa m c.length q)).set (p:=⟨w.heap.size+1,3,none⟩) F (Xa l a.length d)).set
  (p:=⟨w.heap.size+1,4,none⟩) F (.int .u64 z)).set (p:=⟨w.heap.size+1,5,none⟩) F (.string { data:=Qu C })).set (p:=⟨w.heap.size+1,6,none⟩) F (Xc D))
 refine⟨_,_,_,rfl,?_,ck.out⟩
 have L:∀b,b≠w.heap.size+1->(((((((wr.setCell ⟨w.heap.size+1,0,none⟩ (.string { data:=Qu y })).setCell ⟨w.heap.size+1,1,none⟩ (Xa s es.length t)).setCell ⟨w.heap.size+1,2,none⟩ (Xa m c.length q)).setCell ⟨w.heap.size+1,3,none⟩ (Xa l a.length d)).setCell
  ⟨w.heap.size+1,4,none⟩ (.int .u64 z)).setCell ⟨w.heap.size+1,5,none⟩ (.string { data:=Qu C })).setCell ⟨w.heap.size+1,6,none⟩ (Xc D)).heap[b]? = wr.heap[b]?:=fun b hb =>
  ((((((Qa _ _ _ b hb).trans (Qa _ _ _ b hb)).trans (Qa _ _ _ b hb)).trans (Qa _ _ _ b hb)).trans (Qa _ _ _ b hb)).trans (Qa _ _ _ b hb)).trans (Qa _ _ _ b hb)
 exact⟨(ah.keep fun b hb _=>L b (by have:=(ah.base_le hb).1;omega)).lower (by omega),(ai.keep fun b hb _=>L b (by have:=(ai.base_le hb).1;omega)).lower (by omega),
  (((bh.out.keep (fun b hb _=>L b (by omega)) (fun b hb _=>L b (by have:=(bh.out.base_le hb).1;omega))).lower (by omega)).mono fun b _ hb=>by omega)⟩
def zfv (e:Entry):Bool:=e.counts.all fun c=>!(c.1 !=[]&&ofM e.seen c.1==0)
def zgt (e:Entry):Bool:=e.items.all fun it=>it.2.all fun d=>hasM e.seen d
theorem zxh {S:Nat->Prop}{A:Option Addr}{n c:Nat}{l pre post:List zag}{m:zag}{w wr:Xf}(g:Sl zcl w S (Xa A n c) l)(d:Ext w wr)(f:l=pre++m::post) :
  ∃b o,A=some ⟨b,o,none⟩/\wr.cell? ⟨b,o+pre.length * 3,none⟩=some (St m.1)/\wr.cell? ⟨b,o+pre.length * 3+1,none⟩=some (U m.2.1)/\wr.cell? ⟨b,o+pre.length * 3+2,none⟩=some (U m.2.2):=by
 obtain⟨b,o,vs,h,e,-,rfl,a⟩:=(g.ext (by decide) d).at_ f;injection e with e1 e2 e3
 exact⟨b,o,e1,a 0 _ rfl,a 1 _ rfl,a 2 _ rfl⟩
theorem zra {S:Nat->Prop}{e:Entry}{v1 v2 v3:Xg}{w:Xf}(f:EntAt w S e v1 v2 v3) :
  Calls Tryz.prog 75 #[entV e v1 v2 v3] w fun r w'=>r=Xe (Xc (zfv e))/\Ext w w':=by
 obtain⟨l,es,a,k,n,p,q⟩:=e;have K:=f.counts;have M:=zH f;obtain⟨u,B,rfl,-,-⟩:=f.seen.form;obtain⟨v,C,rfl,X,ad⟩:=f.counts.form;obtain⟨x,D,rfl,-,-⟩:=f.items.form;simp only at X;have N:=zH (fun(pre post:List zag) (m:zag) (wr:Xf) (f:Ext w wr) (d:a=pre++m::post)=>zxh K f d);have O:=zH (show zfv ⟨l,es,a,k,(n,p,q)⟩=a.all fun c=>!(c.1 !=[]&&ofM es c.1==0)from rfl);generalize zfv ⟨l,es,a,k,(n,p,q)⟩=R at *;have t:=(Ext.refl w).alloc (Xd #[St l,Xa u es.length B,Xa v a.length C,Xa x k.length D,U n,St p,Xc q] 46);have J:=zaf w 46 [St l,Xa u es.length B,Xa v a.length C,Xa x k.length D,U n,St p,Xc q];have ae:=J.cell (j:=2) rfl;clear f K;go_enter Tryz.func75,Tryz.ntmps75;go_wp2_with fail;generalize Q:w.alloc (Xd #[St l,Xa u es.length B,Xa v a.length C,Xa x k.length D,U n,St p,Xc q] 46)=P at *;clear Q
 go_loopw [8] (fun i wr=>∃pre post,a=pre++post/\i=I pre.length/\Hid (R=post.all fun c=>!(c.1 !=[]&&ofM es c.1==0))/\Ext P wr) (fun i _=>a.length-(intOf i).toNat)
 case atStart=>exact⟨[],a,rfl,rfl,O,Ext.refl _⟩
 obtain⟨pre,post,d,rfl,hR,z⟩:=hrel
 cases post
 case cons c post=>
  obtain⟨b,o,rfl,T,V,W⟩:=N.out pre post c wr (t.trans z) d;have ac:pre.length<a.length:=(by rw[d];simp);have E:=zH d;have g:=z.alloc (Xd #[St c.1,U c.2.1,U c.2.2] 54);have Z:(wr.alloc (Xd #[St c.1,U c.2.1,U c.2.2] 54)).cell? ⟨wr.heap.size,0,none⟩=some (St c.1):=(by simp[go_sem]);have Y:=(J.ext g).cell (j:=1) rfl;have y:=zH (ze1 c.1 (M.out.seen.ext (by decide) (t.trans g)));clear d;obtain⟨cs,H,G⟩:=c;simp only at T V W g Z Y y
  cases cs
  case nil=>
   have h:=zH (show R=post.all fun c=>!(c.1 !=[]&&ofM es c.1==0) by rw[hR.out];simp);have s:=zH g;clear hR g y;go_wp2_with fail;go_roundw
   case rel=>exact⟨pre++[([],H,G)],post,by rw[E.out];simp,by simp,h,s.out⟩
   case measure=>simp[intOf];omega
  rename_i F cs
  go_wp2_with fail;refine y.out.mono ?_;rintro r aa⟨rfl,A⟩;have s:=zH (g.trans A)
  cases L:ofM es (F::cs)
  case zero=>
   have h:=zH (show R=false by rw[hR.out];simp[L]);clear hR g A;go_wp2_with fail
   (try simp only[Exit.inBlock,Exit.then])
   exact bodyPost_ret (results_tmp rfl _ _ _) rfl ⟨by rw[h.out];rfl,t.trans s.out⟩
  rename_i m
  have h:=zH (show R=post.all fun c=>!(c.1 !=[]&&ofM es c.1==0) by rw[hR.out];simp[L]);clear hR g A;go_wp2_with fail;go_roundw
  case rel=>exact⟨pre++[(F::cs,H,G)],post,by rw[E.out];simp,by simp,h,s.out⟩
  case measure=>simp[intOf];omega
 rw[Qc]at d;have h:=zH (show R=true by rw[hR.out];rfl);have ab:a.length=pre.length:=(by rw[d]);clear hR d;go_wp2_with fail
 (try simp only[Exit.inBlock,Exit.then])
 exact bodyPost_ret (results_tmp rfl _ _ _) rfl ⟨by rw[h.out];rfl,t.trans z⟩
theorem zsw {S:Nat->Prop}{e:Entry}{v1 v2 v3:Xg}{w:Xf}(f:EntAt w S e v1 v2 v3) :
  Calls Tryz.prog 78 #[entV e v1 v2 v3] w fun r w'=>r=Xe (Xc (zgt e))/\Ext w w':=by
 obtain⟨s,es,q,a,A,B,C⟩:=e;have Q:=f.items;have X:=zH f;obtain⟨D,L,rfl,-,-⟩:=f.seen.form;obtain⟨E,M,rfl,-,-⟩:=f.counts.form;obtain⟨F,N,rfl,al,ay⟩:=f.items.form;simp only at al;have Y:=zH (fun(pre post:List Item) (m:Item) (wr:Xf) (f:Ext w wr) (c:a=pre++m::post)=>zgr Q f c);have Z:=zH (show zgt ⟨s,es,q,a,(A,B,C)⟩=a.all fun it=>it.2.all fun d=>hasM es d from rfl);generalize zgt ⟨s,es,q,a,(A,B,C)⟩=R at *;have u:=(Ext.refl w).alloc (Xd #[St s,Xa D es.length L,Xa E q.length M,Xa F a.length N,U A,St B,Xc C] 46);have P:=zaf w 46 [St s,Xa D es.length L,Xa E q.length M,Xa F a.length N,U A,St B,Xc C];have a2:=P.cell (j:=3) rfl;clear f Q;go_enter Tryz.func78,Tryz.ntmps78;go_wp2_with fail;generalize ai:w.alloc (Xd #[St s,Xa D es.length L,Xa E q.length M,Xa F a.length N,U A,St B,Xc C] 46)=ag at *;clear ai
 go_loopw [10] (fun i wr=>∃pre post,a=pre++post/\i=I pre.length/\Hid (R=post.all fun it=>it.2.all fun d=>hasM es d)/\Ext ag wr) (fun i _=>a.length-(intOf i).toNat)
 case atStart=>exact⟨[],a,rfl,rfl,Z,Ext.refl _⟩
 obtain⟨pre,post,c,rfl,hR,H⟩:=hrel
 cases post
 case cons it post=>
  obtain⟨b,o,a6,rfl,au,av,G⟩:=Y.out pre post it wr (u.trans H) c;have aw:pre.length<a.length:=(by rw[c];simp);have ab:=zH c;have V:=G;obtain⟨p,z,rfl,az,a0⟩:=G.form;have v:=H.alloc (Xd #[St it.1,Xa p it.2.length z] 57);have a5:(wr.alloc (Xd #[St it.1,Xa p it.2.length z] 57)).cell? ⟨wr.heap.size,1,none⟩=some (Xa p it.2.length z):=(by simp[go_sem]);have a1:=(Ext.refl wr).alloc (Xd #[St it.1,Xa p it.2.length z] 57);have aa:=zH (fun(h g:List Dot) (x:Dot) (an:Xf) (f:Ext w an) (c:it.2=h++x::g)=>zje V f c);clear c G V;go_wp2_with fail;generalize aj:wr.alloc (Xd #[St it.1,Xa p it.2.length z] 57)=ah at *;clear aj;obtain⟨W,am⟩:∃W:Xf,W=wr:=⟨_,rfl⟩
  subst am
  go_loopw [17] (fun j ao=>∃h g,it.2=h++g/\j=I h.length/\Hid (R=((g.all fun d=>hasM es d)&&post.all fun it=>it.2.all fun d=>hasM es d))/\Ext ah ao) (fun j _=>it.2.length-(intOf j).toNat)
  case atStart=>exact⟨[],it.2,rfl,rfl,by rw[hR.out];exact zH (by simp),Ext.refl _⟩
  obtain⟨h,g,l,rfl,k,n⟩:=hrel
  cases g
  case cons x g=>
   have J:=u.trans (v.trans n);obtain⟨aq,a4,rfl,e0,ar⟩:=aa.out h g x wr J l;have ax:h.length<it.2.length:=(by rw[l];simp);have y:=n.alloc (Xd #[St x.1,U x.2] 59);have s0:(wr.alloc (Xd #[St x.1,U x.2] 59)).cell? ⟨wr.heap.size,0,none⟩=some (St x.1):=(by simp[go_sem]);have s1:(wr.alloc (Xd #[St x.1,U x.2] 59)).cell? ⟨wr.heap.size,1,none⟩=some (U x.2):=(by simp[go_sem]);have a3:=(P.ext (v.trans y)).cell (j:=1) rfl;have ad:=zH (zou x (X.out.seen.ext (by decide) (u.trans (v.trans y))));have ac:=zH l;clear l;go_wp2_with fail;refine ad.out.mono ?_;rintro r ap⟨rfl,K⟩;have O:=zH (y.trans K)
   cases T:hasM es x
   case false=>
    have t:=zH (show R=false by rw[k.out];simp[T]);have af:=zH (u.trans (v.trans O.out));clear hR k K y n J;go_wp2_with fail
    (try simp only[Exit.inBlock,Exit.then])
    exact bodyPost_ret (results_tmp rfl _ _ _) rfl ⟨by rw[t.out];rfl,af.out⟩
   have t:=zH (show R=((g.all fun d=>hasM es d)&&post.all fun it=>it.2.all fun d=>hasM es d) by rw[k.out];simp[T]);clear hR k K y n J;go_wp2_with fail;go_roundw
   case rel=>exact⟨h++[x],g,by rw[ac.out];simp,by simp,t,O.out⟩
   case measure=>simp[intOf];omega
  rw[Qc]at l;have t:=zH (show R=post.all fun it=>it.2.all fun d=>hasM es d by rw[k.out];rfl);have ak:it.2.length=h.length:=(by rw[l]);have ae:=zH (v.trans n);clear hR k l n;go_wp2_with fail;go_roundw
  case rel=>exact⟨pre++[it],post,by rw[ab.out];simp,by simp,t,ae.out⟩
  case measure=>simp[intOf];omega
 rw[Qc]at c;have k:=zH (show R=true by rw[hR.out];rfl);have ak:a.length=pre.length:=(by rw[c]);clear hR c;go_wp2_with fail
 (try simp only[Exit.inBlock,Exit.then])
 exact bodyPost_ret (results_tmp rfl _ _ _) rfl ⟨by rw[k.out];rfl,u.trans H⟩
abbrev put7 (w:Xf)(q:Nat)(e:Entry)(v1 v2 v3:Xg):Xf :=
 ((((((w.setCell ⟨q,0,none⟩ (St e.key)).setCell ⟨q,1,none⟩ v1).setCell ⟨q,2,none⟩ v2).setCell ⟨q,3,none⟩ v3).setCell ⟨q,4,none⟩ (U e.cell.1)).setCell ⟨q,5,none⟩ (St e.cell.2.1)).setCell ⟨q,6,none⟩ (Xc e.cell.2.2)
theorem zk1 {w wr:Xf}{q base:Nat}{e:Entry}{v1 v2 v3:Xg}(h:Ext w wr)(a:w.heap.size<=q)(g:EntNew wr base e v1 v2 v3)(hb:q<base):EntNew (put7 wr q e v1 v2 v3) w.heap.size e v1 v2 v3/\Ext w (put7 wr q e v1 v2 v3):=by
 have i:w.heap.size<=(⟨q,0,none⟩:Addr).block:=a
 have c:∀b,b≠q->(put7 wr q e v1 v2 v3).heap[b]? = wr.heap[b]?:=fun b hb=>((((((Qa _ _ _ b hb).trans (Qa _ _ _ b hb)).trans (Qa _ _ _ b hb)).trans (Qa _ _ _ b hb)).trans (Qa _ _ _ b hb)).trans (Qa _ _ _ b hb)).trans (Qa _ _ _ b hb)
 obtain⟨h1,d,f⟩:=g
 refine⟨⟨(h1.keep fun b hb _=>c b (by have:=(h1.base_le hb).1;omega)).lower (by omega),(d.keep fun b hb _=>c b (by have:=(d.base_le hb).1;omega)).lower (by omega),
  (((f.keep (fun b hb _=>c b (by omega)) (fun b hb _=>c b (by have:=(f.base_le hb).1;omega))).lower (by omega)).mono fun b _ hb=>by omega)⟩,?_⟩
 exact((((((h.set (p:=⟨q,0,none⟩) a _).set (p:=⟨q,1,none⟩) a _).set (p:=⟨q,2,none⟩) a _).set (p:=⟨q,3,none⟩) a _).set (p:=⟨q,4,none⟩) a _).set (p:=⟨q,5,none⟩) a _).set (p:=⟨q,6,none⟩) a _
structure SmallE (e:Entry):Prop where
 seen:e.seen.length<=549755813888
 counts:e.counts.length<=549755813888
 items:e.items.length<=549755813888
 dots:∀it∈e.items,it.2.length<=549755813888
 places:(zab e.items).length<=549755813888
def zbz (a b:Entry):Entry:=if zbl a zak then b else if a.key=b.key then⟨a.key,za0 a.seen b.seen,zef a.counts b.counts,ze8 a.items a.seen b.items b.seen,ze0 a.cell b.cell⟩else a
theorem zjv {am an:Nat->Prop}{a b:Entry}{a1 a2 a3 ba bb bc:Xg}{w:Xf}(ha:EntAt w am a a1 a2 a3)(hb:EntAt w an b ba bb bc)(ch:SmallE a)(cm:SmallE b) :
  Calls Tryz.prog 60 #[entV a a1 a2 a3,entV b ba bb bc] w fun r w'=>∃ap aq ar,r=Xe (entV (zbz a b) ap aq ar)/\EntNew w' w.heap.size (zbz a b) ap aq ar/\Ext w w':=by
 have V:=zH (show zbz a b=if zbl a zak then b else if a.key=b.key then⟨a.key,za0 a.seen b.seen,zef a.counts b.counts,ze8 a.items a.seen b.items b.seen,ze0 a.cell b.cell⟩else a from rfl);generalize zbz a b=au at *;obtain⟨ci,cj,ck,b0,cl⟩:=ch;obtain⟨cn,co,cp,b1,cq⟩:=cm;obtain⟨k,d,h,l,n,o,p3⟩:=a;obtain⟨kb,bs,i,m,q1,p,q3⟩:=b;obtain⟨y,D,E,K,F,L,rfl,rfl,rfl⟩:=ha.fm;obtain⟨z,C,G,I,H,J,rfl,rfl,rfl⟩:=hb.fm;simp only at ci cj ck b0 cl cn co cp b1 cq;have a0:=(((Ext.refl w).alloc (Xd #[St k,Xa y d.length D,Xa E h.length K,Xa F l.length L,U n,St o,Xc p3] 46)).alloc (Xd #[St kb,Xa z bs.length C,Xa G i.length I,Xa H m.length J,U q1,St p,Xc q3] 46)).alloc (Xd #[St [],Xa none 0 0,Xa none 0 0,Xa none 0 0,.int .u64 0,St [],Xc false] 46);have a4:=((zaf w 46 [St k,Xa y d.length D,Xa E h.length K,Xa F l.length L,U n,St o,Xc p3]).alloc (Xd #[St kb,Xa z bs.length C,Xa G i.length I,Xa H m.length J,U q1,St p,Xc q3] 46)).alloc (Xd #[St [],Xa none 0 0,Xa none 0 0,Xa none 0 0,.int .u64 0,St [],Xc false] 46);have ao:=(zaf (w.alloc (Xd #[St k,Xa y d.length D,Xa E h.length K,Xa F l.length L,U n,St o,Xc p3] 46)) 46 [St kb,Xa z bs.length C,Xa G i.length I,Xa H m.length J,U q1,St p,Xc q3]).alloc (Xd #[St [],Xa none 0 0,Xa none 0 0,Xa none 0 0,.int .u64 0,St [],Xc false] 46);have a5:=zaf ((w.alloc (Xd #[St k,Xa y d.length D,Xa E h.length K,Xa F l.length L,U n,St o,Xc p3] 46)).alloc (Xd #[St kb,Xa z bs.length C,Xa G i.length I,Xa H m.length J,U q1,St p,Xc q3] 46)) 46 [St [],Xa none 0 0,Xa none 0 0,Xa none 0 0,.int .u64 0,St [],Xc false];rw[Qg]at ao;rw[Qg,Qg]at a5;have bi:w.heap.size+3<=(((w.alloc (Xd #[St k,Xa y d.length D,Xa E h.length K,Xa F l.length L,U n,St o,Xc p3] 46)).alloc (Xd #[St kb,Xa z bs.length C,Xa G i.length I,Xa H m.length J,U q1,St p,Xc q3] 46)).alloc (Xd #[St [],Xa none 0 0,Xa none 0 0,Xa none 0 0,.int .u64 0,St [],Xc false] 46)).heap.size:=by simp
 have Z:=zH ha;have al:=zH hb;clear ha hb;obtain⟨br,bt,bu,bv,bw,bx,bz⟩:=a4.p7;obtain⟨bj,bk,bm,bn,bo,bp,bq⟩:=ao.p7;go_enter Tryz.func60,Tryz.ntmps60;go_wp2_with fail;generalize cb:((w.alloc (Xd #[St k,Xa y d.length D,Xa E h.length K,Xa F l.length L,U n,St o,Xc p3] 46)).alloc (Xd #[St kb,Xa z bs.length C,Xa G i.length I,Xa H m.length J,U q1,St p,Xc q3] 46)).alloc (Xd #[St [],Xa none 0 0,Xa none 0 0,Xa none 0 0,.int .u64 0,St [],Xc false] 46)=cr at *;clear cb;have a7:=zH (zpm (Z.out.ext a0));refine a7.out.mono ?_;rintro r s⟨rfl,af⟩;have B:=a0.trans af;have M:=a4.ext af;have R:=ao.ext af;have a6:=a5.ext af;have c8:=Qh bi af.size;clear a4 ao a5 a0 bi br bt bu bv bw bx bz bj bk bm bn bo bp bq;obtain⟨br,bt,bu,bv,bw,bx,bz⟩:=M.p7;obtain⟨bj,bk,bm,bn,bo,bp,bq⟩:=R.p7;cases Y:zbl ⟨k,d,h,l,(n,o,p3)⟩ zak
 case true =>
  obtain rfl:au=⟨kb,bs,i,m,(q1,p,q3)⟩:=by rw[V.out,Y];rfl
  clear V Y;have A:=zH (zgs (al.out.ext B) (by simp only;omega) (by simp only;omega) (by simp only;omega) (fun it az=>Qh (b1 it az) (by omega)));go_wp2_with fail;refine A.out.mono ?_;rintro r ab⟨ap,aq,ar,rfl,T,u⟩;obtain⟨N,c1,O,c2,P,Q,rfl,rfl,rfl⟩:=T.fm;have ad:=a6.ext u;obtain⟨r0,r1,ag,ah,ai,aj,ak⟩:=ad.p7;obtain⟨f0,f1,bd,be,bf,bg,bh⟩:=ad.q7;have X:=zH T;have aa:=zH (B.trans u);clear T;go_wp2_with fail
  (try simp only[Exit.inBlock,Exit.then])
  refine bodyPost_ret (v:=entV ⟨kb,bs,i,m,(q1,p,q3)⟩ (Xa N bs.length c1) (Xa O i.length c2) (Xa P m.length Q)) (by simp[results,Tryz.f60,go_sem,entV,r0,r1,ag,ah,ai,aj,ak]) rfl ?_;have ac:=zk1 (q:=w.heap.size+1+1) aa.out (by omega) X.out (by omega);refine⟨Xa N bs.length c1,Xa O i.length c2,Xa P m.length Q,rfl,?_⟩;exact ac
 case false =>
  by_cases hk:k=kb
  ·subst hk;obtain rfl:au=⟨k,za0 d bs,zef h i,ze8 l d m bs,ze0 (n,o,p3) (q1,p,q3)⟩:=by rw[V.out,Y];simp
   clear V Y a7;have a8:Hid (Sl markT s am (Xa y d.length D) d):=zH (Z.out.seen.ext (by decide) B);have b2:Hid (Sl zcl s am (Xa E h.length K) h):=zH (Z.out.counts.ext (by decide) B);have b4:Hid (Sl itemT s am (Xa F l.length L) l):=zH (Z.out.items.ext (by decide) B);have a9:Hid (Sl markT s an (Xa z bs.length C) bs):=zH (al.out.seen.ext (by decide) B);have b3:Hid (Sl zcl s an (Xa G i.length I) i):=zH (al.out.counts.ext (by decide) B);have b5:Hid (Sl itemT s an (Xa H m.length J) m):=zH (al.out.items.ext (by decide) B);go_wp2_with fail
   refine zat [fun v _=>v=Xb (some ⟨w.heap.size,0,none⟩),fun v _=>v=St k,fun v _=>v=Xb (some ⟨w.heap.size,1,none⟩),fun v _=>v=Xa y d.length D,fun v _=>v=Xb (some ⟨(w.heap.size+1),1,none⟩),fun v _=>v=Xa z bs.length C,fun v W=>Own W s.heap.size 97 2 v (za0 d bs).length ((za0 d bs).flatMap zaj),fun v _=>v=Xb (some ⟨w.heap.size,2,none⟩),fun v _=>v=Xa E h.length K,fun v _=>v=Xb (some ⟨(w.heap.size+1),2,none⟩),fun v _=>v=Xa G i.length I,fun v W=>Own W s.heap.size 54 3 v (zef h i).length ((zef h i).flatMap zbx),fun v _=>v=Xb (some ⟨w.heap.size,3,none⟩),fun v _=>v=Xa F l.length L,fun v _=>v=Xb (some ⟨w.heap.size,1,none⟩),fun v _=>v=Xa y d.length D,fun v _=>v=Xb (some ⟨(w.heap.size+1),3,none⟩),fun v _=>v=Xa H m.length J,fun v _=>v=Xb (some ⟨(w.heap.size+1),1,none⟩),fun v _=>v=Xa z bs.length C,fun v W=>OwnL itemT 57 W s.heap.size (fun b=>s.heap.size<=b) v (ze8 l d m bs),fun v _=>v=Xb (some ⟨w.heap.size,4,none⟩),fun v _=>v=zdc (n,o,p3),fun v _=>v=Xb (some ⟨(w.heap.size+1),4,none⟩),fun v _=>v=zdc (q1,p,q3),fun v _=>v=zdc (ze0 (n,o,p3) (q1,p,q3))] rfl (by kernel_rfl) ?hR ?hstep ?hend
   case hR=>simp only[zM];exact⟨kP,kP,kP,kP,kP,kP,fun v _ _ g c=>g.ext c,kP,kP,kP,kP,fun v _ _ g c=>g.ext c,kP,kP,kP,kP,kP,kP,kP,kP,fun v _ _ g c=>g.ext c,kP,kP,kP,kP,kP⟩
   case hstep =>
    simp only[zS,zD,Qr,zbj]
    and_intros<;>intro x W c f
    ·have g:x 2=Xb (some ⟨w.heap.size,0,none⟩):=f.1;go_wp;exact sQ
    ·have g:_=_:=f.1;have c5:=(M.ext c).cell (j:=0) rfl;go_wp;exact sQ
    ·have g:x 2=Xb (some ⟨w.heap.size,0,none⟩):=f.1;go_wp;exact sQ
    ·have g:_=_:=f.1;have ay:=(M.ext c).cell (j:=1) rfl;go_wp;exact sQ
    ·have g:x 3=Xb (some ⟨(w.heap.size+1),0,none⟩):=f.1;go_wp;exact sQ
    ·have g:_=_:=f.1;have ay:=(R.ext c).cell (j:=1) rfl;go_wp;exact sQ
    ·have cs:_=_:=f.1;have ct:_=_:=f.2.1;have S:=c.size;have A:=zH (zjb (a8.out.ext (by decide) c) (a9.out.ext (by decide) c) (by omega) (by omega));go_wp;refine A.out.mono ?_;rintro r ab⟨v,rfl,ae,u⟩;dsimp only;go_wp;refine zaa (v:=v) ?_ u;exact ae.lower S
    ·have g:x 2=Xb (some ⟨w.heap.size,0,none⟩):=f.1;go_wp;exact sQ
    ·have g:_=_:=f.1;have cc:=(M.ext c).cell (j:=2) rfl;go_wp;exact sQ
    ·have g:x 3=Xb (some ⟨(w.heap.size+1),0,none⟩):=f.1;go_wp;exact sQ
    ·have g:_=_:=f.1;have cc:=(R.ext c).cell (j:=2) rfl;go_wp;exact sQ
    ·have cu:_=_:=f.1;have cv:_=_:=f.2.1;have S:=c.size;have A:=zH (zwe (b2.out.ext (by decide) c) (b3.out.ext (by decide) c) (by omega));go_wp;refine A.out.mono ?_;rintro r ab⟨v,rfl,ae,u⟩;dsimp only;go_wp;refine zaa (v:=v) ?_ u;exact ae.lower S
    ·have g:x 2=Xb (some ⟨w.heap.size,0,none⟩):=f.1;go_wp;exact sQ
    ·have g:_=_:=f.1;have cd:=(M.ext c).cell (j:=3) rfl;go_wp;exact sQ
    ·have g:x 2=Xb (some ⟨w.heap.size,0,none⟩):=f.1;go_wp;exact sQ
    ·have g:_=_:=f.1;have ay:=(M.ext c).cell (j:=1) rfl;go_wp;exact sQ
    ·have g:x 3=Xb (some ⟨(w.heap.size+1),0,none⟩):=f.1;go_wp;exact sQ
    ·have g:_=_:=f.1;have cd:=(R.ext c).cell (j:=3) rfl;go_wp;exact sQ
    ·have g:x 3=Xb (some ⟨(w.heap.size+1),0,none⟩):=f.1;go_wp;exact sQ
    ·have g:_=_:=f.1;have ay:=(R.ext c).cell (j:=1) rfl;go_wp;exact sQ
    ·have cw:_=_:=f.1;have cx:_=_:=f.2.1;have cy:_=_:=f.2.2.1;have cz:_=_:=f.2.2.2.1;have S:=c.size;have A:=zH (zw2 (b4.out.ext (by decide) c) (a8.out.ext (by decide) c) (b5.out.ext (by decide) c) (a9.out.ext (by decide) c) (by omega) (by omega) (by omega));go_wp;refine A.out.mono ?_;rintro r ab⟨v,rfl,ae,u⟩;dsimp only;go_wp;refine zaa (v:=v) ?_ u;exact(ae.lower S).mono fun b _ g=>Qh S g
    ·have g:x 2=Xb (some ⟨w.heap.size,0,none⟩):=f.1;go_wp;exact sQ
    ·have g:_=_:=f.1;have ce:=(M.ext c).cell (j:=4) rfl;have cf:=(M.ext c).cell (j:=5) rfl;have cg:=(M.ext c).cell (j:=6) rfl;go_wp;exact sQ
    ·have g:x 3=Xb (some ⟨(w.heap.size+1),0,none⟩):=f.1;go_wp;exact sQ
    ·have g:_=_:=f.1;have ce:=(R.ext c).cell (j:=4) rfl;have cf:=(R.ext c).cell (j:=5) rfl;have cg:=(R.ext c).cell (j:=6) rfl;go_wp;exact sQ
    have c0:_=_:=f.1;have c3:_=_:=f.2.1;have S:=c.size;have A:=zH (zxb (n,o,p3) (q1,p,q3) W);go_wp;refine A.out.mono ?_;rintro r ab⟨rfl,u⟩;dsimp only;go_wp;exact zaa rfl u
   case hend =>
    intro x W c f;obtain⟨-,b9,-,-,-,-,av,-,-,-,-,aw,-,-,-,-,-,-,-,-,ax,-,-,-,-,ca,-⟩:(x 16)=Xb (some ⟨w.heap.size,0,none⟩)/\(x 17)=St k/\(x 18)=Xb (some ⟨w.heap.size,1,none⟩)/\(x 19)=Xa y d.length D/\(x 20)=Xb (some ⟨(w.heap.size+1),1,none⟩)/\(x 21)=Xa z bs.length C/\Own W s.heap.size 97 2 (x 22) (za0 d bs).length ((za0 d bs).flatMap zaj)/\(x 23)=Xb (some ⟨w.heap.size,2,none⟩)/\(x 24)=Xa E h.length K/\(x 25)=Xb (some ⟨(w.heap.size+1),2,none⟩)/\(x 26)=Xa G i.length I/\Own W s.heap.size 54 3 (x 27) (zef h i).length ((zef h i).flatMap zbx)/\(x 28)=Xb (some ⟨w.heap.size,3,none⟩)/\(x 29)=Xa F l.length L/\(x 30)=Xb (some ⟨w.heap.size,1,none⟩)/\(x 31)=Xa y d.length D/\(x 32)=Xb (some ⟨(w.heap.size+1),3,none⟩)/\(x 33)=Xa H m.length J/\(x 34)=Xb (some ⟨(w.heap.size+1),1,none⟩)/\(x 35)=Xa z bs.length C/\OwnL itemT 57 W s.heap.size (fun b=>s.heap.size<=b) (x 36) (ze8 l d m bs)/\(x 37)=Xb (some ⟨w.heap.size,4,none⟩)/\(x 38)=zdc (n,o,p3)/\(x 39)=Xb (some ⟨(w.heap.size+1),4,none⟩)/\(x 40)=zdc (q1,p,q3)/\(x 41)=zdc (ze0 (n,o,p3) (q1,p,q3))/\True:=f;simp only[zS,zD,zU,Qr,Yb,zav,Act.put,b9,ca];obtain⟨N,c1,b6,-,-⟩:=av.form;obtain⟨O,c2,b7,-,-⟩:=aw.form;obtain⟨P,Q,b8,-,-⟩:=ax.form;have t:=a6.ext c;have r0:=t.cell (j:=0) rfl;have f0:=t.frozen 0;have r1:=t.cell (j:=1) rfl;have f1:=t.frozen 1;have ag:=t.cell (j:=2) rfl;have bd:=t.frozen 2;have ah:=t.cell (j:=3) rfl;have be:=t.frozen 3;have ai:=t.cell (j:=4) rfl;have bf:=t.frozen 4;have aj:=t.cell (j:=5) rfl;have bg:=t.frozen 5;have ak:=t.cell (j:=6) rfl;have bh:=t.frozen 6;have X:=zH (EntNew.mk (e:=⟨k,za0 d bs,zef h i,ze8 l d m bs,ze0 (n,o,p3) (q1,p,q3)⟩) av aw ax);simp only[b6,b7,b8]at X ⊢;clear av aw ax;have aa:=zH (B.trans c);go_wp2_with fail
    (try simp only[Exit.inBlock,Exit.then])
    refine bodyPost_ret (v:=entV ⟨k,za0 d bs,zef h i,ze8 l d m bs,ze0 (n,o,p3) (q1,p,q3)⟩ (Xa N (za0 d bs).length c1) (Xa O (zef h i).length c2) (Xa P (ze8 l d m bs).length Q)) (by simp[results,Tryz.f60,go_sem,entV,r0,r1,ag,ah,ai,aj,ak]) rfl ?_;have ac:=zk1 (q:=w.heap.size+1+1) aa.out (by omega) X.out (by omega);refine⟨Xa N (za0 d bs).length c1,Xa O (zef h i).length c2,Xa P (ze8 l d m bs).length Q,rfl,?_⟩;exact ac
  have c6:(k==kb)=false:=(by simp[hk]);obtain rfl:au=⟨k,d,h,l,(n,o,p3)⟩:=by rw[V.out,Y];simp[hk]
  clear V Y;have A:=zH (zgs (Z.out.ext B) (by simp only;omega) (by simp only;omega) (by simp only;omega) (fun it az=>Qh (b0 it az) (by omega)));go_wp2_with fail;refine A.out.mono ?_;rintro r ab⟨ap,aq,ar,rfl,T,u⟩;obtain⟨N,c1,O,c2,P,Q,rfl,rfl,rfl⟩:=T.fm;have ad:=a6.ext u;obtain⟨r0,r1,ag,ah,ai,aj,ak⟩:=ad.p7;obtain⟨f0,f1,bd,be,bf,bg,bh⟩:=ad.q7;have X:=zH T;have aa:=zH (B.trans u);clear T;go_wp2_with fail
  (try simp only[Exit.inBlock,Exit.then])
  refine bodyPost_ret (v:=entV ⟨k,d,h,l,(n,o,p3)⟩ (Xa N d.length c1) (Xa O h.length c2) (Xa P l.length Q)) (by simp[results,Tryz.f60,go_sem,entV,r0,r1,ag,ah,ai,aj,ak]) rfl ?_;have ac:=zk1 (q:=w.heap.size+1+1) aa.out (by omega) X.out (by omega);refine⟨Xa N d.length c1,Xa O h.length c2,Xa P l.length Q,rfl,?_⟩;exact ac
def za4 (l:List Entry)(k:Str):Option Entry:=l.find? fun e=>decide (e.key=k)
theorem zh1:∀(l:List Entry) (k:Str),match l.findIdx? (fun e=>decide (e.key=k))with
  | none=>za4 l k=none
  | some j=>∃pre m post,l=pre++m::post/\pre.length=j/\m.key=k/\za4 l k=some m
 | [],k=>rfl
 | e::r,k=>by
  by_cases a:e.key=k
  ·simp only[Yd,decide_eq_true a,if_true];exact⟨[],e,r,rfl,rfl,a,by simp[za4,a]⟩
  have b:=zh1 r k;simp only[Yd,decide_eq_false a,Bool.false_eq_true,if_false]
  cases c:r.findIdx? (fun e=>decide (e.key=k))with
  | none=>rw[c]at b;simp only[Option.map_none];rw[za4,Qx (by simp[a])];exact b
  | some j=>rw[c]at b;obtain⟨pre,m,post,d,f,g,h⟩:=b;simp only[Option.map_some];refine⟨e::pre,m,post,by rw[d];rfl,by simp[f],g,?_⟩;rw[za4,Qx (by simp[a])];exact h
theorem zeb {w wr:Xf}{q:Nat}(b:Ext w wr)(a:w.heap.size<=q)(e:Entry)(v1 v2 v3:Xg):Ext w (put7 wr q e v1 v2 v3) :=
 ((((((b.set (p:=⟨q,0,none⟩) a _).set (p:=⟨q,1,none⟩) a _).set (p:=⟨q,2,none⟩) a _).set (p:=⟨q,3,none⟩) a _).set (p:=⟨q,4,none⟩) a _).set (p:=⟨q,5,none⟩) a _).set (p:=⟨q,6,none⟩) a _
theorem EntAt.none (w:Xf)(S:Nat->Prop)(A B C:Option Addr):EntAt w S zak (Xa A 0 0) (Xa B 0 0) (Xa C 0 0):=⟨Sl.nil _ _ (by decide),Sl.nil _ _ (by decide),Sl.nil _ _ (by decide)⟩
theorem znf {S:Nat->Prop}{v:Xg}{l:List Entry}{w:Xf}(k:Str)(p:Sl entryT w S v l) :
  Calls Tryz.prog 49 #[v,St k] w fun r w'=>∃v1 v2 v3,r=Xe (.tuple #[entV ((za4 l k).getD zak) v1 v2 v3,Xc (za4 l k).isSome])/\EntAt w' S ((za4 l k).getD zak) v1 v2 v3/\Ext w w':=by
 have D:=(Ext.refl w).alloc (Xd #[St [],Xa none 0 0,Xa none 0 0,Xa none 0 0,.int .u64 0,St [],Xc false] 46);have V:=zaf w 46 [St [],Xa none 0 0,Xa none 0 0,Xa none 0 0,.int .u64 0,St [],Xc false];have O:=zH (zk0 (p.ext (by decide) D));have W:=p;obtain⟨A,c,rfl,an,ao⟩:=p.form;have x:=zH (fun(pre post:List Entry) (m:Entry) (wr:Xf) (ad:Ext w wr) (g:l=pre++m::post)=>zea W ad g);clear p W;go_enter Tryz.func49,Tryz.ntmps49;go_wp2_with fail;generalize ae:w.alloc (Xd #[St [],Xa none 0 0,Xa none 0 0,Xa none 0 0,.int .u64 0,St [],Xc false] 46)=ag at *;clear ae;refine O.out.mono ?_;rintro r Q⟨m,rfl,aq,R,E⟩;have a:=(zbi (P:=Tryz.prog) (z:=0) Tryz.underlying129 zd8 zmf R k).2;have U:=zhc l 0 [] k;have f:=zh1 l k;have h:=D.trans E;have d:=V.ext E;rw[zgv,show ∀L:List (Str×Int),getL 0 L k=(zdd L k).getD 0 from fun _=>rfl,U]at a;simp only[show zdd ([]:List (Str×Int)) k=none from rfl,Nat.zero_add]at a;clear R U O D V E
 cases i:l.findIdx? (fun e=>decide (e.key=k))
 case none=>
  rw[i]at a f;simp only at f;simp only[Option.map_none,Option.getD_none,Option.isSome_none]at a;obtain⟨f0,f1,Y,Z,aa,ab,ac⟩:=d.q7;obtain⟨r0,r1,I,J,K,M,N⟩:=d.p7;have y:=zH h;have HF:=zH f;clear f i h d x;go_wp2_with fail
  (try simp only[Exit.inBlock,Exit.then])
  refine bodyPost_ret (v:=.tuple #[entV zak (Xa none 0 0) (Xa none 0 0) (Xa none 0 0),Xc false]) (by simp[results,Tryz.f49,go_sem,entV,entC,zak,r0,r1,I,J,K,M,N]) rfl ?_;have n:=zeb (q:=w.heap.size) y.out (Qn _) zak (Xa none 0 0) (Xa none 0 0) (Xa none 0 0);have C:=EntAt.none (put7 Q w.heap.size zak (Xa none 0 0) (Xa none 0 0) (Xa none 0 0)) S none none none;refine⟨Xa none 0 0,Xa none 0 0,Xa none 0 0,by rw[HF.out];rfl,?_⟩;rw[HF.out];exact⟨C,n⟩
 rename_i j
 rw[i]at a f;obtain⟨pre,m,post,g,af,hk,T⟩:=f;simp only[Option.map_some,Option.getD_some,Option.isSome_some]at a;obtain⟨b,o,v1,v2,v3,rfl,e0,ah,ai,aj,ak,al,am,B⟩:=x.out pre post m Q h g;obtain⟨s,F,t,G,u,H,rfl,rfl,rfl⟩:=B.fm;have ap:pre.length<l.length:=by rw[g];simp
 subst af;have X:=zH B;obtain⟨f0,f1,Y,Z,aa,ab,ac⟩:=d.q7;obtain⟨r0,r1,I,J,K,M,N⟩:=d.p7;have y:=zH h;have HF:=zH T;clear i h d g B x T hk;go_wp2_with fail
 (try simp only[Exit.inBlock,Exit.then])
 refine bodyPost_ret (v:=.tuple #[entV m (Xa s m.seen.length F) (Xa t m.counts.length G) (Xa u m.items.length H),Xc true]) (by simp[results,Tryz.f49,go_sem,entV,entC,r0,r1,I,J,K,M,N]) rfl ?_;have n:=zeb (q:=w.heap.size) y.out (Qn _) m (Xa s m.seen.length F) (Xa t m.counts.length G) (Xa u m.items.length H);have C:=X.out.ext n;refine⟨Xa s m.seen.length F,Xa t m.counts.length G,Xa u m.items.length H,by rw[HF.out];rfl,?_⟩;rw[HF.out];exact⟨C,n⟩
def zec:List Entry->List Entry->Bool
 | [],[]=>true
 | a::r,b::s=>zbl a b&&zec r s
 | _,_=>false
theorem sameEs_iff:∀ {a b:List Entry},zec a b=true↔a=b
 | [],[]=>by simp[zec]
 | [],_::_=>by simp[zec]
 | _::_,[]=>by simp[zec]
 | a::r,b::s=>by simp[zec,sameE_iff,sameEs_iff]
theorem zuy {a b:List Entry}(c:a.length≠b.length):zec a b=false:=by
 cases d:zec a b with
 | false=>rfl
 | true=>exact absurd (congrArg List.length (sameEs_iff.1 d)) c
theorem zs1 (pre:List Entry)(a b:List Entry):zec (pre++a) (pre++b)=zec a b:=by
 induction pre with
 | nil=>rfl
 | cons x r c=>simp[zec,c,sameE_iff.2 (rfl:x=x)]
abbrev stV (v1 v2 v3:Xg):Xg:=.agg #[v1,v2,v3]
structure StAt (w:Xf) (S:Nat->Prop) (s:State) (v1 v2 v3:Xg):Prop where
 all:Sl markT w S v1 s.all
 entries:Sl entryT w S v2 s.entries
 pruned:Sl strT w S v3 s.pruned
theorem StAt.fm {w:Xf}{S:Nat→Prop}{s:State}{v1 v2 v3:Xg}(d:StAt w S s v1 v2 v3):∃A a B b C c,v1=Xa A s.all.length a∧v2=Xa B s.entries.length b∧v3=Xa C s.pruned.length c:=by obtain⟨A,a,h1,-,-⟩:=d.all.form;obtain⟨B,b,e,-,-⟩:=d.entries.form;obtain⟨C,c,f,-,-⟩:=d.pruned.form;exact⟨A,a,B,b,C,c,h1,e,f⟩
theorem StAt.ext {w w':Xf}{S:Nat->Prop}{s:State}{v1 v2 v3:Xg}(a:StAt w S s v1 v2 v3)(b:Ext w w'):StAt w' S s v1 v2 v3 :=
 ⟨a.all.ext (by decide) b,a.entries.ext (by decide) b,a.pruned.ext (by decide) b⟩
theorem StAt.mono {w:Xf}{S S':Nat->Prop}{s:State}{v1 v2 v3:Xg}(a:StAt w S s v1 v2 v3)(c:∀b,b<w.heap.size->S b->S' b):StAt w S' s v1 v2 v3 :=
 ⟨a.all.mono (by decide) c,a.entries.mono (by decide) c,a.pruned.mono (by decide) c⟩
def zed (a b:State):Bool:=decide (a.all=b.all)&&(decide (a.pruned=b.pruned)&&zec a.entries b.entries)
theorem sameSt_iff {a b:State}:zed a b=true↔a=b:=by
 obtain⟨a1,a2,a3⟩:=a;obtain⟨c,d,e⟩:=b;simp only[zed,Bool.and_eq_true,decide_eq_true_eq,sameEs_iff,State.mk.injEq]
 constructor
 ·rintro⟨h1,h2,h3⟩;exact⟨h1,h3,h2⟩
 rintro⟨h1,h2,h3⟩;exact⟨h1,h3,h2⟩
def SE (base g:Nat)(v:Xg)(b:Nat):Prop:=base<=b/\b≠g/\¬zad v b
def RowE (w:Xf)(base g:Nat)(v:Xg)(l:List Entry):Prop:=OwnL entryT 46 w base (SE base g v) v l
theorem Own.apart {w:Xf}{base T b k n g:Nat}{v:Xg}{xs l j:List Xg}(f:Own w base T k v n xs)(a:RowIs w g b l j)(h:T≠b):¬zad v g:=by
 rintro⟨d,n',c,hv,hc,rfl⟩;rcases f.2 with⟨A,rfl,-⟩|⟨d,m,o,rfl,hb,i,-⟩
 ·cases hv;omega
 cases hv;unfold RowIs at a;rw[i]at a;injection a with e
 injection e with e1 e2 e3
 exact h e2
theorem RowE.own {w:Xf}{base g:Nat}{v:Xg}{l:List Entry}(h:RowE w base g v l):∃xs,Own w base 46 7 v l.length xs:=OwnL.own h
theorem RowE.form {w:Xf}{base g:Nat}{v:Xg}{l:List Entry}(h:RowE w base g v l):∃A c,v=Xa A l.length c/\l.length<=c/\c<=9223372036854775807:=OwnL.form h
theorem RowE.nil (w:Xf)(base g:Nat)(A:Option Addr):RowE w base g (Xa A 0 0) []:=OwnL.nil w A
theorem RowE.ext {w w':Xf}{base g:Nat}{v:Xg}{l:List Entry}(a:RowE w base g v l)(b:Ext w w'):RowE w' base g v l:=OwnL.ext a b
theorem RowE.base_le {w:Xf}{base g:Nat}{v:Xg}{l:List Entry}(h:RowE w base g v l){b:Nat}(hb:zad v b):base<=b/\b<w.heap.size:=OwnL.base_le h hb
theorem RowE.set {w:Xf}{base g j T:Nat}{v u:Xg}{l:List Entry}{k i:List Xg}(a:RowE w base g v l)(h:RowIs w g T k i)(d:46≠T):RowE (w.setCell ⟨g,j,none⟩ u) base g v l:=by
 obtain⟨xs,f⟩:=a.own;exact OwnL.keep a (fun b hb _=>Qa _ _ _ _ hb.2.1) fun b hb _=>Qa _ _ _ _ fun e=>f.apart h d (by have c:b=g:=e;rw[<- c];exact hb)
theorem RowE.keep {w w':Xf}{base g:Nat}{v:Xg}{l:List Entry}(c:RowE w base g v l)(d:∀b,base<=b->b<w.heap.size->b≠g ∨ zad v b->w'.heap[b]? = w.heap[b]?):RowE w' base g v l :=
 OwnL.keep c (fun b hb a=>d b hb.1 a (.inl hb.2.1)) fun b hb a=>d b (OwnL.base_le c hb).1 a (.inr hb)
theorem EntNew.keep {w w':Xf}{lo:Nat}{e:Entry}{v1 v2 v3:Xg}(c:EntNew w lo e v1 v2 v3)(d:∀b,lo<=b->b<w.heap.size->w'.heap[b]? = w.heap[b]?):EntNew w' lo e v1 v2 v3 :=
 ⟨c.seen.keep fun b hb a=>d b (c.seen.base_le hb).1 a,c.counts.keep fun b hb a=>d b (c.counts.base_le hb).1 a,c.items.keep (fun b hb a=>d b hb a) fun b hb a=>d b (c.items.base_le hb).1 a⟩
theorem EntNew.rd {w:Xf}{lo:Nat}{e:Entry}{v1 v2 v3:Xg}{S:Nat->Prop}(a:EntNew w lo e v1 v2 v3)(d:∀b,b<w.heap.size->lo<=b->S b):entryT.rd w S e (entL e v1 v2 v3):=by
 have c:=a.at.mono (S':=S) (fun b hb a=>d b hb a);exact⟨v1,v2,v3,rfl,c.seen,c.counts,c.items⟩
theorem EntAt.rd {w:Xf}{e:Entry}{v1 v2 v3:Xg}{S S':Nat->Prop}(c:EntAt w S e v1 v2 v3)(d:∀b,b<w.heap.size->S b->S' b):entryT.rd w S' e (entL e v1 v2 v3):=by
 have a:=c.mono d;exact⟨v1,v2,v3,rfl,a.seen,a.counts,a.items⟩
theorem zgm {w:Xf}{S:Nat->Prop}{e:Entry}{vs:List Xg}(h:entryT.rd w S e vs):∀u∈vs,u.oneCell'=true:=entryT.one h
theorem RowE.snoc {W d:Xf}{base g lo:Nat}{v v':Xg}{l:List Entry}{m:Entry}{j k n:Xg}{vss:List (List Xg)}(h1:vss.length=l.length)(p:∀(i:Nat) x vs,l[i]? = some x->vss[i]? = some vs->entryT.rd W (SE base g v) x vs)(r:EntNew W lo m j k n)(o:∀b,zad v b->b<lo)(u:g<lo)(t:base<=lo)(q:Own d base 46 7 v' (l.length+1) (vss.flatten++entL m j k n))(f:Grew W d v v'):RowE d base g v' (l++[m]):=by
 refine OwnL.snoc (T:=entryT) h1 (fun i x vs hi s=>?_) ?_ q
 ·have a:=entryT.mono (S':=fun b=>SE base g v b/\b<W.heap.size) (p i x vs hi s) (fun b hb c=>⟨c,hb⟩);have b:=entryT.keep (w':=d) a (fun b hb h=>f.same b h hb.1.2.2)
  exact entryT.mono b fun b _ hb=>⟨hb.1.1,hb.1.2.1,fun e=>by
   rcases f.blk b e with c|c
   ·exact hb.1.2.2 c
   have:=hb.2;omega⟩
 have a:entryT.rd W (fun b=>lo<=b/\b<W.heap.size) m (entL m j k n):=r.rd fun b hb c=>⟨c,hb⟩
 have b:=entryT.keep (w':=d) a (fun b hb h=>f.same b h fun e=>by have:=o b e;omega)
 exact entryT.mono b fun b _ hb=>⟨by omega,by omega,fun e=>by
  rcases f.blk b e with c|c
  ·have:=o b c;omega
  have:=hb.2;omega⟩
def MvR (v:Xg)(w w':Xf):Prop:=w.heap.size<=w'.heap.size/\∀b,b<w.heap.size->¬zad v b->w'.heap[b]? = w.heap[b]?
structure Moved (v:Xg) (w w':Xf):Prop where
 os:w'.os=w.os
 tape:w'.tape=w.tape
 output:w'.output=w.output
 mv:MvR v w w'
theorem Grew.moved {w d w':Xf}{v v':Xg}(a:Ext w d)(c:Grew d w' v v'):Moved v w w' :=
 ⟨c.os.trans a.os,c.tape.trans a.tape,c.output.trans a.output,Qh a.size c.size,fun b hb e=>(c.same b (Ye hb a.size) e).trans (a.block b hb)⟩
theorem Ext.moved {w0 w w':Xf}{v:Xg}(a:Ext w0 w)(c:Moved v w w')(e:∀b,zad v b->w0.heap.size<=b):Ext w0 w' :=
 ⟨c.os.trans a.os,c.tape.trans a.tape,c.output.trans a.output,Qh a.size c.mv.1,fun b hb=>(c.mv.2 b (Ye hb a.size) (fun d=>by have:=e b d;omega)).trans (a.block b hb)⟩
theorem EntNew.mvR {w w':Xf}{lo:Nat}{e:Entry}{v1 v2 v3 v:Xg}(a:EntNew w lo e v1 v2 v3)(m:MvR v w w')(f:∀b,zad v b->b<lo):EntNew w' lo e v1 v2 v3 :=
 a.keep fun b hb c=>m.2 b c fun d=>by have:=f b d;omega
theorem RowIs.mvR {w w':Xf}{g T:Nat}{xs b:List Xg}{v:Xg}(a:RowIs w g T xs b)(m:MvR v w w')(c:¬zad v g):RowIs w' g T xs b:=a.keep (m.2 g a.lt c)
theorem Own.mvR {w w':Xf}{base T k n:Nat}{u v:Xg}{xs:List Xg}(a:Own w base T k u n xs)(m:MvR v w w')(d:∀b,zad u b->¬zad v b):Own w' base T k u n xs :=
 a.keep fun b hb c=>m.2 b c (d b hb)
theorem Own.apart2 {w:Xf}{base base' T a k o n p:Nat}{u v:Xg}{xs q:List Xg}(h:Own w base T k u n xs)(i:Own w base' a o v p q)(j:T≠a):∀b,zad u b->¬zad v b:=by
 rintro b⟨g,m,c,rfl,C,rfl⟩ ⟨z,E,r,rfl,D,rfl⟩;rcases h.2 with⟨A,e,-⟩|⟨f,s,x,e,hb,l,-⟩
 ·cases e;omega
 cases e;rcases i.2 with⟨A,e,-⟩|⟨f,t,y,e,B,d,-⟩
 ·cases e;omega
 cases e;rw[l]at d;injection d with e
 injection e with e1 e2 e3
 exact j e2
structure StNew (w:Xf) (base:Nat) (s:State) (v1 v2 v3:Xg):Prop where
 all:Own w base 97 2 v1 s.all.length (s.all.flatMap zaj)
 entries:OwnL entryT 46 w base (fun b=>base<=b/\¬zad v2 b) v2 s.entries
 pruned:Own w base 9 1 v3 s.pruned.length (s.pruned.flatMap strC)
theorem StNew.fm {w:Xf}{S:Nat}{s:State}{v1 v2 v3:Xg}(d:StNew w S s v1 v2 v3):∃A a B b C c,v1=Xa A s.all.length a∧v2=Xa B s.entries.length b∧v3=Xa C s.pruned.length c:=by obtain⟨A,a,h1,-,-⟩:=d.all.form;obtain⟨B,b,e,-,-⟩:=d.entries.form;obtain⟨C,c,f,-,-⟩:=d.pruned.form;exact⟨A,a,B,b,C,c,h1,e,f⟩
theorem StNew.at {w:Xf}{base:Nat}{s:State}{v1 v2 v3:Xg}(h:StNew w base s v1 v2 v3):StAt w (fun b=>base<=b) s v1 v2 v3 :=
 ⟨zbb h.all,h.entries.sl (by decide) (fun _ _ h=>h.1) (fun _ h _=>h),(OwnL.flat_iff (S:=fun b=>base<=b).2 h.pruned).sl (by decide) (fun _ _ h=>h) (fun _ h _=>h)⟩
structure SmallS (s:State):Prop where
 all:s.all.length<=549755813888
 entries:s.entries.length<=549755813888
 pruned:s.pruned.length<=549755813888
 each:∀e∈s.entries,SmallE e
def zzx (w:Xf)(S:Nat->Prop)(v:Xg):Prop:=∀b o n c,v=Xa (some ⟨b,o,none⟩) n c->0<n->S b/\∃cur T,w.heap[b]? = some (Xd cur T (0,0))
def entryF:Shape Entry where
 k:=7
 rd w S x vs:=entryT.rd w S x vs/\∀v,vs[1]? = some v->zzx w S v
 len h:=entryT.len h.1
 one h:=entryT.one h.1
 keep h hs:=⟨entryT.keep h.1 hs,fun v hv b o n c e hn=>by obtain⟨hS,cur,T,hc⟩:=h.2 v hv b o n c e hn;exact⟨hS,cur,T,(hs b hS (Qk.1 hc).1).trans hc⟩⟩
 mono h hs:=⟨entryT.mono h.1 hs,fun v hv b o n c e hn=>by obtain⟨hS,cur,T,hc⟩:=h.2 v hv b o n c e hn;exact⟨hs b (Qk.1 hc).1 hS,cur,T,hc⟩⟩
theorem EntNew.rdF {w:Xf}{lo:Nat}{e:Entry}{v1 v2 v3:Xg}{S:Nat->Prop}(d:EntNew w lo e v1 v2 v3)(f:∀b,b<w.heap.size->lo<=b->S b):entryF.rd w S e (entL e v1 v2 v3):=by
 refine⟨d.rd f,fun v j b o n c a m=>?_⟩;have k:v1=v:=by simpa using j
 subst k;rcases d.seen.2 with⟨A,h0,-⟩|⟨g,l,i,h0,hb,h,-⟩
 ·rw[h0]at a;cases a;omega
 rw[h0]at a;cases a;exact⟨f _ (Qk.1 h).1 hb,i,_,h⟩
def RowF (w:Xf)(base g:Nat)(v:Xg)(l:List Entry):Prop:=OwnL entryF 46 w base (SE base g v) v l
theorem RowF.own {w:Xf}{base g:Nat}{v:Xg}{l:List Entry}(h:RowF w base g v l):∃xs,Own w base 46 7 v l.length xs:=OwnL.own h
theorem RowF.form {w:Xf}{base g:Nat}{v:Xg}{l:List Entry}(h:RowF w base g v l):∃A c,v=Xa A l.length c/\l.length<=c/\c<=9223372036854775807:=OwnL.form h
theorem RowF.nil (w:Xf)(base g:Nat)(A:Option Addr):RowF w base g (Xa A 0 0) []:=OwnL.nil w A
theorem RowF.ext {w w':Xf}{base g:Nat}{v:Xg}{l:List Entry}(a:RowF w base g v l)(b:Ext w w'):RowF w' base g v l:=OwnL.ext a b
theorem RowF.base_le {w:Xf}{base g:Nat}{v:Xg}{l:List Entry}(h:RowF w base g v l){b:Nat}(hb:zad v b):base<=b/\b<w.heap.size:=OwnL.base_le h hb
theorem RowF.set {w:Xf}{base g j T:Nat}{v u:Xg}{l:List Entry}{k i:List Xg}(a:RowF w base g v l)(h:RowIs w g T k i)(d:46≠T):RowF (w.setCell ⟨g,j,none⟩ u) base g v l:=by
 obtain⟨xs,f⟩:=a.own;exact OwnL.keep a (fun b hb _=>Qa _ _ _ _ hb.2.1) fun b hb _=>Qa _ _ _ _ fun e=>f.apart h d (by have c:b=g:=e;rw[<- c];exact hb)
theorem RowF.snoc {W d:Xf}{base g lo:Nat}{v v':Xg}{l:List Entry}{m:Entry}{j k n:Xg}{vss:List (List Xg)}(h1:vss.length=l.length)(p:∀(i:Nat) x vs,l[i]? = some x->vss[i]? = some vs->entryF.rd W (SE base g v) x vs)(r:EntNew W lo m j k n)(o:∀b,zad v b->b<lo)(u:g<lo)(t:base<=lo)(q:Own d base 46 7 v' (l.length+1) (vss.flatten++entL m j k n))(f:Grew W d v v'):RowF d base g v' (l++[m]):=by
 refine OwnL.snoc (T:=entryF) h1 (fun i x vs hi s=>?_) ?_ q
 ·have a:=entryF.mono (S':=fun b=>SE base g v b/\b<W.heap.size) (p i x vs hi s) (fun b hb c=>⟨c,hb⟩);have b:=entryF.keep (w':=d) a (fun b hb h=>f.same b h hb.1.2.2)
  exact entryF.mono b fun b _ hb=>⟨hb.1.1,hb.1.2.1,fun e=>by
   rcases f.blk b e with c|c
   ·exact hb.1.2.2 c
   have:=hb.2;omega⟩
 have a:entryF.rd W (fun b=>lo<=b/\b<W.heap.size) m (entL m j k n):=r.rdF fun b hb c=>⟨c,hb⟩
 have b:=entryF.keep (w':=d) a (fun b hb h=>f.same b h fun e=>by have:=o b e;omega)
 exact entryF.mono b fun b _ hb=>⟨by omega,by omega,fun e=>by
  rcases f.blk b e with c|c
  ·have:=o b c;omega
  have:=hb.2;omega⟩
theorem OwnL.toT {w:Xf}{base:Nat}{S:Nat->Prop}{v:Xg}{l:List Entry}(a:OwnL entryF 46 w base S v l):OwnL entryT 46 w base S v l:=by
 obtain⟨vss,h1,b,c⟩:=a;exact⟨vss,h1,fun i x vs hi d=>(b i x vs hi d).1,c⟩
structure StNewF (w:Xf) (base:Nat) (s:State) (v1 v2 v3:Xg):Prop where
 all:Own w base 97 2 v1 s.all.length (s.all.flatMap zaj)
 entries:OwnL entryF 46 w base (fun b=>base<=b/\¬zad v2 b) v2 s.entries
 pruned:Own w base 9 1 v3 s.pruned.length (s.pruned.flatMap strC)
theorem StNewF.new {w:Xf}{base:Nat}{s:State}{v1 v2 v3:Xg}(h:StNewF w base s v1 v2 v3):StNew w base s v1 v2 v3:=⟨h.all,h.entries.toT,h.pruned⟩
theorem znh {vss:List (List Xg)}(b:∀x∈vss,x.length=7):vss.flatten.length=vss.length * 7:=by
 induction vss with
 | nil=>rfl
 | cons a r d=>rw[Yg,Qq,d fun x c=>b x (by simp[c]),b a (by simp),List.length_cons,Nat.add_mul];omega
theorem zxp {vss:List (List Xg)}(a:∀x∈vss,x.length=7)(i:Nat)(hi:i<=vss.length):vss.flatten.take (i * 7)=(vss.take i).flatten/\vss.flatten.drop (i * 7)=(vss.drop i).flatten:=by
 have e:vss.flatten=(vss.take i).flatten++(vss.drop i).flatten:=by rw[<- Yc,Qm]
 have b:(vss.take i).flatten.length=i * 7:=by rw[znh fun x c=>a x (Ya c),Yh,Yi hi]
 rw[e,<- b];exact⟨List.take_left,List.drop_left⟩
theorem RowIs.set7 {w:Xf}{g T o:Nat}{X1 X2 tail:List Xg}{i c1 c2 k c4 l m:Xg}(n:RowIs w g T (X1++([i,c1,c2,k,c4,l,m]++X2)) tail)(p:X1.length=o)(d0 d1 b c d f h:Xg) :
  RowIs (((((((w.setCell ⟨g,o,none⟩ d0).setCell ⟨g,o+1,none⟩ d1).setCell ⟨g,o+2,none⟩ b).setCell ⟨g,o+3,none⟩ c).setCell ⟨g,o+4,none⟩ d).setCell ⟨g,o+5,none⟩ f).setCell ⟨g,o+6,none⟩ h) g T (X1++([d0,d1,b,c,d,f,h]++X2)) tail:=by
 subst p;have a:=((((((n.set (j:=X1.length) (by simp) d0).set (j:=X1.length+1) (by simp) d1).set (j:=X1.length+2) (by simp) b).set (j:=X1.length+3) (by simp) c).set (j:=X1.length+4) (by simp) d).set (j:=X1.length+5) (by simp) f).set (j:=X1.length+6) (by simp) h
 have e:((((((((X1++([i,c1,c2,k,c4,l,m]++X2)).set X1.length d0).set (X1.length+1) d1).set (X1.length+2) b).set (X1.length+3) c).set (X1.length+4) d).set (X1.length+5) f).set (X1.length+6) h)=X1++([d0,d1,b,c,d,f,h]++X2):=by simp[List.set_append]
 rw[e]at a;exact a
theorem zn9 {w:Xf}{g T o:Nat}{X1 X2 tail:List Xg}{b c1 c2 c c4 d e:Xg}(a:RowIs w g T (X1++([b,c1,c2,c,c4,d,e]++X2)) tail)(f:X1.length=o) :
  w.cell? ⟨g,o,none⟩=some b/\w.cell? ⟨g,o+1,none⟩=some c1/\w.cell? ⟨g,o+2,none⟩=some c2/\w.cell? ⟨g,o+3,none⟩=some c/\w.cell? ⟨g,o+4,none⟩=some c4/\w.cell? ⟨g,o+5,none⟩=some d/\w.cell? ⟨g,o+6,none⟩=some e:=by
 subst f;exact⟨a.cell (by simp),a.cell (by simp),a.cell (by simp),a.cell (by simp),a.cell (by simp),a.cell (by simp),a.cell (by simp)⟩
theorem len7 {l:List Xg}(e:l.length=7):∃a c1 c2 b c4 c d,l = [a,c1,c2,b,c4,c,d]:=by
 match l,e with
 | [a,c1,c2,b,c4,c,d],_=>exact⟨a,c1,c2,b,c4,c,d,rfl⟩
theorem zpu {W:Xf}{base n:Nat}{S:Nat->Prop}{v:Xg}{l:List Entry}{vss:List (List Xg)}(h1:vss.length=l.length)(d:∀(i:Nat) x vs,l[i]? = some x->vss[i]? = some vs->entryT.rd W S x vs)(p:n=l.length)(a:Own W base 46 7 v n vss.flatten)(hb:∀b,zad v b->S b):Sl entryT W S v l:=by
 subst p;obtain⟨A,c,rfl,h,k⟩:=a.form;refine⟨A,c,rfl,h,k,fun pre x post e=>?_⟩;have D:pre.length<l.length:=by rw[e];simp
 have s:l[pre.length]? = some x:=by rw[e];simp
 have f:vss[pre.length]? = some (vss[pre.length]'(by omega)):=Qd (by omega);have q:=d _ _ _ s f;obtain⟨g,w,z,r,B,C,-,E,-⟩:=a.pos (by omega);injection r with e1 e2 e3
 subst e1;subst e3;refine⟨g,0,_,rfl,hb g ⟨g,_,_,rfl,by omega,rfl⟩,q,fun j u o=>?_⟩;rw[Nat.zero_add];refine a.cell (g:=g) (c:=c) rfl (zii vss _ j _ u ?_ f o);intro y t;obtain⟨i,hi⟩:=Qj t;have m:i<l.length:=by rw[<- h1];exact(Qf.1 hi).1
 exact entryT.len (d i _ y (Qd m) hi)
theorem zz0 {W:Xf}{base i:Nat}{v:Xg}{l:List Entry}{e:Entry}{h m o:Xg}{S D Sx:Nat->Prop}(c:OwnL entryT 46 W base D v l)(hi:i<l.length)(R:EntAt W S e h m o)(I:∀b,S b->¬zad v b/\Sx b)(J:∀b,D b->¬zad v b/\Sx b)(f:∀b,zad v b->Sx b) :
  ∃g q X1 X2 tail s c1 c2 t c4 u w,v=Xa (some ⟨g,0,none⟩) l.length q/\base<=g/\RowIs W g 46 (X1++([s,c1,c2,t,c4,u,w]++X2)) tail/\X1.length=i * 7 /\
   ∀p:Xf,RowIs p g 46 (X1++(entL e h m o++X2)) tail->(∀b,b≠g->b<W.heap.size->p.heap[b]? = W.heap[b]?)->Sl entryT p Sx v (l.set i e):=by
 obtain⟨vss,h1,F,G⟩:=c
 have y:∀x∈vss,x.length=7:=fun x f=>by
  obtain⟨j,d⟩:=Qj f;have V:j<l.length:=by rw[<- h1];exact(Qf.1 d).1
  exact entryT.len (F j _ x (Qd V) d)
 have z:i<vss.length:=by omega
 obtain⟨g,q,tail,rfl,hb,T,P,Y,X⟩:=G.row (by omega);have Z:vss=vss.take i++vss[i]::vss.drop (i+1):=by rw[Qy,Qm]
 have K:vss.flatten=(vss.take i).flatten++(vss[i]++(vss.drop (i+1)).flatten):=by rw[<- Yg,<- Yc,Qy,Qm]
 obtain⟨s,c1,c2,t,c4,u,w,Q⟩:=len7 (y _ (List.getElem_mem z));rw[Q]at K;have O:(vss.take i).flatten.length=i * 7:=by rw[znh fun x f=>y x (Ya f),Yh,Yi (by omega)]
 have N:zad (Xa (some ⟨g,0,none⟩) l.length q) g:=⟨g,l.length,q,rfl,by omega,rfl⟩
 refine⟨g,q,_,_,tail,s,c1,c2,t,c4,u,w,rfl,hb,by rw[<- K];exact T,O,fun p U hk=>?_⟩
 have L:(vss.set i (entL e h m o)).flatten=(vss.take i).flatten++(entL e h m o++(vss.drop (i+1)).flatten):=by rw[List.set_eq_take_append_cons_drop,zP z];simp
 have B:((vss.set i (entL e h m o)).flatten).length=l.length * 7:=by
  rw[znh fun x f=>by
   rcases List.mem_or_eq_of_mem_set f with c|c
   ·exact y x c
   rw[c];rfl,List.length_set,h1]
 refine zpu (vss:=vss.set i (entL e h m o)) (base:=base) (n:=l.length) (by simp[h1]) (fun j x vs d r=>?_) (by simp) ?_ f
 ·by_cases M:i=j
  ·subst M;rw[Qz hi]at d;rw[Qz z]at r;cases d;cases r;have a:=R.rd (S':=fun b=>S b/\b<W.heap.size) (fun b hb c=>⟨c,hb⟩);exact entryT.mono (entryT.keep (w':=p) a fun b hb C=>hk b (fun e=>(I b hb.1).1 (by rw[e];exact N)) C) fun b _ hb=>(I b hb.1).2
  rw[List.getElem?_set_ne M]at d r;have a:=entryT.keep (w':=p) (F j x vs d r) fun b hb C=>hk b (fun e=>(J b hb).1 (by rw[e];exact N)) C
  exact entryT.mono a fun b _ hb=>(J b hb).2
 have:(entL e h m o++(vss.drop (i+1)).flatten).length+(vss.take i).flatten.length+tail.length=q * 7:=by
  have E:=congrArg List.length L;rw[B]at E;have A:=X;rw[show entryT.k=7 from rfl]at A;have H:=G.1;rw[show entryT.k=7 from rfl]at H;simp only[Qq]at E A ⊢;rw[H]at A;omega
 refine U.own hb P Y (by simp only[Qq]at this ⊢;omega) ?_ B;rw[<- L,<- B,List.take_length]
theorem zs4 {W:Xf}{base i:Nat}{v:Xg}{l:List Entry}{e:Entry}{s w y:Xg}{S z Sx:Nat->Prop}(g:OwnL entryT 46 W base z v l)(hi:i<=l.length)(I:EntAt W S e s w y)(A:∀b,S b->¬zad v b/\Sx b)(B:∀b,z b->¬zad v b/\Sx b)(h:∀b,zad v b->Sx b)(J:Sx W.heap.size) :
  ∃xs,Own W base 46 7 v l.length xs/\(∀u∈xs,u.oneCell'=true) /\
   ∀(d:Xf) (v':Xg),Own d base 46 7 v' (l.length+1) (xs.take (i * 7)++entL e s w y++xs.drop (i * 7))->Grew W d v v'->Sl entryT d Sx v' (l.take i++e::l.drop i):=by
 obtain⟨vss,h1,m,G⟩:=g
 have H:∀x∈vss,x.length=7:=fun x h=>by
  obtain⟨j,c⟩:=Qj h;have p:j<l.length:=by rw[<- h1];exact(Qf.1 c).1
  exact entryT.len (m j _ x (Qd p) c)
 refine⟨vss.flatten,G,fun u r=>?_,fun d v' D o=>?_⟩
 ·obtain⟨x,h,r⟩:=List.mem_flatten.1 r;obtain⟨j,c⟩:=Qj h;have p:j<l.length:=by rw[<- h1];exact(Qf.1 c).1
  exact entryT.one (m j _ x (Qd p) c) u r
 obtain⟨f1,F⟩:=zxp H i (by omega);rw[f1,F]at D;refine zpu (vss:=vss.take i++entL e s w y::vss.drop i) (base:=base) (n:=l.length+1) (by simp[h1]) (fun j x vs c f=>?_) (by simp<;>omega) (by simpa using D) (fun b hb=>(o.blk b hb).elim (h b) (fun g=>g▸J));have C:(l.take i).length=i:=by simp;omega
 have E:(vss.take i).length=i:=by simp;omega
 have old:∀k,l[k]? = some x->vss[k]? = some vs->entryT.rd d Sx x vs:=fun k hk K=>by
  have a:=entryT.keep (w':=d) (m k x vs hk K) fun b hb q=>o.same b q (B b hb).1
  exact entryT.mono a fun b _ hb=>(B b hb).2
 rcases Nat.lt_trichotomy j i with hji|rfl|hji
 ·rw[Qt (by omega),Qv hji]at c;rw[Qt (by omega),Qv hji]at f;exact old j c f
 ·rw[Qe (by omega),C,Nat.sub_self]at c;rw[Qe (by omega),E,Nat.sub_self]at f;simp only[List.getElem?_cons_zero,Option.some.injEq]at c f;subst c;subst f;have a:=I.rd (S':=fun b=>S b/\b<W.heap.size) (fun b hb g=>⟨g,hb⟩);exact entryT.mono (entryT.keep (w':=d) a fun b hb q=>o.same b q (A b hb.1).1) fun b _ hb=>(A b hb.1).2
 obtain⟨t,rfl⟩:∃t,j=i+1+t:=⟨j-(i+1),by omega⟩
 rw[Qe (by omega),C,show i+1+t-i=t+1 by omega,Qw,Yf]at c;rw[Qe (by omega),E,show i+1+t-i=t+1 by omega,Qw,Yf]at f;exact old (i+t) c f
theorem zhf {S S':Nat->Prop}{v z:Xg}{A B:List (Mark)}{w:Xf}(ha:Sl markT w S v A)(hb:Sl markT w S' z B) :
  Calls Tryz.prog 15 #[v,z] w fun e w'=>e=Xe (Xc (decide (A=B)))/\Ext w w':=by
 have o:=ha;have p:=hb;obtain⟨H,M,rfl,h1,O⟩:=ha.form;obtain⟨J,N,rfl,P,Q⟩:=hb.form;clear ha hb
 by_cases f:A.length=B.length
 ·have E:=zH f;have t:((A.length:Int) !=(B.length:Int))=false:=by simp[f]
  have G:(A.length !=B.length)=false:=by simp[f]
  have u:((A.length:Int)==(B.length:Int))=true:=by simp[f]
  have C:=zH (fun(pre post:List (Mark)) (m:Mark) (wr:Xf) (n:Ext w wr) (j:A=pre++m::post)=>zf1 o n j);have D:=zH (fun(pre post:List (Mark)) (m:Mark) (wr:Xf) (n:Ext w wr) (j:B=pre++m::post)=>zf1 p n j);have T:A.length<=B.length:=by omega
  clear f o p;go_enter Tryz.func15,Tryz.ntmps15;go_wp2_with fail;clear t G u
  go_loopw [5] (fun i wr=>∃pre d c,A=pre++d/\B=pre++c/\i=I pre.length/\Ext w wr) (fun i _=>A.length-(intOf i).toNat)
  case atStart=>exact⟨[],A,B,rfl,rfl,rfl,Ext.refl _⟩
  obtain⟨pre,d,c,a,b,rfl,g⟩:=hrel;have k:d.length=c.length:=by have:=E.out;rw[a,b]at this;simpa using this
  cases d with
  | cons x d =>
   cases c
   case nil=>simp at k
   rename_i y c
   obtain⟨K,ab,rfl,X,Y⟩:=C.out pre d x wr g a;obtain⟨L,ac,rfl,Z,aa⟩:=D.out pre c y wr g b;have U:pre.length<A.length:=(by rw[a];simp);have V:pre.length<B.length:=(by rw[b];simp);have r:=zH a;have s:=zH b;have h:=zH g;clear a b k g;have R:Tryz.prog.eqGuardType Tryz.prog.depth 97=false:=by kernel_rfl
   by_cases l:x=y
   ·subst l;have q:=fun W=>zkv x x W
    simp only[decide_true,Bool.not_true]at q;go_wp2_with fail;go_quiet (fail);go_wp2_with fail;go_roundw
    case rel=>exact⟨pre++[x],d,c,by rw[r.out];simp,by rw[s.out];simp,by simp,h.out.drewN _⟩
    case measure=>simp[intOf];omega
   have q:=fun W=>zkv x y W
   simp only[l,decide_false,Bool.not_false]at q
   have HF:=zH (show decide (A=B)=false by rw[r.out,s.out];simp[l])
   clear l;go_wp2_with fail;go_quiet (fail);go_wp2_with fail;go_ret;exact⟨by rw[HF.out];rfl,h.out.drewN _⟩
  | nil=>have F:c = []:=Qb (by simpa using k.symm);subst F;rw[Qc]at a b;have j:A.length=pre.length:=(by rw[a]);have HF:=zH (show decide (A=B)=true by rw[a,b];simp);have h:=zH g;clear a b k g;go_wp2_with fail;go_ret;exact⟨by rw[HF.out];rfl,h.out⟩
 have HF:=zH (show decide (A=B)=false by simp;intro e;exact f (by rw[e]));have t:((A.length:Int) !=(B.length:Int))=true:=by simp;omega
 have u:((A.length:Int)==(B.length:Int))=false:=by rw[beq_eq_false_iff_ne];omega
 clear o p;go_enter Tryz.func15,Tryz.ntmps15;go_wp2_with fail;go_ret;exact⟨by rw[HF.out];rfl,Ext.refl _⟩
theorem zqq {S S':Nat->Prop}{v z:Xg}{A B:List (zag)}{w:Xf}(ha:Sl zcl w S v A)(hb:Sl zcl w S' z B) :
  Calls Tryz.prog 48 #[v,z] w fun e w'=>e=Xe (Xc (decide (A=B)))/\Ext w w':=by
 have o:=ha;have p:=hb;obtain⟨H,M,rfl,h1,O⟩:=ha.form;obtain⟨J,N,rfl,P,Q⟩:=hb.form;clear ha hb
 by_cases f:A.length=B.length
 ·have E:=zH f;have t:((A.length:Int) !=(B.length:Int))=false:=by simp[f]
  have G:(A.length !=B.length)=false:=by simp[f]
  have u:((A.length:Int)==(B.length:Int))=true:=by simp[f]
  have C:=zH (fun(pre post:List (zag)) (m:zag) (wr:Xf) (n:Ext w wr) (j:A=pre++m::post)=>zgg o n j);have D:=zH (fun(pre post:List (zag)) (m:zag) (wr:Xf) (n:Ext w wr) (j:B=pre++m::post)=>zgg p n j);have T:A.length<=B.length:=by omega
  clear f o p;go_enter Tryz.func48,Tryz.ntmps48;go_wp2_with fail;clear t G u
  go_loopw [5] (fun i wr=>∃pre d c,A=pre++d/\B=pre++c/\i=I pre.length/\Ext w wr) (fun i _=>A.length-(intOf i).toNat)
  case atStart=>exact⟨[],A,B,rfl,rfl,rfl,Ext.refl _⟩
  obtain⟨pre,d,c,a,b,rfl,g⟩:=hrel;have k:d.length=c.length:=by have:=E.out;rw[a,b]at this;simpa using this
  cases d with
  | cons x d =>
   cases c
   case nil=>simp at k
   rename_i y c
   obtain⟨K,ad,rfl,X,Y,Z⟩:=C.out pre d x wr g a;obtain⟨L,ae,rfl,aa,ab,ac⟩:=D.out pre c y wr g b;have U:pre.length<A.length:=(by rw[a];simp);have V:pre.length<B.length:=(by rw[b];simp);have r:=zH a;have s:=zH b;have h:=zH g;clear a b k g;have R:Tryz.prog.eqGuardType Tryz.prog.depth 54=false:=by kernel_rfl
   by_cases l:x=y
   ·subst l;have q:=fun W=>zju x x W
    simp only[decide_true,Bool.not_true]at q;go_wp2_with fail;go_quiet (fail);go_wp2_with fail;go_roundw
    case rel=>exact⟨pre++[x],d,c,by rw[r.out];simp,by rw[s.out];simp,by simp,h.out.drewN _⟩
    case measure=>simp[intOf];omega
   have q:=fun W=>zju x y W
   simp only[l,decide_false,Bool.not_false]at q
   have HF:=zH (show decide (A=B)=false by rw[r.out,s.out];simp[l])
   clear l;go_wp2_with fail;go_quiet (fail);go_wp2_with fail;go_ret;exact⟨by rw[HF.out];rfl,h.out.drewN _⟩
  | nil=>have F:c = []:=Qb (by simpa using k.symm);subst F;rw[Qc]at a b;have j:A.length=pre.length:=(by rw[a]);have HF:=zH (show decide (A=B)=true by rw[a,b];simp);have h:=zH g;clear a b k g;go_wp2_with fail;go_ret;exact⟨by rw[HF.out];rfl,h.out⟩
 have HF:=zH (show decide (A=B)=false by simp;intro e;exact f (by rw[e]));have t:((A.length:Int) !=(B.length:Int))=true:=by simp;omega
 have u:((A.length:Int)==(B.length:Int))=false:=by rw[beq_eq_false_iff_ne];omega
 clear o p;go_enter Tryz.func48,Tryz.ntmps48;go_wp2_with fail;go_ret;exact⟨by rw[HF.out];rfl,Ext.refl _⟩
theorem ztd {S S':Nat->Prop}{u v:Xg}{A B:List (Str)}{w:Xf}(ha:Sl strT w S u A)(hb:Sl strT w S' v B) :
  Calls Tryz.prog 44 #[u,v] w fun e w'=>e=Xe (Xc (decide (A=B)))/\Ext w w':=by
 have o:=ha;have p:=hb;obtain⟨G,L,rfl,h1,N⟩:=ha.form;obtain⟨H,M,rfl,O,P⟩:=hb.form;clear ha hb
 by_cases f:A.length=B.length
 ·have D:=zH f;have s:((A.length:Int) !=(B.length:Int))=false:=by simp[f]
  have F:(A.length !=B.length)=false:=by simp[f]
  have t:((A.length:Int)==(B.length:Int))=true:=by simp[f]
  have z:=zH (fun(pre post:List (Str)) (m:Str) (wr:Xf) (n:Ext w wr) (j:A=pre++m::post)=>zg0 o n j);have C:=zH (fun(pre post:List (Str)) (m:Str) (wr:Xf) (n:Ext w wr) (j:B=pre++m::post)=>zg0 p n j);have Q:A.length<=B.length:=by omega
  clear f o p;go_enter Tryz.func44,Tryz.ntmps44;go_wp2_with fail;clear s F t
  go_loopw [5] (fun i wr=>∃pre d c,A=pre++d/\B=pre++c/\i=I pre.length/\Ext w wr) (fun i _=>A.length-(intOf i).toNat)
  case atStart=>exact⟨[],A,B,rfl,rfl,rfl,Ext.refl _⟩
  obtain⟨pre,d,c,a,b,rfl,g⟩:=hrel;have k:d.length=c.length:=by have:=D.out;rw[a,b]at this;simpa using this
  cases d with
  | cons x d =>
   cases c
   case nil=>simp at k
   rename_i y c
   obtain⟨J,X,rfl,V⟩:=z.out pre d x wr g a;obtain⟨K,Y,rfl,W⟩:=C.out pre c y wr g b;have R:pre.length<A.length:=(by rw[a];simp);have T:pre.length<B.length:=(by rw[b];simp);have q:=zH a;have r:=zH b;have h:=zH g;clear a b k g
   by_cases l:x=y
   ·subst l;go_wp2_with fail;go_quiet (fail);go_wp2_with fail;go_roundw
    case rel=>exact⟨pre++[x],d,c,by rw[q.out];simp,by rw[r.out];simp,by simp,h.out.drewN _⟩
    case measure=>simp[intOf];omega
   have U:(x==y)=false:=by simpa using l
   have HF:=zH (show decide (A=B)=false by rw[q.out,r.out];simp[l])
   clear l;go_wp2_with fail;go_quiet (fail);go_wp2_with fail;go_ret;exact⟨by rw[HF.out];rfl,h.out.drewN _⟩
  | nil=>have E:c = []:=Qb (by simpa using k.symm);subst E;rw[Qc]at a b;have j:A.length=pre.length:=(by rw[a]);have HF:=zH (show decide (A=B)=true by rw[a,b];simp);have h:=zH g;clear a b k g;go_wp2_with fail;go_ret;exact⟨by rw[HF.out];rfl,h.out⟩
 have HF:=zH (show decide (A=B)=false by simp;intro e;exact f (by rw[e]));have s:((A.length:Int) !=(B.length:Int))=true:=by simp;omega
 have t:((A.length:Int)==(B.length:Int))=false:=by rw[beq_eq_false_iff_ne];omega
 clear o p;go_enter Tryz.func44,Tryz.ntmps44;go_wp2_with fail;go_ret;exact⟨by rw[HF.out];rfl,Ext.refl _⟩
theorem zl7 {S S':Nat->Prop}{ad ae:Xg}{A B:List Item}{w:Xf}(ha:Sl itemT w S ad A)(hb:Sl itemT w S' ae B) :
  Calls Tryz.prog 38 #[ad,ae] w fun e w'=>e=Xe (Xc (decide (A=B)))/\Ext w w':=by
 have M:=ha;have N:=hb;obtain⟨ar,a1,rfl,h1,a6⟩:=ha.form;obtain⟨au,a2,rfl,a7,a8⟩:=hb.form;clear ha hb
 by_cases F:A.length=B.length
 ·have ai:=zH F;have ab:((A.length:Int) !=(B.length:Int))=false:=by simp[F]
  have ao:(A.length !=B.length)=false:=by simp[F]
  have ag:=zH (fun(pre post:List Item) (m:Item) (wr:Xf) (a:Ext w wr) (c:A=pre++m::post)=>zgr M a c);have ah:=zH (fun(pre post:List Item) (m:Item) (wr:Xf) (a:Ext w wr) (c:B=pre++m::post)=>zgr N a c);clear F M N;go_enter Tryz.func38,Tryz.ntmps38;go_wp2_with fail;clear ab ao
  go_loopw [5] (fun i wr=>∃pre z r,A=pre++z/\B=pre++r/\i=I pre.length/\Ext w wr) (fun i _=>A.length-(intOf i).toNat)
  case atStart=>exact⟨[],A,B,rfl,rfl,rfl,Ext.refl _⟩
  obtain⟨pre,z,r,f,l,rfl,E⟩:=hrel;have g:z.length=r.length:=by have:=ai.out;rw[f,l]at this;simpa using this
  cases z with
  | cons x z =>
   cases r
   case nil=>simp at g
   rename_i y r
   obtain⟨ax,bi,u,rfl,U,V,Q⟩:=ag.out pre z x wr E f;obtain⟨ay,bj,v,rfl,af,X,R⟩:=ah.out pre r y wr E l;have Z:=Q;have aa:=R;obtain⟨av,a3,rfl,be,bf⟩:=Q.form;obtain⟨aw,a4,rfl,bg,bh⟩:=R.form;have ba:pre.length<A.length:=(by rw[f];simp);have bc:pre.length<B.length:=(by rw[l];simp);have G:=zH f;have H:=zH l;have k:=zH E;have aj:=zH (fun(p q:List Dot) (m:Dot) (wr:Xf) (a:Ext w wr) (c:x.2=p++m::q)=>zje Z a c);have ak:=zH (fun(p q:List Dot) (m:Dot) (wr:Xf) (a:Ext w wr) (c:y.2=p++m::q)=>zje aa a c);clear f l g E Q R Z aa
   by_cases t:x.1=y.1
   ·rw[t]at U
    by_cases D:x.2.length=y.2.length
    ·have al:=zH D;have ac:((x.2.length:Int) !=(y.2.length:Int))=false:=(by simp[D]);have ap:(x.2.length !=y.2.length)=false:=(by simp[D]);have an:=zH t;clear t D;go_wp2_with fail;go_quiet (fail);clear ac ap;go_wp2_with fail;obtain⟨T,rfl⟩:∃T:Xf,T=wr:=⟨_,rfl⟩
     go_loopw [6] (fun j aq=>∃b C s,x.2=b++C/\y.2=b++s/\j=I b.length/\Ext T aq) (fun j _=>x.2.length-(intOf j).toNat)
     case atStart=>exact⟨[],x.2,y.2,rfl,rfl,rfl,(Ext.refl _).drewN _⟩
     obtain⟨b,C,s,h,n,rfl,o⟩:=hrel;have g:C.length=s.length:=(by have:=al.out;rw[h,n]at this;simpa using this);have bn:=o.cell V;have bo:=o.cell X
     cases C
     case cons d C=>
      cases s
      case nil=>simp at g
      rename_i e s
      obtain⟨az,bk,rfl,d0,d1⟩:=aj.out b C d wr (k.out.trans o) h;obtain⟨a0,bm,rfl,e0,a5⟩:=ak.out b s e wr (k.out.trans o) n;have bb:b.length<x.2.length:=(by rw[h];simp);have bd:b.length<y.2.length:=(by rw[n];simp);have L:=zH h;have Y:=zH n;have J:=zH o;have a9:Tryz.prog.eqGuardType Tryz.prog.depth 59=false:=(by kernel_rfl);clear h n g o U V af X
      by_cases K:d=e
      ·subst K;have P:=fun W=>zmg d d W
       simp only[decide_true,Bool.not_true]at P;go_wp2_with fail;go_quiet (fail);go_wp2_with fail;go_roundw
       case rel=>exact⟨b++[d],C,s,by rw[L.out];simp,by rw[Y.out];simp,by simp,J.out.drewN _⟩
       case measure=>simp[intOf];omega
      have P:=fun W=>zmg d e W
      simp only[K,decide_false,Bool.not_false]at P
      have HF:=zH (show decide (A=B)=false by rw[decide_eq_false_iff_not,G.out,H.out];intro a;have h1:x=y:=(Qs (Qi a)).1;rw[h1,Y.out]at L;exact K (Qs (Qi L.out)).1.symm)
      clear K;go_wp2_with fail;go_quiet (fail);go_wp2_with fail;go_ret;exact⟨by rw[HF.out];rfl,(k.out.trans J.out).drewN _⟩
     have O:s = []:=Qb (by simpa using g.symm);subst O;rw[Qc]at h n;have c:x.2.length=b.length:=(by rw[h]);have am:=zH (show x=y from Prod.ext an.out (h.trans n.symm));have J:=zH (k.out.trans o);clear h n g o U V af X;go_wp2_with fail;go_roundw
     case rel=>exact⟨pre++[x],z,r,by rw[G.out];simp,by rw[H.out,am.out];simp,by simp,J.out⟩
     case measure=>simp[intOf];omega
    have ac:((x.2.length:Int) !=(y.2.length:Int))=true:=by simp;omega
    have HF:=zH (show decide (A=B)=false by rw[decide_eq_false_iff_not,G.out,H.out];intro a;exact D (by rw[(Qs (Qi a)).1]))
    clear t D;go_wp2_with fail;go_quiet (fail);go_wp2_with fail;go_ret;exact⟨by rw[HF.out];rfl,k.out.drewN _⟩
   have hb:(x.1==y.1)=false:=by simpa using t
   have HF:=zH (show decide (A=B)=false by rw[decide_eq_false_iff_not,G.out,H.out];intro a;exact t (by rw[(Qs (Qi a)).1]))
   clear t;go_wp2_with fail;go_quiet (fail);go_wp2_with fail;go_ret;exact⟨by rw[HF.out];rfl,k.out.drewN _⟩
  | nil=>have O:r = []:=Qb (by simpa using g.symm);subst O;rw[Qc]at f l;have c:A.length=pre.length:=(by rw[f]);have HF:=zH (show decide (A=B)=true by rw[f,l];simp);have k:=zH E;clear f l g E;go_wp2_with fail;go_ret;exact⟨by rw[HF.out];rfl,k.out⟩
 have HF:=zH (show decide (A=B)=false by rw[decide_eq_false_iff_not];rintro rfl;exact F rfl);have ab:((A.length:Int) !=(B.length:Int))=true:=by simp;omega
 clear M N;go_enter Tryz.func38,Tryz.ntmps38;go_wp2_with fail;go_ret;exact⟨by rw[HF.out];rfl,Ext.refl _⟩
theorem zte {S S':Nat->Prop}{a b:Entry}{a1 a2 a3 Y Z aa:Xg}{w:Xf}(ha:EntAt w S a a1 a2 a3)(hb:EntAt w S' b Y Z aa) :
  Calls Tryz.prog 17 #[entV a a1 a2 a3,entV b Y Z aa] w fun e w'=>e=Xe (Xc (zbl a b))/\Ext w w':=by
 obtain⟨f,s,q,t,i,k,l⟩:=a;obtain⟨A,bs,u,v,n,o,p⟩:=b;have R:=zH ha;have T:=zH hb;obtain⟨B,E,C,F,D,G,rfl,rfl,rfl⟩:=ha.fm;obtain⟨H,N,I,O,J,P,rfl,rfl,rfl⟩:=hb.fm;have M:Ext w ((w.alloc (Xd #[St f,Xa B s.length E,Xa C q.length F,Xa D t.length G,U i,St k,Xc l] 46)).alloc (Xd #[St A,Xa H bs.length N,Xa I u.length O,Xa J v.length P,U n,St o,Xc p] 46)):=((Ext.refl w).alloc _).alloc _;have c:RowIs ((w.alloc (Xd #[St f,Xa B s.length E,Xa C q.length F,Xa D t.length G,U i,St k,Xc l] 46)).alloc (Xd #[St A,Xa H bs.length N,Xa I u.length O,Xa J v.length P,U n,St o,Xc p] 46)) w.heap.size 46 [St f,Xa B s.length E,Xa C q.length F,Xa D t.length G,U i,St k,Xc l] []:=(zaf w 46 [St f,Xa B s.length E,Xa C q.length F,Xa D t.length G,U i,St k,Xc l]).alloc _;have d:RowIs ((w.alloc (Xd #[St f,Xa B s.length E,Xa C q.length F,Xa D t.length G,U i,St k,Xc l] 46)).alloc (Xd #[St A,Xa H bs.length N,Xa I u.length O,Xa J v.length P,U n,St o,Xc p] 46)) (w.heap.size+1) 46 [St A,Xa H bs.length N,Xa I u.length O,Xa J v.length P,U n,St o,Xc p] []:=by have ab:=zaf (w.alloc (Xd #[St f,Xa B s.length E,Xa C q.length F,Xa D t.length G,U i,St k,Xc l] 46)) 46 [St A,Xa H bs.length N,Xa I u.length O,Xa J v.length P,U n,St o,Xc p];simp only[Qg]at ab;exact ab
 have Q:=zH (zhf (R.out.seen.ext (by decide) M) (T.out.seen.ext (by decide) M));have ar:Tryz.prog.eqGuardType Tryz.prog.depth 44=false:=by kernel_rfl
 clear ha hb
 by_cases hk:f=A
 ·subst hk;have c1:=c.cell (j:=1) rfl;have d1:=d.cell (j:=1) rfl;have g:=zH M;have x:=zH c;have y:=zH d;clear M c d;go_enter Tryz.func17,Tryz.ntmps17;go_wp2_with fail;generalize ((w.alloc (Xd #[St f,Xa B s.length E,Xa C q.length F,Xa D t.length G,U i,St k,Xc l] 46)).alloc (Xd #[St f,Xa H bs.length N,Xa I u.length O,Xa J v.length P,U n,St o,Xc p] 46))=ah at *;refine Q.out.mono ?_;rintro r ai⟨rfl,m⟩;have h:=g.out.trans m;have c:=x.out.ext m;have d:=y.out.ext m;clear Q c1 d1 x y g m
  by_cases h1:s=bs
  ·have V:=zH (zqq (R.out.counts.ext (by decide) h) (T.out.counts.ext (by decide) h));rw[decide_eq_true h1];have c2:=c.cell (j:=2) rfl;have af:=d.cell (j:=2) rfl;have g:=zH h;have x:=zH c;have y:=zH d;have ac:=zH h1;clear h c d h1;go_wp2_with fail;refine V.out.mono ?_;rintro r aj⟨rfl,m⟩;have h:=g.out.trans m;have c:=x.out.ext m;have d:=y.out.ext m;clear V c2 af x y g m
   by_cases K:q=u
   ·have X:=zH (zl7 (R.out.items.ext (by decide) h) (T.out.items.ext (by decide) h));rw[decide_eq_true K];have ae:=c.cell (j:=3) rfl;have ag:=d.cell (j:=3) rfl;have g:=zH h;have x:=zH c;have y:=zH d;have ad:=zH K;clear h c d K;go_wp2_with fail;refine X.out.mono ?_;rintro r ak⟨rfl,m⟩;have h:=g.out.trans m;have c:=x.out.ext m;have d:=y.out.ext m;clear X ae ag x y g m
    by_cases L:t=v
    ·have aq:=fun W=>znc (i,k,l) (n,o,p) W
     rw[decide_eq_true L];have c4:=c.cell (j:=4) rfl;have an:=d.cell (j:=4) rfl;have al:=c.cell (j:=5) rfl;have ao:=d.cell (j:=5) rfl;have am:=c.cell (j:=6) rfl;have ap:=d.cell (j:=6) rfl;have HF:=zH (show zbl ⟨f,s,q,t,i,k,l⟩ ⟨f,bs,u,v,n,o,p⟩=decide ((i,k,l)=(n,o,p)) by simp[zbl,ac.out,ad.out,L]);have g:=zH h;generalize decide ((i,k,l)=(n,o,p))=z at *;clear h c d L;go_wp2_with fail;go_ret;exact⟨by rw[HF.out];rfl,g.out⟩
    have HF:=zH (show zbl ⟨f,s,q,t,i,k,l⟩ ⟨f,bs,u,v,n,o,p⟩=false by simp[zbl,L]);rw[decide_eq_false L];have g:=zH h;clear h c d L;go_wp2_with fail;go_ret;exact⟨by rw[HF.out];rfl,g.out⟩
   have HF:=zH (show zbl ⟨f,s,q,t,i,k,l⟩ ⟨f,bs,u,v,n,o,p⟩=false by simp[zbl,K]);rw[decide_eq_false K];have g:=zH h;clear h c d K;go_wp2_with fail;go_ret;exact⟨by rw[HF.out];rfl,g.out⟩
  have HF:=zH (show zbl ⟨f,s,q,t,i,k,l⟩ ⟨f,bs,u,v,n,o,p⟩=false by simp[zbl,h1]);rw[decide_eq_false h1];have g:=zH h;clear h c d h1;go_wp2_with fail;go_ret;exact⟨by rw[HF.out];rfl,g.out⟩
 have au:(f==A)=false:=by simpa using hk
 have HF:=zH (show zbl ⟨f,s,q,t,i,k,l⟩ ⟨A,bs,u,v,n,o,p⟩=false by simp[zbl,hk]);have g:=zH M;clear M c d hk Q;go_enter Tryz.func17,Tryz.ntmps17;go_wp2_with fail;go_ret;exact⟨by rw[HF.out];rfl,g.out⟩
theorem zlc {S S':Nat->Prop}{a b:State}{a1 a2 a3 af ag ap:Xg}{w:Xf}(ha:StAt w S a a1 a2 a3)(hb:StAt w S' b af ag ap) :
  Calls Tryz.prog 11 #[stV a1 a2 a3,stV af ag ap] w fun e w'=>e=Xe (Xc (zed a b))/\Ext w w':=by
 obtain⟨k,c,l⟩:=a;obtain⟨o,d,p⟩:=b;have ac:=zH ha;have ad:=zH hb;obtain⟨A,G,rfl,-,-⟩:=ha.all.form;obtain⟨B,H,rfl,b8,b9⟩:=ha.entries.form;obtain⟨C,J,rfl,-,-⟩:=ha.pruned.form;obtain⟨K,Q,rfl,-,-⟩:=hb.all.form;obtain⟨L,R,rfl,ca,cb⟩:=hb.entries.form;obtain⟨M,T,rfl,-,-⟩:=hb.pruned.form;have aa:Ext w ((w.alloc (Xd #[Xa A k.length G,Xa B c.length H,Xa C l.length J] 26)).alloc (Xd #[Xa K o.length Q,Xa L d.length R,Xa M p.length T] 26)):=((Ext.refl w).alloc _).alloc _;have g:RowIs ((w.alloc (Xd #[Xa A k.length G,Xa B c.length H,Xa C l.length J] 26)).alloc (Xd #[Xa K o.length Q,Xa L d.length R,Xa M p.length T] 26)) w.heap.size 26 [Xa A k.length G,Xa B c.length H,Xa C l.length J] []:=(zaf w 26 [Xa A k.length G,Xa B c.length H,Xa C l.length J]).alloc _;have h:RowIs ((w.alloc (Xd #[Xa A k.length G,Xa B c.length H,Xa C l.length J] 26)).alloc (Xd #[Xa K o.length Q,Xa L d.length R,Xa M p.length T] 26)) (w.heap.size+1) 26 [Xa K o.length Q,Xa L d.length R,Xa M p.length T] []:=by have N:=zaf (w.alloc (Xd #[Xa A k.length G,Xa B c.length H,Xa C l.length J] 26)) 26 [Xa K o.length Q,Xa L d.length R,Xa M p.length T];simp only[Qg]at N;exact N
 have ai:=zH (zhf (ac.out.all.ext (by decide) aa) (ad.out.all.ext (by decide) aa));have aq:=ac.out.entries;have ar:=ad.out.entries;have a8:=zH (fun(pre post:List Entry) (m:Entry) (wr:Xf) (N:Ext w wr) (Y:c=pre++m::post)=>zea aq N Y);have a9:=zH (fun(pre post:List Entry) (m:Entry) (wr:Xf) (N:Ext w wr) (Y:d=pre++m::post)=>zea ar N Y);clear ha hb aq ar;have bi:=g.cell (j:=0) rfl;have d0:=h.cell (j:=0) rfl;have n:=zH aa;have D:=zH g;have E:=zH h;clear aa g h;go_enter Tryz.func11,Tryz.ntmps11;go_wp2_with fail;generalize ((w.alloc (Xd #[Xa A k.length G,Xa B c.length H,Xa C l.length J] 26)).alloc (Xd #[Xa K o.length Q,Xa L d.length R,Xa M p.length T] 26))=bt at *;refine ai.out.mono ?_;rintro r bu⟨rfl,u⟩;have s:=n.out.trans u;have g:=D.out.ext u;have h:=E.out.ext u;clear ai bi d0 D E n u;have n:=zH s
 by_cases h1:k=o
 ·rw[decide_eq_true h1];have ba:=zH h1;have c1:=g.cell (j:=1) rfl;have d1:=h.cell (j:=1) rfl
  by_cases P:c.length=d.length
  ·have av:((c.length:Int) !=(d.length:Int))=false:=(by simp[P]);have bm:(c.length !=d.length)=false:=(by simp[P]);have be:=zH P;have aj:=zH (ztd (ac.out.pruned.ext (by decide) s) (ad.out.pruned.ext (by decide) s));have c2:=g.cell (j:=2) rfl;have bj:=h.cell (j:=2) rfl;have D:=zH g;have E:=zH h;clear s g h h1 P;go_wp2_with fail;refine aj.out.mono ?_;rintro r bf⟨rfl,u⟩;have s:=n.out.trans u;have g:=D.out.ext u;have h:=E.out.ext u;clear aj c1 d1 c2 bj av bm D E n u;have n:=zH s
   by_cases O:l=p
   ·rw[decide_eq_true O];have am:=zH (show zed ⟨k,c,l⟩ ⟨o,d,p⟩=zec c d by simp[zed,ba.out,O]);have D:=zH g;have E:=zH h;clear s g h O;go_wp2_with fail
    go_loopw [5] (fun i wr=>∃pre z v,c=pre++z/\d=pre++v/\i=I pre.length/\Ext bf wr) (fun i _=>c.length-(intOf i).toNat)
    case atStart=>exact⟨[],c,d,rfl,rfl,rfl,Ext.refl _⟩
    obtain⟨pre,z,v,q,t,rfl,F⟩:=hrel;have Z:z.length=v.length:=(by have:=be.out;rw[q,t]at this;simpa using this);have c1:=(D.out.ext F).cell (j:=1) rfl;have d1:=(E.out.ext F).cell (j:=1) rfl
    cases z with
    | cons x z =>
     cases v
     case nil=>simp at Z
     rename_i y v
     have X:=n.out.trans F;obtain⟨af,cc,a1,a2,a3,rfl,aw,ax,ay,p3,p4,az,a0,U⟩:=a8.out pre z x wr X q;obtain⟨ag,cd,b3,b4,b5,rfl,a4,q1,a5,q3,q4,a6,a7,V⟩:=a9.out pre v y wr X t;have b6:pre.length<c.length:=(by rw[q];simp);have b7:pre.length<d.length:=(by rw[t];simp);have bc:=zH q;have bd:=zH t;obtain⟨bn,bw,rfl,-,-⟩:=U.seen.form;obtain⟨bo,bx,rfl,-,-⟩:=U.counts.form;obtain⟨bp,bz,rfl,-,-⟩:=U.items.form;obtain⟨bq,b0,rfl,-,-⟩:=V.seen.form;obtain⟨br,b1,rfl,-,-⟩:=V.counts.form;obtain⟨bs,b2,rfl,-,-⟩:=V.items.form;have al:=zH (show zec c d=(zbl x y&&zec z v) by rw[q,t,zs1];rfl);have bb:=zH (@sameE_iff x y);obtain⟨bg,ah⟩:∃W,wr.drew=W:=⟨_,rfl⟩
     have f:Ext wr bg:=(by rw[<- ah];exact(Ext.refl wr).drew);have ak:=zH (zte ((U.ext X).ext f) ((V.ext X).ext f));have ae:=zH (F.trans f);have an:=zH ah;clear q t Z F X U V ah;go_wp2_with fail;have r1:=f.cell c1;have s1:=f.cell d1;have ce:=f.cell aw;have cl:=f.cell a4;have cf:=f.cell ax;have cm:=f.cell q1;have cg:=f.cell ay;have cn:=f.cell a5;have ch:=f.cell p3;have co:=f.cell q3;have ci:=f.cell p4;have cp:=f.cell q4;have cj:=f.cell az;have cq:=f.cell a6;have ck:=f.cell a0;have cr:=f.cell a7;clear c1 d1 aw ax ay p3 p4 az a0 a4 q1 a5 q3 q4 a6 a7 f;refine wp_region_still_tail 10 (by kernel_rfl) (by kernel_rfl) ?_;simp only[zD];change wpStill _ _ wr.drew (fun bh=>wpList _ _ _ _ bh wr.drew) _ _;rw[an.out];clear an
     repeat still_step
     refine wpStill_nil ?_;go_wp2_with fail;refine ak.out.mono ?_;rintro r bv⟨rfl,au⟩;have ao:=zH (ae.out.trans au);clear ak au
     cases ab:zbl x y with
     | true =>
      obtain rfl:=bb.out.1 ab;clear ab;go_wp2_with fail;go_roundw
      case rel=>exact⟨pre++[x],z,v,by rw[bc.out];simp,by rw[bd.out];simp,by simp,ao.out⟩
      case measure=>simp[intOf];omega
     | false=>rw[ab]at al;clear ab;go_wp2_with fail;go_ret;exact⟨by rw[am.out,al.out];rfl,n.out.trans ao.out⟩
    | nil=>have bk:v = []:=Qb (by simpa using Z.symm);subst bk;rw[Qc]at q t;have Y:c.length=pre.length:=(by rw[q]);have HF:=zH (show zed ⟨k,c,l⟩ ⟨o,d,p⟩=true by rw[am.out,q,t];exact sameEs_iff.2 rfl);have ae:=zH (n.out.trans F);clear q t Z F;go_wp2_with fail;go_ret;exact⟨by rw[HF.out];rfl,ae.out⟩
   have HF:=zH (show zed ⟨k,c,l⟩ ⟨o,d,p⟩=false by simp[zed,O]);rw[decide_eq_false O];clear s g h O;go_wp2_with fail;go_ret;exact⟨by rw[HF.out];rfl,n.out⟩
  have av:((c.length:Int) !=(d.length:Int))=true:=(by simp;omega);have HF:=zH (show zed ⟨k,c,l⟩ ⟨o,d,p⟩=false by simp[zed,zuy P]);clear s g h h1 P;go_wp2_with fail;go_ret;exact⟨by rw[HF.out];rfl,n.out⟩
 have HF:=zH (show zed ⟨k,c,l⟩ ⟨o,d,p⟩=false by simp[zed,h1]);rw[decide_eq_false h1];clear s g h h1;go_wp2_with fail;go_ret;exact⟨by rw[HF.out];rfl,n.out⟩
end
end Go.Proofs.YtaabaflgeljbjaaGreat
