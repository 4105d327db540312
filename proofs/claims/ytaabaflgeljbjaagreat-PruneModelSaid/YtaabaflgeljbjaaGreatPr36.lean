/- Laws. -/
import Derived.Test.YtaabaflgeljbjaaGreatPr29
import Derived.Test.YtaabaflgeljbjaaGreatPr32
import Derived.Test.YtaabaflgeljbjaaGreatPr30
import Derived.Test.YtaabaflgeljbjaaGreatPr28
import Derived.Test.YtaabaflgeljbjaaGreatPr15
import Derived.Test.YtaabaflgeljbjaaGreatPr26
import Derived.Test.YtaabaflgeljbjaaGreatPr33
import Derived.Test.YtaabaflgeljbjaaGreatPr24
import Derived.Test.YtaabaflgeljbjaaGreatPr34
import Derived.Test.YtaabaflgeljbjaaGreatPr35
import Derived.Test.YtaabaflgeljbjaaGreatPr21
import Derived.Test.YtaabaflgeljbjaaGreatPr01
set_option linter.unusedVariables false
set_option linter.unusedSimpArgs false
set_option maxRecDepth 100000
set_option maxHeartbeats 40000000
namespace Go.Proofs.YtaabaflgeljbjaaGreat
open Go.Value renaming slice→Xa,pointer→Xb,bool→Xc,tuple→Xd
open Go.Obj renaming cells→Xe
open Go renaming World→Xf,Value→Xg
open Go renaming undef→Qd
open List renaming mem_of_getElem?→Qa,getElem?_eq_some_iff→Qb,pairwise_cons→Qf,mem_map→Qg,mem_cons→Qh,mem_singleton→Qi,mem_filter→Qk,map_cons→Ql,mem_append→Qm,length_map→Qn,getElem?_append_left→Qo,getElem?_eq_getElem→Qp,pairwise_map→Qq,length_cons→Qr,getElem?_map→Qs,flatMap_cons→Qt,length_append→Qu,getElem?_append_right→Qw,length_nil→Qy,set_cons_zero→Yb,map_congr_left→Yc,sum_cons→Yd,cons_append→Yf,set_cons_succ→Yg,nil_append→Yh,mem_append_left→Yi,filter_append→Yj,length_set→Yl,getElem?_of_mem→Yn,append_nil→Yq,mem_iff_getElem?→Yt,cons.injEq→Yu,map_nil→Yv,find?_eq_none→Yx,eq_of_mem_replicate→Yy,mem_flatMap→Va,length_filter_le→Vb,mem_cons_of_mem→Vd,filterMap_cons→Vf,getElem?_set→Vj,getElem?_take_of_lt→Vn,all_eq_true→Vo,map_append→Vp,nodup_cons→Vq,filter_eq_nil_iff→Vr,take_append_drop→Vs,mem_append_right→Vt,pairwise_append→Vu,Nodup→Vv,filter_eq_self→Vw,flatMap_append→Vx,getElem?_drop→Ja
open Nat renaming le_trans→Qc,le_refl→Qj,zero_le→Qx,reduceAdd→Yo,lt_of_lt_of_le→Yr,zero_add→Ys,le_antisymm→Vc,le_of_eq→Ve,lt_trichotomy→Vi,lt_or_ge→Vl,eq_or_lt_of_le→Jb
open Go.World renaming size_setCell→Qv,size_alloc→Ye
open Go.RowKit.Below renaming heap_setCell→Qe
open Bool renaming or_eq_true→Qz,and_eq_true→Ya,true_or→Yw,eq_false_iff→Yz,true_and→Vg,and_true→Vh,or_true→Vm,not_eq_true'→Jc,eq_iff_iff→Jf,not_false→Jg
open Option renaming some.inj→Yk,some.injEq→Ym,map_some→Yp,getD_some→Vk,isSome_none→Vy,isSome_some→Vz,getD_none→Jd,map_none→Je
section
open Go.RowKit Go.Shelf
def za1:State:=⟨[],[],[]⟩
abbrev put3 (w:Xf)(q:Nat)(v1 v2 v3:Xg):Xf:=((w.setCell ⟨q,0,none⟩ v1).setCell ⟨q,1,none⟩ v2).setCell ⟨q,2,none⟩ v3
theorem zbn {w wr:Xf}{q:Nat}(b:Ext w wr)(a:w.heap.size<=q)(v1 v2 v3:Xg):Ext w (put3 wr q v1 v2 v3) :=
 ((b.set (p:=⟨q,0,none⟩) a _).set (p:=⟨q,1,none⟩) a _).set (p:=⟨q,2,none⟩) a _
theorem zda (w:Xf)(q:Nat)(v1 v2 v3:Xg)(b:Nat)(hb:b≠q):(put3 w q v1 v2 v3).heap[b]? = w.heap[b]? :=
 ((Qe _ _ _ b hb).trans (Qe _ _ _ b hb)).trans (Qe _ _ _ b hb)
theorem StAt.none (w:Xf)(S:Nat->Prop)(A B C:Option Addr):StAt w S za1 (Xa A 0 0) (Xa B 0 0) (Xa C 0 0):=⟨Sl.nil _ _ (by decide),Sl.nil _ _ (by decide),Sl.nil _ _ (by decide)⟩
theorem StAt.keep {W w:Xf}{S:Nat->Prop}{s:State}{v1 v2 v3:Xg}(a:StAt W S s v1 v2 v3)(c:∀b,S b->b<W.heap.size->w.heap[b]? = W.heap[b]?):StAt w S s v1 v2 v3 :=
 ⟨a.all.keep (by decide) c,a.entries.keep (by decide) c,a.pruned.keep (by decide) c⟩
def zee (s:State)(p:Str)(n:Nat):State×Nat :=
 if p = [] ∨ mayS s=false then(za1,2)else if 281474976710656-ofM s.all p<n then(za1,9)else({ s with all:=setM s.all p (ofM s.all p+n) },0)
theorem zzz {s:State}(h:mayS s=true):mayM s.all=true:=by
 unfold mayS at h;simp only[Ya]at h;exact h.1
theorem ya6 {l:List Mark}(a:mayM l=true)(p:Str):ofM l p<=281474976710656:=ofM_le.2 fun m b _ _=>(mayM_iff.1 a).2.2 m b
theorem zl0 {S:Nat->Prop}{s:State}{v1 v2 v3:Xg}{w:Xf}(p:Str)(n:Nat)(bz:n<18446744073709551616)(x:StAt w S s v1 v2 v3)(a3:SmallS s) :
  Calls Tryz.prog 29 #[stV v1 v2 v3,St p,U n] w fun r w'=>∃a4 a5 a6,r=.returned (Xd #[stV a4 a5 a6,I (zee s p n).2])/\StAt w' (fun b=>w.heap.size<=b) (zee s p n).1 a4 a5 a6/\Ext w w':=by
 have D:=zH (show zee s p n=if p = [] ∨ mayS s=false then(za1,2)else if 281474976710656-ofM s.all p<n then(za1,9)else({ s with all:=setM s.all p (ofM s.all p+n) },0)from rfl);have ac:=zH (fun(y:mayS s=true)=>ya6 (zzz y) p);have bb:=zH a3;obtain⟨a,c,d⟩:=s;obtain⟨J,Q,K,T,L,Y,rfl,rfl,rfl⟩:=x.fm;have F:=((Ext.refl w).alloc (Xe #[Xa J a.length Q,Xa K c.length T,Xa L d.length Y] 26)).alloc (Xe #[Xa none 0 0,Xa none 0 0,Xa none 0 0] 26);have az:=(zaf w 26 [Xa J a.length Q,Xa K c.length T,Xa L d.length Y]).alloc (Xe #[Xa none 0 0,Xa none 0 0,Xa none 0 0] 26);have ak:=zaf (w.alloc (Xe #[Xa J a.length Q,Xa K c.length T,Xa L d.length Y] 26)) 26 [Xa none 0 0,Xa none 0 0,Xa none 0 0];rw[Ye]at ak;have bf:w.heap.size+2<=((w.alloc (Xe #[Xa J a.length Q,Xa K c.length T,Xa L d.length Y] 26)).alloc (Xe #[Xa none 0 0,Xa none 0 0,Xa none 0 0] 26)).heap.size:=by simp
 have M:=zH (x.ext F);have an:=zH (zng (x.ext F) a3);clear x a3
 by_cases O:p = []
 ·subst O;have e:=zH (show zee ⟨a,c,d⟩ [] n=(za1,2) by rw[D.out,zP (.inl rfl)]);have t:=zH F;clear F az ak M an D ac;go_enter Tryz.func29,Tryz.ntmps29;go_wp2_with fail
  (try simp only[Exit.inBlock,Exit.then])
  refine bodyPost_ret (v:=Xd #[stV (Xa none 0 0) (Xa none 0 0) (Xa none 0 0),I 2]) (by simp[results,Tryz.f29,go_sem]) rfl ?_;refine⟨Xa none 0 0,Xa none 0 0,Xa none 0 0,by(rw[e.out];try rfl),?_⟩;rw[e.out];exact⟨StAt.none _ _ _ _ _,t.out⟩
 have b0:(p==[])=false:=by simpa using O
 go_enter Tryz.func29,Tryz.ntmps29;go_wp2_with fail;generalize (w.alloc (Xe #[Xa J a.length Q,Xa K c.length T,Xa L d.length Y] 26)).alloc (Xe #[Xa none 0 0,Xa none 0 0,Xa none 0 0] 26)=bs at *;refine an.out.mono ?_;rintro r bt⟨rfl,h⟩;have ae:=F.trans h;have ai:=az.ext h;have aa:=ak.ext h;have bg:=Qc bf h.size;clear F az ak bf an
 cases y:mayS ⟨a,c,d⟩
 case false=>
  have e:=zH (show zee ⟨a,c,d⟩ p n=(za1,2) by rw[D.out,zP (.inr y)]);obtain⟨r0,r1,Z⟩:=aa.p3;obtain⟨f0,f1,bd⟩:=aa.q3;have t:=zH ae;clear ae h ai aa M D ac y O;go_wp2_with fail
  (try simp only[Exit.inBlock,Exit.then])
  refine bodyPost_ret (v:=Xd #[stV (Xa none 0 0) (Xa none 0 0) (Xa none 0 0),I 2]) (by simp[results,Tryz.f29,go_sem,r0,r1,Z]) rfl ?_;have P:=zbn (q:=w.heap.size+1) t.out (by omega) (Xa none 0 0) (Xa none 0 0) (Xa none 0 0);refine⟨Xa none 0 0,Xa none 0 0,Xa none 0 0,by(rw[e.out];try rfl),?_⟩;rw[e.out];exact⟨StAt.none _ _ _ _ _,P⟩
 have bo:ofM a p<=281474976710656:=ac.out y;have N:=zH (show zee ⟨a,c,d⟩ p n=if 281474976710656-ofM a p<n then(za1,9)else(⟨setM a p (ofM a p+n),c,d⟩,0) by rw[D.out,zN (by simp[O,y])]);have C:=zH (ze1 p (M.out.all.ext (by decide) h));have aq:=ai.cell (j:=0) rfl;have ba:=zH h;clear y O D ac h;go_wp2_with fail;refine C.out.mono ?_;rintro r bi⟨rfl,G⟩;have af:=ae.trans G;have a0:=ai.ext G;have ab:=aa.ext G;have b3:=Qc bg G.size;have ao:=zH ((M.out.ext ba.out).ext G);clear ae ai aa C G bg aq ba M;obtain⟨z,ax⟩:∃z,ofM a p=z:=⟨_,rfl⟩
 rw[ax]at bo N;rw[ax];clear ax;have b2:IntKind.u64.wrap (281474976710656-(z:Int))=281474976710656-(z:Int):=by rw[zca];omega
 by_cases ad:281474976710656-z<n
 ·have e:=zH (show zee ⟨a,c,d⟩ p n=(za1,9) by rw[N.out,zP ad]);have bn:(n:Int)>281474976710656-(z:Int):=(by omega);obtain⟨r0,r1,Z⟩:=ab.p3;obtain⟨f0,f1,bd⟩:=ab.q3;have t:=zH af;clear af a0 ab ao N ad;go_wp2_with fail
  (try simp only[Exit.inBlock,Exit.then])
  refine bodyPost_ret (v:=Xd #[stV (Xa none 0 0) (Xa none 0 0) (Xa none 0 0),I 9]) (by simp[results,Tryz.f29,go_sem,r0,r1,Z]) rfl ?_;have P:=zbn (q:=w.heap.size+1) t.out (by omega) (Xa none 0 0) (Xa none 0 0) (Xa none 0 0);refine⟨Xa none 0 0,Xa none 0 0,Xa none 0 0,by(rw[e.out];try rfl),?_⟩;rw[e.out];exact⟨StAt.none _ _ _ _ _,P⟩
 have e:=zH (show zee ⟨a,c,d⟩ p n=(⟨setM a p (z+n),c,d⟩,0) by rw[N.out,zN ad]);have bn:¬(n:Int)>281474976710656-(z:Int):=(by omega);have b1:IntKind.u64.wrap ((z:Int)+(n:Int))=((z+n:Nat):Int):=(by rw[zca];omega);obtain⟨aq,bj,bk⟩:=a0.p3;have a8:=zH (zjx ao.out bb.out);clear N ad a0;go_wp2_with fail;refine a8.out.mono ?_;rintro r g⟨a4,a5,a6,rfl,av,ag⟩;obtain⟨am,ay,l,A,m,B,rfl,rfl,rfl⟩:=av.fm;have b4:=ag.size;have ah:=(Ext.refl g).alloc (Xe #[Xa am a.length ay,Xa l c.length A,Xa m d.length B] 26);have a1:=zaf g 26 [Xa am a.length ay,Xa l c.length A,Xa m d.length B];have ap:=zH ((av.at.mono (S':=fun b=>bi.heap.size<=b/\b<g.heap.size) (fun b hb x=>⟨x,hb⟩)).ext ah);have bh:=(ab.ext ag).ext ah;have be:=(af.trans ag).trans ah;have a9:=zH (zj9 p (z+n) (ap.out.all) (Qc bb.out.all (by decide)));have b6:=a1.lt;clear av ag ah ab af a8 aq bj bk;go_wp2_with fail;generalize g.alloc (Xe #[Xa am a.length ay,Xa l c.length A,Xa m d.length B] 26)=bu at *;refine a9.out.mono ?_;rintro r bc⟨u,rfl,aw,H⟩;obtain⟨f,i,rfl,-,-⟩:=aw.form;have aj:=a1.ext H;have al:=bh.ext H;have b5:=H.size;obtain⟨b7,b8,b9⟩:=aj.p3;have ca:=aj.frozen 0;have ar:=aj.set (j:=0) (by simp) (Xa f (setM a p (z+n)).length i);simp only[Yb]at ar;obtain⟨cb,cc,cd⟩:=ar.p3;obtain⟨bp,bq,br⟩:=al.p3;obtain⟨bv,bw,bx⟩:=al.q3;have a2:=al.other (p:=⟨g.heap.size,0,none⟩) (by simp;omega) (Xa f (setM a p (z+n)).length i);obtain⟨r0,r1,Z⟩:=a2.p3;obtain⟨f0,f1,bd⟩:=a2.q3;have t:=zH ((be.trans H).set (p:=⟨g.heap.size,0,none⟩) (by simp;omega) (Xa f (setM a p (z+n)).length i));have C:=zH aw;have a7:=zH (ap.out.ext H);clear aw a1 aj bh al ar a2 be H a9 ap ao;go_wp2_with fail
 (try simp only[Exit.inBlock,Exit.then])
 refine bodyPost_ret (v:=Xd #[stV (Xa f (setM a p (z+n)).length i) (Xa l c.length A) (Xa m d.length B),I 0]) (by simp[results,Tryz.f29,go_sem,r0,r1,Z,bp,bq,br]) rfl ?_;have P:=zbn (q:=w.heap.size+1) t.out (by omega) (Xa f (setM a p (z+n)).length i) (Xa l c.length A) (Xa m d.length B);refine⟨Xa f (setM a p (z+n)).length i,Xa l c.length A,Xa m d.length B,by(rw[e.out];try rfl),?_⟩;rw[e.out];refine⟨?_,P⟩
 have au:∀b,b≠g.heap.size->b≠w.heap.size+1->(put3 (bc.setCell ⟨g.heap.size,0,none⟩ (Xa f (setM a p (z+n)).length i)) (w.heap.size+1) (Xa f (setM a p (z+n)).length i) (Xa l c.length A) (Xa m d.length B)).heap[b]? = bc.heap[b]?:=fun b h1 bm=>(zda _ _ _ _ _ b bm).trans (Qe _ _ _ _ h1)
 refine⟨?_,?_,?_⟩
 ·exact(zbb (C.out.keep fun b hb _=>au b (by have:=(C.out.base_le hb).1;omega) (by have:=(C.out.base_le hb).1;omega))).mono (by decide) fun b _ x=>by omega
 ·exact(a7.out.entries.keep (by decide) fun b hb _=>au b (by omega) (by omega)).mono (by decide) fun b _ hb=>by omega
 exact(a7.out.pruned.keep (by decide) fun b hb _=>au b (by omega) (by omega)).mono (by decide) fun b _ hb=>by omega
theorem ya8 {α:Type}{T:Shape α}{hk:0<T.k}{w:Xf}{S:Nat->Prop}{g:Nat}{v1 v2:Xg}{d e:List α}(h1:Sl T w S v1 d)(h:Sl T w S v2 e)(c:S g)(f:w.cell? ⟨g,0,none⟩=some v1)(c1:w.cell? ⟨g,1,none⟩=some v2):Sl (slT T hk) w S (Xa (some ⟨g,0,none⟩) 2 2) [d,e]:=by
 refine⟨some ⟨g,0,none⟩,2,rfl,by simp,by omega,fun pre x post b=>?_⟩
 match pre,b with
 | [],b =>
  simp only[Yh,Yu]at b;obtain⟨rfl,-⟩:=b
  exact⟨g,0,[v1],rfl,c,⟨v1,rfl,h1⟩,fun j u a=>by
   match j,a with
   | 0,a=>simp at a;subst a;simpa using f
   | j+1,a=>simp at a⟩
 | [p],b =>
  simp only[Yf,Yh,Yu]at b;obtain⟨-,rfl,-⟩:=b
  exact⟨g,0,[v2],rfl,c,⟨v2,rfl,h⟩,fun j u a=>by
   match j,a with
   | 0,a=>simp at a;subst a;simpa[slT]using c1
   | j+1,a=>simp at a⟩
 | p::q::r,b=>simp at b
def CS (w:Xf)(S:Nat->Prop)(b:Nat):Prop:=S b/\∃o:Obj,w.heap[b]? = some o/\o.isCells=true
theorem zs6 {w:Xf}{p:Addr}{v:Xg}(a:w.cell? p=some v):∃o:Obj,w.heap[p.block]? = some o/\o.isCells=true:=by
 unfold World.cell? at a
 cases b:w.heap[p.block]? with
 | none=>rw[b]at a;cases a
 | some o=>rw[b]at a;cases o<;>first|exact⟨_,rfl,rfl⟩|cases a
theorem Sl.isC {α:Type}{T:Shape α}{w:Xf}{S:Nat->Prop}{v:Xg}{l:List α}(hk:0<T.k)(m:∀x vs,T.rd w S x vs->T.rd w (CS w S) x vs)(f:Sl T w S v l):Sl T w (CS w S) v l:=by
 obtain⟨A,c,q,h1,g,h⟩:=f;refine⟨A,c,q,h1,g,fun pre x post j=>?_⟩;obtain⟨b,o,vs,e,i,d,a⟩:=h pre x post j;refine⟨b,o,vs,e,⟨i,?_⟩,m x vs d,a⟩;have r:=T.len d;have h0:vs[0]? = some vs[0]:=by simp
 exact zs6 (a 0 _ h0)
theorem zxt {w:Xf}{S:Nat->Prop}{x:Item}{vs:List Xg}(h:itemT.rd w S x vs):itemT.rd w (CS w S) x vs:=by
 obtain⟨v,e,h⟩:=h;exact⟨v,e,h.isC (by decide) fun _ _ h=>h⟩
theorem zu4 {w:Xf}{S:Nat->Prop}{x:Entry}{vs:List Xg}(a:entryT.rd w S x vs):entryT.rd w (CS w S) x vs:=by
 obtain⟨v1,v2,v3,e,h1,b,c⟩:=a;exact⟨v1,v2,v3,e,h1.isC (by decide) fun _ _ a=>a,b.isC (by decide) fun _ _ a=>a,c.isC (by decide) fun _ _ a=>zxt a⟩
theorem RowE.kept {w w':Xf}{base g:Nat}{v:Xg}{l:List Entry}{row:Option Nat}(c:RowE w base g v l)(f:w.grownBy w' row)(j:∀r,row=some r->∃o:Obj,w.heap[r]? = some o/\o.isCells=false):RowE w' base g v l:=by
 obtain⟨vss,h1,m,q⟩:=c;refine⟨vss,h1,fun i x vs hi y=>?_,q.kept f j⟩;have a:=zu4 (m i x vs hi y);refine entryT.mono (entryT.keep a fun b hb t=>f.block b t fun e=>?_) fun b _ c=>c.1
 obtain⟨o,u,s⟩:=j b e.symm;obtain⟨-,o',h,d⟩:=hb;rw[u]at h;cases h;rw[s]at d;cases d
theorem RowIs.kept {w w':Xf}{g T:Nat}{xs c:List Xg}{row:Option Nat}(a:RowIs w g T xs c)(f:w.grownBy w' row)(h:∀r,row=some r->∃o:Obj,w.heap[r]? = some o/\o.isCells=false):RowIs w' g T xs c :=
 a.keep (f.block g a.lt fun e=>by obtain⟨o,b,d⟩:=h g e.symm;unfold RowIs at a;rw[a]at b;cases b;cases d)
theorem Ext.keepsO {W W':Xf}(h:Ext W W'):KeepsOthers W W':=⟨h.size,fun b o hb _=>(h.block b (Array.getElem?_eq_some_iff.1 hb).1).trans hb⟩
structure OldK (n g:Nat) (W W':Xf):Prop where
 os:W'.os=W.os
 tape:W'.tape=W.tape
 output:W'.output=W.output
 size:n<=W'.heap.size
 same:∀b,b<n->b≠g->W'.heap[b]? = W.heap[b]?
theorem OldK.refl {n g:Nat}{W:Xf}(h:n<=W.heap.size):OldK n g W W:=⟨rfl,rfl,rfl,h,fun _ _ _=>rfl⟩
theorem OldK.ext {n g:Nat}{W W' d:Xf}(a:OldK n g W W')(c:Ext W' d):OldK n g W d :=
 ⟨c.os.trans a.os,c.tape.trans a.tape,c.output.trans a.output,Qc a.size c.size,fun b hb e=>(c.block b (by have:=a.size;omega)).trans (a.same b hb e)⟩
theorem OldK.set {n g j:Nat}{W W':Xf}(a:OldK n g W W')(v:Xg):OldK n g W (W'.setCell ⟨g,j,none⟩ v) :=
 ⟨a.os,a.tape,a.output,by simpa using a.size,fun b hb c=>(Qe _ _ _ _ c).trans (a.same b hb c)⟩
theorem OldK.new {n g p j:Nat}{W W':Xf}(a:OldK n g W W')(d:n<=p)(v:Xg):OldK n g W (W'.setCell ⟨p,j,none⟩ v) :=
 ⟨a.os,a.tape,a.output,by simpa using a.size,fun b hb c=>(Qe W' ⟨p,j,none⟩ v b (show b≠p by omega)).trans (a.same b hb c)⟩
theorem OldK.grew {n g:Nat}{W W' c:Xf}{v v':Xg}(a:OldK n g W W')(k:Grew W' c v v')(f:∀b,zad v b->n<=b):OldK n g W c :=
 ⟨k.os.trans a.os,k.tape.trans a.tape,k.output.trans a.output,Qc a.size k.size,fun b hb d=>(k.same b (by have:=a.size;omega) (fun e=>by have:=f b e;omega)).trans (a.same b hb d)⟩
theorem OldK.low {n g:Nat}{W W' c:Xf}(a:OldK n g W W')(k:Below n W' c):OldK n g W c :=
 ⟨k.os.trans a.os,k.tape.trans a.tape,k.output.trans a.output,Qc a.size k.size,fun b hb d=>(k.block b hb).trans (a.same b hb d)⟩
theorem OldK.below {n g:Nat}{w W W':Xf}(a:OldK n g W W')(c:Ext w W)(d:w.heap.size<=n)(e:w.heap.size<=g):Ext w W' :=
 ⟨a.os.trans c.os,a.tape.trans c.tape,a.output.trans c.output,Qc d a.size,fun b hb=>(a.same b (by omega) (by omega)).trans (c.block b hb)⟩
theorem OldK.kps {n g:Nat}{a W W':Xf}(d:OldK n g a W)(e:OldK n g a W')(f:W.heap.size<=W'.heap.size):KpS (fun b=>b<n/\b≠g) n W W' :=
 ⟨f,fun b hb c=>(e.same b c hb.2).trans (d.same b c hb.2).symm⟩
theorem OldK.from (n g:Nat)(d:Xf){β:Type}(B:Nat)(i:n<=B):OwnFrom B (fun(_:β) W=>OldK n g d W):=fun s W W' row a c h =>
 ⟨c.os.trans a.os,c.tape.trans a.tape,c.output.trans a.output,Qc a.size c.size,fun b hb f=>(c.block b (by have:=a.size;omega) (fun e=>by have:=(h b e.symm).1;omega)).trans (a.same b hb f)⟩
theorem MapIs.not_row {κ ν:Type}[DecidableEq κ]{K:κ->Xg}{V:ν->Xg}{w:Xf}{b T:Nat}{L:List (κ×ν)}{xs d:List Xg}(a:MapIs K V w b L)(c:RowIs w b T xs d):False:=by
 obtain⟨_,_,a,_⟩:=a;unfold RowIs at c;rw[c]at a;cases a
theorem zl3 {w:Xf}{q T:Nat}{e0 e:Entry}{a1 a2 a3 v1 v2 v3:Xg}(h:RowIs w q T (entL e0 a1 a2 a3) []):RowIs (put7 w q e v1 v2 v3) q T (entL e v1 v2 v3) []:=by
 have:=RowIs.set7 (X1:=[]) (X2:=[]) (o:=0) (by simpa using h) rfl (St e.key) v1 v2 v3 (U e.cell.1) (St e.cell.2.1) (Xc e.cell.2.2)
 simpa using this
def getE (l:List Entry)(k:Str):Entry:=(za4 l k).getD zak
def zhd (a b:List Entry):List Entry:=(zb8 a b).map fun k=>zbz (getE a k) (getE b k)
def zb9 (a b:State):State:=⟨za0 a.all b.all,zhd a.entries b.entries,Lib.compact (zbw (a.pruned++b.pruned))⟩
theorem zxu (a b:List Str):(zcf a b).length<=a.length+b.length:=by
 fun_induction zcf a b<;>simp_all<;>omega
theorem zz5 (va a:Xg)(w:Xf)(ha:va.oneCell'=true)(hb:a.oneCell'=true) :
  Calls Tryz.prog 59 #[va,a] w fun e w'=>e=.returned (.func (.func 109) #[] #[Xb (some ⟨w.heap.size,0,none⟩),Xb (some ⟨w.heap.size+1,0,none⟩)])/\w'=(w.alloc (Xe #[va] 23)).alloc (Xe #[a] 23):=by
 go_enter Tryz.func59,Tryz.ntmps59;go_wp2;go_ret;exact⟨rfl,rfl⟩
theorem zu5 (n:Nat)(s:1<=n){S:Nat->Prop}{n₀ a c:Nat}{va i:Xg}{A B:List Entry}{w:Xf}(t:n₀<=w.heap.size)(h1:w.cell? ⟨a,0,none⟩=some va)(f:w.cell? ⟨c,0,none⟩=some i)(g:S a)(h:S c)(e:∀b,S b->b<n₀)(ha:Sl entryT w S va A)(hb:Sl entryT w S i B) :
  SeqStopsK Fence.wide n Tryz.prog 109 #[Xb (some ⟨a,0,none⟩),Xb (some ⟨c,0,none⟩)] (fun x=>#[St x]) (KpS S n₀) (fun u=>u=zb8 A B) (fun pre=>pre <+: zb8 A B) (zb8 A B).length w :=
 fun l j m W d hJ _ r h0 =>
  zz4 n l a c n₀ j m s W hJ (Qc t d.size) r (d.cell (p:=⟨a,0,none⟩) (zae h1) |>.trans h1) (d.cell (p:=⟨c,0,none⟩) (zae f) |>.trans f)
   ⟨g,e _ g⟩ ⟨h,e _ h⟩ (ha.ext (by decide) d) (hb.ext (by decide) d) (fun b q _=>e b q) h0
attribute [local go_sem] Oper.semAt_some
theorem yh7 (w:Xf)(a:Obj)(T:Nat)(xs:List Xg):RowIs ((w.alloc a).alloc (Xe xs.toArray T)) (w.heap.size+1) T xs []:=by
 have h:=zaf (w.alloc a) T xs
 rwa[Ye]at h
theorem ykh (w:Xf)(a b:Obj)(T:Nat)(xs:List Xg):RowIs (((w.alloc a).alloc b).alloc (Xe xs.toArray T)) (w.heap.size+1+1) T xs []:=by
 have h:=yh7 (w.alloc a) b T xs
 rwa[Ye]at h
theorem zib {jt ju:Nat->Prop}{s1 s2:State}{a1 a2 a3 dw hd he:Xg}{w:Xf}(h1:StAt w jt s1 a1 a2 a3)(ai:StAt w ju s2 dw hd he)(iy:SmallS s1)(iz:SmallS s2) :
  Calls Tryz.prog 25 #[stV a1 a2 a3,stV dw hd he] w fun r w'=>∃A B C,r=.returned (stV A B C)/\StNew w' w.heap.size (zb9 s1 s2) A B C/\Ext w w':=by
 obtain⟨af,i,ap⟩:=s1;obtain⟨ag,t,aq⟩:=s2;obtain⟨bu,cf,Y,ac,bv,cg,rfl,rfl,rfl⟩:=h1.fm;obtain⟨bw,cd,Z,ab,bx,ce,rfl,rfl,rfl⟩:=ai.fm;obtain⟨cl,bk⟩:∃X,Hid ((((w.alloc (Xe #[Xa bu af.length cf,Xa Y i.length ac,Xa bv ap.length cg] 26)).alloc (Xe #[Xa bw ag.length cd,Xa Z t.length ab,Xa bx aq.length ce] 26)).alloc (Xe #[Xa none 0 0,Xa none 0 0,Xa none 0 0] 26))=X):=⟨_,zH rfl⟩
 have cz:Ext w cl:=by rw[<- bk.out];exact(((Ext.refl w).alloc _).alloc _).alloc _
 have fk:RowIs cl w.heap.size 26 [Xa bu af.length cf,Xa Y i.length ac,Xa bv ap.length cg] []:=by rw[<- bk.out];exact((zaf w _ _).alloc _).alloc _
 have fo:RowIs cl (w.heap.size+1) 26 [Xa bw ag.length cd,Xa Z t.length ab,Xa bx aq.length ce] []:=by rw[<- bk.out];exact(yh7 w _ _ _).alloc _
 have it:RowIs cl (w.heap.size+1+1) 26 [Xa none 0 0,Xa none 0 0,Xa none 0 0] []:=by rw[<- bk.out];exact ykh w _ _ _ _
 have fi:w.heap.size+3<=cl.heap.size:=by rw[<- bk.out];simp
 have hh:=h1.mono (S':=fun b=>b<w.heap.size) (fun b hb _=>hb);have hi:=ai.mono (S':=fun b=>b<w.heap.size) (fun b hb _=>hb);have ef:=zH (hh.ext cz);have eg:=zH (hi.ext cz);have du:=zH iy;have dv:=zH iz;have gl:=zH (zjb ef.out.all eg.out.all (Qc du.out.all (by decide)) (Qc dv.out.all (by decide)));clear h1 ai hh hi iy iz;refine(callsIn_wide (n:=9)).1 ?_;refine callsIn_of_wp_marks Tryz.func25 rfl trivial ?_ rfl;simp only[Tryz.ntmps25,List.size_toArray,Qr,Qy,Yo,Nat.reduceSub,Array.replicate_succ,Array.replicate_zero,List.push_toArray,List.append_toArray,Yh,Yf];refine wpIn_wide.2 ?_;go_wp2_with fail;rw[bk.out];clear bk;have jw:=fk.cell (j:=0) rfl;have jx:=fo.cell (j:=0) rfl;refine gl.out.mono ?_;rintro r y⟨v1,rfl,fd,a4⟩;obtain⟨J1,bh,rfl,-,-⟩:=fd.form;have kq:=cz.trans a4;obtain⟨N,cw⟩:∃X,Hid ((y.alloc (Xe #[(Xa J1 (za0 af ag).length bh),(Xa none 0 0),(Xa none 0 0)] 26))=X):=⟨_,zH rfl⟩
 have bg:Ext y N:=by rw[<- cw.out];exact(Ext.refl y).alloc _
 have iq:RowIs N y.heap.size 26 [(Xa J1 (za0 af ag).length bh),(Xa none 0 0),(Xa none 0 0)] []:=by rw[<- cw.out];exact zaf y _ _
 have fl:RowIs N _ _ _ _:=fk.ext (a4.trans bg);have fp:RowIs N _ _ _ _:=fo.ext (a4.trans bg);have iu:RowIs N _ _ _ _:=it.ext (a4.trans bg);have mt:=Qc fi a4.size;have g0:=zH (show Ext w N from(cz.trans a4).trans bg);have eh:=zH (ef.out.ext (a4.trans bg));have ej:=zH (eg.out.ext (a4.trans bg));have kr:y.heap.size+1<=N.heap.size:=by rw[<- cw.out];simp
 have gx:=zH ((fd.ext bg).lower (base':=w.heap.size+3) fi);have gh:=zH iq;clear cz fk fo it fi gl fd kq a4 ef eg bg iq;go_wp2_with fail;clear jw jx;rw[cw.out];clear cw;have l9:=kr;have hm:∀W,Ext N W->Sl entryT W (fun b=>b<w.heap.size) (Xa Y i.length ac) i:=fun W h=>(eh.out.entries.ext (by decide) h)
 have hn:∀W,Ext N W->Sl entryT W (fun b=>b<w.heap.size) (Xa Z t.length ab) t:=fun W h=>(ej.out.entries.ext (by decide) h)
 have f6:=zH hm;have f9:=zH hn;clear hm hn
 refine zni [fun v _=>v=Xb (some ⟨w.heap.size,1,none⟩),fun v _=>v=Xa Y i.length ac,fun v W=>∃m,v=.map (some m)/\N.heap.size<=m/\MapIs St I W m (plF 0 [] i),fun v _=>v=Xb (some ⟨w.heap.size+1,1,none⟩),fun v _=>v=Xa Z t.length ab,fun v W=>∃m,v=.map (some m)/\N.heap.size<=m/\MapIs St I W m (plF 0 [] t),fun v W=>∃g,v=Xb (some ⟨g,0,none⟩)/\N.heap.size<=g/\RowIs W g 129 [.map none] [],fun v W=>∃g,v=Xb (some ⟨g,0,none⟩)/\N.heap.size<=g/\RowIs W g 129 [.map none] []] [6,7] rfl (by kernel_rfl) (by kernel_rfl) ?hR ?hstep ?hend
 case hR =>
  simp only[zM]
  exact⟨kP,kP,fun v _ _ d h=>by obtain⟨m,e,z,d⟩:=d;exact⟨m,e,z,d.ext h⟩,kP,kP,fun v _ _ d h=>by obtain⟨m,e,z,d⟩:=d;exact⟨m,e,z,d.ext h⟩,fun v _ _ d h=>by obtain⟨g,e,z,d⟩:=d;exact⟨g,e,z,d.ext h⟩,fun v _ _ d h=>by obtain⟨g,e,z,d⟩:=d;exact⟨g,e,z,d.ext h⟩⟩
 case hstep =>
  simp only[zS,zD,Yo,zd1]
  and_intros<;>intro x W h f
  ·have d:x 2=Xb (some ⟨w.heap.size,0,none⟩):=f.1;go_wp;exact zaa (r:=zbg _ _ _ _) ⟨rfl,fun d=>by simp at d⟩ (Ext.refl _)
  ·have d:_=_:=f.1;have e6:=(fl.ext h).cell (j:=1) rfl;go_wp;exact zaa (r:=zbg _ _ _ _) ⟨rfl,fun d=>by simp at d⟩ (Ext.refl _)
  ·have d:_=_:=f.1;have al:=h.size;have ay:=zH (zk0 (f6.out W h));go_wp;refine ay.out.mono ?_;rintro r H⟨m,rfl,kk,ez,c0⟩;dsimp only;go_wp;exact zaa (v:=.map (some m)) (r:=zbg _ _ _ _) ⟨⟨m,rfl,by omega,ez⟩,fun d=>by simp at d⟩ c0
  ·have d:x 3=Xb (some ⟨w.heap.size+1,0,none⟩):=f.1;go_wp;exact zaa (r:=zbg _ _ _ _) ⟨rfl,fun d=>by simp at d⟩ (Ext.refl _)
  ·have d:_=_:=f.1;have e6:=(fp.ext h).cell (j:=1) rfl;go_wp;exact zaa (r:=zbg _ _ _ _) ⟨rfl,fun d=>by simp at d⟩ (Ext.refl _)
  ·have d:_=_:=f.1;have al:=h.size;have ay:=zH (zk0 (f9.out W h));go_wp;refine ay.out.mono ?_;rintro r H⟨m,rfl,kk,ez,c0⟩;dsimp only;go_wp;exact zaa (v:=.map (some m)) (r:=zbg _ _ _ _) ⟨⟨m,rfl,by omega,ez⟩,fun d=>by simp at d⟩ c0
  ·have al:=h.size;have bf:=zaf W 129 [.map none];go_wp;exact zaa (r:=zbg _ _ _ _) ⟨⟨W.heap.size,rfl,al,bf⟩,fun _=>⟨W.heap.size,rfl,Qj _,by simp⟩⟩ ((Ext.refl W).alloc _)
  have al:=h.size;have bf:=zaf W 129 [.map none];go_wp;exact zaa (r:=zbg _ _ _ _) ⟨⟨W.heap.size,rfl,al,bf⟩,fun _=>⟨W.heap.size,rfl,Qj _,by simp⟩⟩ ((Ext.refl W).alloc _)
 case hend =>
  intro am W h d3 f;obtain⟨T,j4,mm,cr⟩:∃m,am 23=.map (some m)/\N.heap.size<=m/\MapIs St I W m (plF 0 [] i):=f.2.2.1;obtain⟨U,j5,mn,cs⟩:∃m,am 26=.map (some m)/\N.heap.size<=m/\MapIs St I W m (plF 0 [] t):=f.2.2.2.2.2.1;obtain⟨J,hj,kb,aw⟩:∃g,am 6=Xb (some ⟨g,0,none⟩)/\N.heap.size<=g/\RowIs W g 129 [.map none] []:=f.2.2.2.2.2.2.1;obtain⟨M,hl,kc,ax⟩:∃g,am 7=Xb (some ⟨g,0,none⟩)/\N.heap.size<=g/\RowIs W g 129 [.map none] []:=f.2.2.2.2.2.2.2.1;have h4:J≠M:=fun e=>d3.1 7 (by simp) (by rw[hj,hl,e])
  clear f d3;simp only[zS,zD,zU,Yo,Vf,zav,Act.put,j4,j5,hj,hl];have ij:=aw.cell (j:=0) rfl;have q7:=ax.cell (j:=0) rfl;have kz:=aw.frozen 0;have k0:=ax.frozen 0;have e8:T≠J/\T≠M:=⟨fun e=>by subst e;exact cr.not_row aw,fun e=>by subst e;exact cr.not_row ax⟩
  have e9:U≠J/\U≠M:=⟨fun e=>by subst e;exact cs.not_row aw,fun e=>by subst e;exact cs.not_row ax⟩
  have hk:∀b,b≠J->b≠M->((W.setCell ⟨J,0,none⟩ (.map (some T))).setCell ⟨M,0,none⟩ (.map (some U))).heap[b]? = W.heap[b]?:=fun b h1 ai=>(Qe _ _ _ _ ai).trans (Qe _ _ _ _ h1)
  have il:RowIs ((W.setCell ⟨J,0,none⟩ (.map (some T))).setCell ⟨M,0,none⟩ (.map (some U))) J 129 [.map (some T)] []:=by have d:=(aw.set (j:=0) (by simp) (.map (some T))).other (p:=⟨M,0,none⟩) (by simpa using h4.symm) (.map (some U));simpa using d
  have im:RowIs ((W.setCell ⟨J,0,none⟩ (.map (some T))).setCell ⟨M,0,none⟩ (.map (some U))) M 129 [.map (some U)] []:=by have d:=(ax.other (p:=⟨J,0,none⟩) (by simpa using h4) (.map (some T))).set (j:=0) (by simp) (.map (some U));simpa using d
  have a5:Ext N ((W.setCell ⟨J,0,none⟩ (.map (some T))).setCell ⟨M,0,none⟩ (.map (some U))):=(h.set (p:=⟨J,0,none⟩) kb _).set (p:=⟨M,0,none⟩) kc _;have gq:=zH (cr.keep (w':=((W.setCell ⟨J,0,none⟩ (.map (some T))).setCell ⟨M,0,none⟩ (.map (some U)))) (hk _ e8.1 e8.2));have gr:=zH (cs.keep (w':=((W.setCell ⟨J,0,none⟩ (.map (some T))).setCell ⟨M,0,none⟩ (.map (some U)))) (hk _ e9.1 e9.2));have mu:((W.setCell ⟨J,0,none⟩ (.map (some T))).setCell ⟨M,0,none⟩ (.map (some U))).heap.size<=W.heap.size/\W.heap.size<=((W.setCell ⟨J,0,none⟩ (.map (some T))).setCell ⟨M,0,none⟩ (.map (some U))).heap.size:=by simp
  have md:=aw.lt;have me:=ax.lt;have mo:=cr.lt;have mp:=cs.lt;have ma:=h.size;clear cr cs hk aw ax h e8 e9;have fn:=fl.ext a5;have fq:=fp.ext a5;have iv:=iu.ext a5;have gi:=zH (gh.out.ext a5);have gy:=zH (gx.out.ext a5);have g1:=zH (g0.out.trans a5);have f5:=zH (eh.out.ext a5);have f8:=zH (ej.out.ext a5);clear fl fp iu a5 gh gx g0 eh ej f6 f9;have dw:=fq.cell (j:=1) rfl;have a1:=fn.cell (j:=1) rfl;go_wp;clear ij q7 kz k0;go_wp2_with fail;generalize ((W.setCell ⟨J,0,none⟩ (.map (some T))).setCell ⟨M,0,none⟩ (.map (some U)))=H at *;have jk:=zH (zz5 (Xa Y i.length ac) (Xa Z t.length ab) H rfl rfl);refine jk.out.mono ?_;rintro r nt⟨rfl,rfl⟩;have aj:Ext H ((H.alloc (Xe #[Xa Y i.length ac] 23)).alloc (Xe #[Xa Z t.length ab] 23)):=((Ext.refl H).alloc _).alloc _;have ks:((H.alloc (Xe #[Xa Y i.length ac] 23)).alloc (Xe #[Xa Z t.length ab] 23)).cell? ⟨H.heap.size,0,none⟩=some (Xa Y i.length ac):=by simp[go_sem]
  have kt:((H.alloc (Xe #[Xa Y i.length ac] 23)).alloc (Xe #[Xa Z t.length ab] 23)).cell? ⟨H.heap.size+1,0,none⟩=some (Xa Z t.length ab):=by simp[go_sem]
  have mv:((H.alloc (Xe #[Xa Y i.length ac] 23)).alloc (Xe #[Xa Z t.length ab] 23)).heap.size<=H.heap.size+2/\H.heap.size+2<=((H.alloc (Xe #[Xa Y i.length ac] 23)).alloc (Xe #[Xa Z t.length ab] 23)).heap.size:=by simp
  clear a1 dw;go_wp2_with fail;generalize (H.alloc (Xe #[Xa Y i.length ac] 23)).alloc (Xe #[Xa Z t.length ab] 23)=ao at *
  skip
  have io:=fn.ext aj;have ip:=fq.ext aj;have k4:=iv.ext aj;have gj:=zH (gi.out.ext aj);have gz:=zH (gy.out.ext aj);have jq:=zH (g1.out.trans aj);have ei:=zH (f5.out.ext aj);have ek:=zH (f8.out.ext aj);have jo:=zH (gq.out.ext aj);have jp:=zH (gr.out.ext aj);have k1:=il.ext aj;have k2:=im.ext aj;have k3:=gj.out;clear fn fq iv aj gi gy g1 f5 f8 gq gr il im;have h2:=zxu (i.map (·.key)) (t.map (·.key));rw[Qn,Qn]at h2;have mq:i.length<=549755813888:=du.out.entries;have mr:t.length<=549755813888:=dv.out.entries;refine(wpIn_wide (n:=9)).1 ?_
  refine wpIn_rangeFunc_ownG rfl (by omega) (gf:=109) (lb:=#[Xb (some ⟨H.heap.size,0,none⟩),Xb (some ⟨H.heap.size+1,0,none⟩)]) rfl trivial (enters_of Tryz.func109 (by kernel_rfl) rfl)
   (zu5 8 (by omega) (w:=ao) (n₀:=ao.heap.size) (S:=fun b=>b<ao.heap.size/\b≠y.heap.size) (Qj _) ks kt ⟨by omega,by omega⟩ ⟨by omega,by omega⟩ (fun b d=>d.1)
    (ei.out.entries.mono (by decide) fun b hb d=>⟨hb,by omega⟩) (ek.out.entries.mono (by decide) fun b hb d=>⟨hb,by omega⟩))
   (fun d k=>d.trans k) (KpS.put (Qj _)) (Below.refl _ _) (fun _=>rfl)
   (fun pre W=>∃G,RowIs W y.heap.size 26 [(Xa J1 (za0 af ag).length bh),G,(Xa none 0 0)] []/\RowE W ao.heap.size y.heap.size G (pre.map fun k=>zbz (getE i k) (getE t k))/\OldK ao.heap.size y.heap.size ao W)
   (fun _ _ _=>False)
   (fun s W W' row ⟨G,h1,ai,es⟩ az a0=>⟨G,h1.kept az (fun r e=>(a0 r e).2),ai.kept az (fun r e=>(a0 r e).2),OldK.from _ _ _ _ (Qj _) () W W' row es az a0⟩)
   (fun _ _ _ _ _ al _ _=>al)
   ⟨_,gj.out,RowE.nil _ _ _ _,OldK.refl (Qj _)⟩
   ?a1 ?assign ?body ?done ?stop
  case stop=>rintro a8 c pre W _ _ d _;exact d.elim
  case assign =>
   intro l x W K hK
   gi_wp2
   exact hK
  case body =>
   rintro l pre x W⟨G,cv,bj,F⟩ bd;have ka:=F.size;have mc:y.heap.size<ao.heap.size:=(by omega);have d9:=io.keep (F.same w.heap.size (by omega) (by omega));have ea:=ip.keep (F.same (w.heap.size+1) (by omega) (by omega));have aw:=k1.keep (F.same J (by omega) (by omega));have ax:=k2.keep (F.same M (by omega) (by omega));have g4:=jo.out.keep (F.same T (by omega) (by omega));have g5:=jp.out.keep (F.same U (by omega) (by omega));have f3:=ei.out.entries.keep (by decide) (w':=W) (fun b hb ai=>F.same b (by omega) (by omega));have f4:=ek.out.entries.keep (by decide) (w':=W) (fun b hb ai=>F.same b (by omega) (by omega));have cq:=bj.form;rw[Qn]at cq;obtain⟨a7,bc,rfl,-,-⟩:=cq;have mf:pre.length<=1099511627776:=Qc (Nat.le_of_lt bd) (Qc h2 (by omega));obtain⟨b4,b9⟩:∃X,Hid (((W.alloc (Xe #[St [],Xa none 0 0,Xa none 0 0,Xa none 0 0,.int .u64 0,St [],Xc false] 46)).alloc (Xe #[St [],Xa none 0 0,Xa none 0 0,Xa none 0 0,.int .u64 0,St [],Xc false] 46))=X):=⟨_,zH rfl⟩
   have cc:Ext W b4:=(by rw[<- b9.out];exact((Ext.refl W).alloc _).alloc _);have c5:RowIs b4 W.heap.size 46 [St [],Xa none 0 0,Xa none 0 0,Xa none 0 0,.int .u64 0,St [],Xc false] []:=(by rw[<- b9.out];exact(zaf W _ _).alloc _);have r10:RowIs b4 (W.heap.size+1) 46 [St [],Xa none 0 0,Xa none 0 0,Xa none 0 0,.int .u64 0,St [],Xc false] []:=(by rw[<- b9.out];exact yh7 W _ _ _);have mx:b4.heap.size<=W.heap.size+2/\W.heap.size+2<=b4.heap.size:=by rw[<- b9.out];simp
   skip
   have cb:=zh1 i x;have bq:=zh1 t x;have ds:=zH cv;have em:=zH bj;have eo:=zH F;have b2:=zH (show _/\_/\_/\_/\_/\_ from⟨aw,ax,d9,ea,g4,g5⟩);clear cv bj F aw ax d9 ea g4 g5;refine wpIn_block (wpIn_seq_k ?_);intro js hq;have gm:=zH hq;clear hq
   gi_wp2_with fail
   refine gm.out _ _ ?_;clear gm js;rw[b9.out];clear b9;have ij:=(b2.out.1.ext cc).cell (j:=0) rfl;have ik:=(b2.out.2.2.1.ext cc).cell (j:=1) rfl;have ca:=(zbi (P:=Tryz.prog) (z:=0) Tryz.underlying129 zd8 zmf (b2.out.2.2.2.2.1.ext cc) x).2;rw[zgv,show ∀L:List (Str×Int),getL 0 L x=(zdd L x).getD 0 from fun _=>rfl,zhc i 0 [] x]at ca;simp only[show zdd ([]:List (Str×Int)) x=none from rfl,Ys]at ca;have gd:=zH (fun(pre post:List Entry) (m:Entry) (e7:i=pre++m::post)=>zea f3 cc e7);clear f3;refine wpIn_seq_k ?_;intro g2 hr;have bi:=zH hr;clear hr
   have g8:∀ ⦃db dc de df dg dh di dj dk dl dm dn dp dq:Xg⦄ (ae:Entry) (fu fv fw:Xg) (b5:Xf),RowIs b5 W.heap.size 46 (entL ae fu fv fw) []->RowIs b5 (W.heap.size+1) 46 (entL zak (Xa none 0 0) (Xa none 0 0) (Xa none 0 0)) []->Ext W b5->EntAt W (fun b=>b<w.heap.size) ae fu fv fw->getE i x=ae->SmallE ae->g2 ⟨#[stV (Xa bu af.length cf) (Xa Y i.length ac) (Xa bv ap.length cg),stV (Xa bw ag.length cd) (Xa Z t.length ab) (Xa bx aq.length ce),Xb (some ⟨w.heap.size,0,none⟩),Xb (some ⟨w.heap.size+1,0,none⟩),Xb (some ⟨w.heap.size+1+1,0,none⟩),Xb (some ⟨y.heap.size,0,none⟩),Xb (some ⟨J,0,none⟩),Xb (some ⟨M,0,none⟩),St x,Xb (some ⟨W.heap.size,0,none⟩),Xb (some ⟨W.heap.size+1,0,none⟩),db,dc,Qd,Qd,Xb (some ⟨w.heap.size,0,none⟩),Xa bu af.length cf,Xb (some ⟨w.heap.size+1,0,none⟩),Xa bw ag.length cd,Xa J1 (za0 af ag).length bh,.agg #[Xa J1 (za0 af ag).length bh,Xa none 0 0,Xa none 0 0],am 21,am 22,.map (some T),am 24,am 25,.map (some U),Xb (some ⟨w.heap.size,1,none⟩),Xa Y i.length ac,Xb (some ⟨w.heap.size+1,1,none⟩),Xa Z t.length ab,.func (.func 109) #[] #[Xb (some ⟨H.heap.size,0,none⟩),Xb (some ⟨H.heap.size+1,0,none⟩)],St x,de,df,dg,dh,di,dj,dk,dl,dm,dn,dp,dq,Qd,Qd,Qd,Qd,Qd,Qd,Qd,Qd,Qd,Qd,Qd,Qd,Qd,Qd,Qd,Qd,Qd,Qd,Qd,Qd,Qd,Qd,Qd,Qd,Qd,Qd,Qd,Qd,Qd,Qd,Qd,Qd,Qd,Qd,Qd],[]⟩ b5:=by
    intro db dc de df dg dh di dj dk dl dm dn dp dq ae fu fv fw b5 br a6 aa e2 bm fb;obtain⟨bz,b6,b0,b7,b1,b8,rfl,rfl,rfl⟩:=e2.fm;have jh:=zH e2;have ge:=zH bm;clear e2 bm;refine bi.out _ _ ?_;clear bi g2;refine wpIn_seq_k ?_;intro g3 hs;have a9:=zH hs;clear hs;have q7:=(b2.out.2.1.ext aa).cell (j:=0) rfl;have fj:=(b2.out.2.2.2.1.ext aa).cell (j:=1) rfl;have bp:=(zbi (P:=Tryz.prog) (z:=0) Tryz.underlying129 zd8 zmf (b2.out.2.2.2.2.2.ext aa) x).2;rw[zgv,show ∀L:List (Str×Int),getL 0 L x=(zdd L x).getD 0 from fun _=>rfl,zhc t 0 [] x]at bp;simp only[show zdd ([]:List (Str×Int)) x=none from rfl,Ys]at bp;have el:=zH (fun(pre post:List Entry) (m:Entry) (e7:t=pre++m::post)=>zea f4 aa e7);clear f4
    have g9:∀ ⦃db dc i0 i1 de df dg dh di dj dk dl dm dn dp dq i2 i3 i4 i5 i6 i7 i8 i9 ja jc jd je:Xg⦄ (au:Entry) (fx fy fz:Xg) (ak:Xf),RowIs ak W.heap.size 46 (entL ae (Xa bz ae.seen.length b6) (Xa b0 ae.counts.length b7) (Xa b1 ae.items.length b8)) []->RowIs ak (W.heap.size+1) 46 (entL au fx fy fz) []->Ext W ak->EntAt W (fun b=>b<w.heap.size) au fx fy fz->getE t x=au->SmallE au->g3 ⟨#[stV (Xa bu af.length cf) (Xa Y i.length ac) (Xa bv ap.length cg),stV (Xa bw ag.length cd) (Xa Z t.length ab) (Xa bx aq.length ce),Xb (some ⟨w.heap.size,0,none⟩),Xb (some ⟨w.heap.size+1,0,none⟩),Xb (some ⟨w.heap.size+1+1,0,none⟩),Xb (some ⟨y.heap.size,0,none⟩),Xb (some ⟨J,0,none⟩),Xb (some ⟨M,0,none⟩),St x,Xb (some ⟨W.heap.size,0,none⟩),Xb (some ⟨W.heap.size+1,0,none⟩),db,dc,i0,i1,Xb (some ⟨w.heap.size,0,none⟩),Xa bu af.length cf,Xb (some ⟨w.heap.size+1,0,none⟩),Xa bw ag.length cd,Xa J1 (za0 af ag).length bh,.agg #[Xa J1 (za0 af ag).length bh,Xa none 0 0,Xa none 0 0],am 21,am 22,.map (some T),am 24,am 25,.map (some U),Xb (some ⟨w.heap.size,1,none⟩),Xa Y i.length ac,Xb (some ⟨w.heap.size+1,1,none⟩),Xa Z t.length ab,.func (.func 109) #[] #[Xb (some ⟨H.heap.size,0,none⟩),Xb (some ⟨H.heap.size+1,0,none⟩)],St x,de,df,dg,dh,di,dj,dk,dl,dm,dn,dp,dq,i2,i3,i4,i5,i6,i7,i8,i9,ja,jc,jd,je,Qd,Qd,Qd,Qd,Qd,Qd,Qd,Qd,Qd,Qd,Qd,Qd,Qd,Qd,Qd,Qd,Qd,Qd,Qd,Qd,Qd,Qd,Qd],[]⟩ ak:=by
     intro db dc i0 i1 de df dg dh di dj dk dl dm dn dp dq i2 i3 i4 i5 i6 i7 i8 i9 ja jc jd je au fx fy fz ak c6 c3 av e5 bn fc;obtain⟨ci,cm,cj,cn,ck,co,rfl,rfl,rfl⟩:=e5.fm;have ji:=zH e5;have gg:=zH bn;clear e5 bn br a6 aa q7 fj bp el bq;refine a9.out _ _ ?_;clear a9 g3;have eb:=ds.out.ext av;have dz:=em.out.ext av;have f7:=zH (jh.out.ext av);have ga:=zH (ji.out.ext av);have kd:=eb.lt;have ms:=av.size;obtain⟨D,hJ⟩:∃D,D=zbz ae au:=⟨_,rfl⟩
     have jj:=zH hJ
     refine zet [fun v _=>v=Xb (some ⟨y.heap.size,1,none⟩),fun v _=>v=Xa a7 pre.length bc,fun v _=>v=entV ae (Xa bz ae.seen.length b6) (Xa b0 ae.counts.length b7) (Xa b1 ae.items.length b8),fun v _=>v=entV au (Xa ci au.seen.length cm) (Xa cj au.counts.length cn) (Xa ck au.items.length co),fun v W'=>∃A B C,v=entV D A B C/\EntNew W' ak.heap.size D A B C,fun v W'=>∃d A B C,v=Xa (some ⟨d,0,none⟩) 1 1/\ak.heap.size<=d/\RowIs W' d 46 (entL D A B C) []/\EntNew W' ak.heap.size D A B C] []
      rfl (by rintro⟨a,w,d⟩;exact d) (by intro o h5 c;simp only[Qh,List.not_mem_nil,or_false]at h5;rcases h5 with rfl|rfl|rfl|rfl|rfl|rfl|rfl|rfl|rfl<;>(intro d;cases d)) (by kernel_rfl) (by kernel_rfl) ?hR ?hstep ?hend
     case hR=>simp only[zM];exact⟨kP,kP,kP,kP,fun v _ _ d h=>by obtain⟨A,B,C,e,z⟩:=d;exact⟨A,B,C,e,z.ext h⟩,fun v _ _ d h=>by obtain⟨k,A,B,C,e,z,b,c⟩:=d;exact⟨k,A,B,C,e,z,b.ext h,c.ext h⟩⟩
     case hstep =>
      simp only[zS,zD,Yo,zd1]
      and_intros<;>intro bt W' h f
      ·have d:bt 5=Xb (some ⟨y.heap.size,0,none⟩):=f.1;go_wp;exact zaa (r:=zbg _ _ _ _) ⟨rfl,fun d=>by simp at d⟩ (Ext.refl _)
      ·have d:_=_:=f.1;have e6:=(eb.ext h).cell (j:=1) rfl;go_wp;exact zaa (r:=zbg _ _ _ _) ⟨rfl,fun d=>by simp at d⟩ (Ext.refl _)
      ·have d:bt 9=Xb (some ⟨W.heap.size,0,none⟩):=f.1;obtain⟨jy,c1,c2,jz,c4,j0,j1⟩:=(c6.ext h).p7;go_wp;exact zaa (r:=zbg _ _ _ _) ⟨rfl,fun d=>by simp at d⟩ (Ext.refl _)
      ·have d:bt 10=Xb (some ⟨W.heap.size+1,0,none⟩):=f.1;obtain⟨jy,c1,c2,jz,c4,j0,j1⟩:=(c3.ext h).p7;go_wp;exact zaa (r:=zbg _ _ _ _) ⟨rfl,fun d=>by simp at d⟩ (Ext.refl _)
      ·have l6:_=_:=f.1;have l7:_=_:=f.2.1;have al:=h.size;have ay:=zH (zjv (f7.out.ext h) (ga.out.ext h) fb fc);rw[<- hJ]at ay;clear hJ;go_wp;refine ay.out.mono ?_;rintro r jv⟨A,B,C,rfl,be,c0⟩;dsimp only;go_wp;exact zaa (v:=entV D A B C) (r:=zbg _ _ _ _) ⟨⟨A,B,C,rfl,be.lower al⟩,fun d=>by simp at d⟩ c0
      obtain⟨A,B,C,d,be⟩:∃A B C,bt 61=entV D A B C/\EntNew W' ak.heap.size D A B C:=f.1;have al:=h.size;obtain⟨f0,d1,f1,hf,f2,hg,rfl,rfl,rfl⟩:=be.fm;have bf:=zaf W' 46 (entL D (Xa f0 D.seen.length d1) (Xa f1 D.counts.length hf) (Xa f2 D.items.length hg));have ib:=(Ext.refl W').alloc (Xe (entL D (Xa f0 D.seen.length d1) (Xa f1 D.counts.length hf) (Xa f2 D.items.length hg)).toArray 46);clear hJ;go_wp;exact zaa (v:=Xa (some ⟨W'.heap.size,0,none⟩) 1 1) (r:=zbg _ _ _ _) ⟨⟨W'.heap.size,_,_,_,rfl,al,bf,be.ext ib⟩,fun d=>by simp at d⟩ ib
     case hend =>
      intro bt W' h d3 f;have j6:bt 58=Xa a7 pre.length bc:=f.2.1;obtain⟨k,A,B,C,j7,hk,bf,be⟩:∃d A B C,bt 62=Xa (some ⟨d,0,none⟩) 1 1/\ak.heap.size<=d/\RowIs W' d 46 (entL D A B C) []/\EntNew W' ak.heap.size D A B C:=f.2.2.2.2.2.1;clear f d3 hJ;have al:=h.size;simp only[zS,zD,zU,Yo,Vf,zav,Act.put,j6,j7];have h6:=zgm (be.rd (S:=fun _=>True) (fun _ _ _=>trivial));have j9:∀b,zad (Xa a7 pre.length bc) b->b<ak.heap.size:=fun b hb=>(dz.base_le hb).2
      have ho:∀b,zad (Xa a7 pre.length bc) b->ao.heap.size<=b:=fun b hb=>(dz.base_le hb).1
      obtain⟨b3,d0⟩:∃b3,b3=pre.map (fun k=>zbz (getE i k) (getE t k)):=⟨_,rfl⟩
      have bo:b3.length=pre.length:=(by rw[d0,Qn]);have hp:=dz.ext h;rw[<- d0]at hp;obtain⟨vss,jf,jg,ee⟩:=hp;rw[bo]at ee;have ft:=eb.ext h;have kn:¬zad (Xa a7 pre.length bc) y.heap.size:=fun hb=>by have:=ho _ hb;omega
      have jl:=zH (show(pre++[x]).map (fun k=>zbz (getE i k) (getE t k))=b3++[D]from by rw[Vp,<- d0];simp only[Ql,Yv,ge.out,gg.out,jj.out]);have ep:=zH (show _/\_ from⟨jf,jg⟩);have gs:=zH be;clear jf jg d0 ge gg
      refine zal rfl (.tmp 58) (.tmp 62) 23 rfl ao.heap.size 46 7 120 zeroEnt Tryz.underlying23 zc0 rfl (by omega) (Xa a7 pre.length bc) pre.length vss.flatten (by simp[go_sem]) ee (some ⟨k,0,none⟩) 1 1 (entL D A B C) (by simp[go_sem])
       ⟨by simp,h6,fun _=>⟨k,0,rfl,fun j u ke=>by rw[Ys];exact bf.cell ke⟩⟩ (by omega) (by omega) (by omega) ?_
      intro v' w' h7 cx;have et:RowE w' ao.heap.size y.heap.size v' (b3++[D]):=RowE.snoc ep.out.1 ep.out.2 gs.out j9 kd (by omega) (by rw[bo];exact h7) cx;have hF:=et.form;rw[show(b3++[D]).length=pre.length+1 by rw[Qu,bo];rfl]at hF;obtain⟨dr,dx,rfl,-,-⟩:=hF;have da:=ft.keep (cx.same _ ft.lt kn);have e6:=da.cell (j:=1) rfl;have mb:=da.frozen 1;have c8:=da.set (j:=1) (by simp) (Xa dr (pre.length+1) dx);simp only[Yg,Yb]at c8;have ct:=((eo.out.ext (av.trans h)).grew cx ho).set (j:=1) (Xa dr (pre.length+1) dx);have cy:=((av.trans h).keepsO.trans (cx.keeps ee)).trans (KeepsOthers.setCell w' ⟨y.heap.size,1,none⟩ (Xa dr (pre.length+1) dx));have dy:=et.set (j:=1) (u:=Xa dr (pre.length+1) dx) da (by decide);have HF:=zH (show _/\_/\_/\_ from⟨c8,ct,cy,dy⟩);clear c8 ct cy dy et cx h7 ep gs be bf ee ft da dz eb h6 c6 c3 f7 ga;go_wp;obtain⟨c8,ct,cy,dy⟩:=HF.out;exact⟨cy.from _,eo.out.kps ct cy.size,_,c8,by rw[jl.out];exact dy,ct⟩
    clear a9
    cases d5:t.findIdx? (fun e=>decide (e.key=x))
    case none=>
     rw[d5]at bp bq;simp only at bq;simp only[Je,Jd,Vy]at bp;have bn:getE t x=zak:=(by unfold getE;rw[bq];rfl);clear bq d5
     gi_wp2_with fail
     exact g9 zak _ _ _ _ br a6 aa (EntAt.none W _ none none none) bn zir
    rename_i jb
    rw[d5]at bp bq;obtain⟨ii,Q,kw,d7,kg,ki,hz⟩:=bq;simp only[Yp,Vk,Vz]at bp;obtain⟨la,m0,nx,ny,nz,e,lk,ll,lm,ln,lo,lp,lq,ev⟩:=el.out ii kw Q d7;subst e;obtain⟨ci,cm,cj,cn,ck,co,rfl,rfl,rfl⟩:=ev.fm;have mh:ii.length<t.length:=(by rw[d7];simp);have km:Q∈t:=(by rw[d7];simp);subst kg;have bn:=(show getE t x=Q from by unfold getE;rw[hz];rfl)
    have fc:=dv.out.each Q km;obtain⟨nb,nc,nd,nf,ng,nh,ni⟩:=a6.p7;obtain⟨lz,l0,l1,l2,l3,l4,l5⟩:=a6.q7;have c3:=zl3 (e0:=zak) (a1:=Xa none 0 0) (a2:=Xa none 0 0) (a3:=Xa none 0 0) (e:=Q) (v1:=Xa ci Q.seen.length cm) (v2:=Xa cj Q.counts.length cn) (v3:=Xa ck Q.items.length co) a6;have c6:=br.keep (zgw b5 (W.heap.size+1) Q (Xa ci Q.seen.length cm) (Xa cj Q.counts.length cn) (Xa ck Q.items.length co) W.heap.size (by omega));have av:=zeb aa (q:=W.heap.size+1) (by omega) Q (Xa ci Q.seen.length cm) (Xa cj Q.counts.length cn) (Xa ck Q.items.length co);have an:=zH (show _/\_/\_/\_/\_ from⟨c6,c3,av,ev,bn⟩);clear d7 ki d5 hz ev br a6 aa c6 c3 av el bn
    gi_wp2_with fail
    exact g9 Q _ _ _ _ an.out.1 an.out.2.1 an.out.2.2.1 an.out.2.2.2.1 an.out.2.2.2.2 fc
   clear bi
   cases d4:i.findIdx? (fun e=>decide (e.key=x))
   case none=>
    rw[d4]at ca cb;simp only at cb;simp only[Je,Jd,Vy]at ca;have bm:getE i x=zak:=(by unfold getE;rw[cb];rfl);clear cb d4
    gi_wp2_with fail
    exact g8 zak _ _ _ _ c5 r10 cc (EntAt.none W _ none none none) bm zir
   rename_i my
   rw[d4]at ca cb;obtain⟨ih,O,kv,d6,kf,kh,hy⟩:=cb;simp only[Yp,Vk,Vz]at ca;obtain⟨k9,mz,nu,nv,nw,e,ld,le,lf,lg,lh,li,lj,eu⟩:=gd.out ih kv O d6;subst e;obtain⟨bz,b6,b0,b7,b1,b8,rfl,rfl,rfl⟩:=eu.fm;have mg:ih.length<i.length:=(by rw[d6];simp);have kl:O∈i:=(by rw[d6];simp);subst kf;have bm:=(show getE i x=O from by unfold getE;rw[hy];rfl)
   have fb:=du.out.each O kl;obtain⟨m4,m5,m6,m7,m8,m9,na⟩:=c5.p7;obtain⟨lr,ls,lu,lv,lw,lx,ly⟩:=c5.q7;have br:=zl3 (e0:=zak) (a1:=Xa none 0 0) (a2:=Xa none 0 0) (a3:=Xa none 0 0) (e:=O) (v1:=Xa bz O.seen.length b6) (v2:=Xa b0 O.counts.length b7) (v3:=Xa b1 O.items.length b8) c5;have a6:=r10.keep (zgw b4 W.heap.size O (Xa bz O.seen.length b6) (Xa b0 O.counts.length b7) (Xa b1 O.items.length b8) (W.heap.size+1) (by omega));have aa:=zeb cc (q:=W.heap.size) (Qj _) O (Xa bz O.seen.length b6) (Xa b0 O.counts.length b7) (Xa b1 O.items.length b8);have an:=zH (show _/\_/\_/\_/\_ from⟨br,a6,aa,eu,bm⟩);clear d6 kh d4 hy eu br a6 aa c5 r10 gd bm
   gi_wp2_with fail
   exact g8 O _ _ _ _ an.out.1 an.out.2.1 an.out.2.2.1 an.out.2.2.2.1 an.out.2.2.2.2 fb
  case done =>
   rintro a8 n0 W l8 rfl⟨G,cv,bj,F⟩ hK;have ka:=F.size;have cq:=bj.form;rw[Qn]at cq;obtain⟨a7,bc,rfl,-,-⟩:=cq;have d9:=io.keep (F.same w.heap.size (by omega) (by omega));have ea:=ip.keep (F.same (w.heap.size+1) (by omega) (by omega));have ir:=k4.keep (F.same (w.heap.size+1+1) (by omega) (by omega));have hw:=gz.out.keep (w':=W) (fun b hb bd=>F.same b bd (fun e=>gz.out.apart k3 (by decide) (by rw[<- e];exact hb)));have g6:=ei.out.pruned.keep (by decide) (w':=W) (fun b hb ai=>F.same b (by omega) (by omega));have g7:=ek.out.pruned.keep (by decide) (w':=W) (fun b hb ai=>F.same b (by omega) (by omega));have hx:Ext w W:=F.below jq.out (by omega) (by omega);have gp:=zH hK;clear hK;have ik:=d9.cell (j:=2) rfl;have fj:=ea.cell (j:=2) rfl;have aa:Ext W (W.alloc (Xe #[Xa bv ap.length cg,Xa bx aq.length ce] 24)):=(Ext.refl W).alloc _;have fr:=zaf W 24 [Xa bv ap.length cg,Xa bx aq.length ce];have bo:[ap,aq].flatten.length<=1099511627776:=(by have:=du.out.pruned;have:=dv.out.pruned;simp at *;omega);have ay:=zH (zs5 (ya8 (hk:=by decide) (S:=fun b=>b<=W.heap.size) ((g6.mono (by decide) fun b _ d=>by omega).ext (by decide) aa) ((g7.mono (by decide) fun b _ d=>by omega).ext (by decide) aa) (Qj _) (fr.cell (j:=0) rfl) (fr.cell (j:=1) rfl)) bo);have ds:=zH cv;have em:=zH bj;have eo:=zH F;have jr:=zH hx;have eq:=zH hw;clear cv bj F hx hw g6 g7 fr;dsimp only[Exit.inBlock,Exit.then];go_wp2_with fail;refine ay.out.mono ?_;rintro r ha⟨ns,rfl,e1,h9⟩;obtain⟨dt,d8,rfl,-,-⟩:=e1.form;have fh:=aa.trans h9;have h0:y.heap.size<W.heap.size:=(by omega);have d2:=e1.lower (base':=W.heap.size) (by simp);obtain⟨bb,ey⟩:∃bb,bb = [ap,aq].flatten:=⟨_,rfl⟩
   have jn:=zH ey;rw[<- ey]at d2 bo ⊢;clear ey e1 ay h9 aa;have c9:=ds.out.ext fh;have k6:=c9.cell (j:=2) rfl;have k7:=c9.frozen 2;have ec:=c9.set (j:=2) (by simp) (Xa dt bb.length d8);simp only[Yg,Yb]at ec;have ht:=d2.keep (w':=ha.setCell ⟨y.heap.size,2,none⟩ (Xa dt bb.length d8)) (fun b hb _=>Qe _ _ _ _ (fun e=>d2.apart c9 (by decide) (by have er:b=y.heap.size:=e;rw[<- er];exact hb)));have bi:=zH (((OldK.refl (n:=W.heap.size) (g:=y.heap.size) (Qj _)).ext fh).set (j:=2) (Xa dt bb.length d8));have gw:=zH (zo7 ht bo);have j2:=ec.cell (j:=2) rfl;have mw:=bi.out.size;have gu:=zH ec;clear c9 ec d2 ht fh ik fj;go_wp2_with fail;clear k6 k7;generalize ha.setCell ⟨y.heap.size,2,none⟩ (Xa dt bb.length d8)=jv at *;refine gw.out.mono ?_;rintro r k8⟨rfl,hu,e3⟩;have kj:=zh2 bb;have ed:=gu.out.keep (e3.block _ h0);have gn:=zH (bi.out.low e3);have gb:=zrk hu (by omega);have gc:=zH gb;have j3:=ed.cell (j:=2) rfl;have lc:=ed.frozen 2;have gv:=zH ed;clear gu bi gw hu e3 j2 ed kj gb;go_wp2_with fail;refine gc.out.mono ?_;rintro r hc⟨ad,rfl,cu,e4⟩;obtain⟨ba,ex⟩:∃ba,ba=Lib.compact (zbw bb):=⟨_,rfl⟩
   have jm:=zH ex;rw[<- ex]at cu;obtain⟨ch,cp,rfl,-,-⟩:=cu.form;have bs:=gv.out.keep (e4.block _ h0);have en:=gn.out.low e4;have m3:=bs.cell (j:=2) rfl;have m1:=bs.cell (j:=0) rfl;have m2:=bs.cell (j:=1) rfl;have nj:=bs.frozen 2;have h3:=en.same (w.heap.size+1+1) (by omega) (by omega);have fs:=ir.keep h3;obtain⟨nk,nl,nm⟩:=fs.p3;obtain⟨nn,np,nr⟩:=fs.q3;have ix:=bs.set (j:=2) (by simp) (Xa ch ba.length cp);simp only[Yg,Yb]at ix;have hv:=cu.keep (w':=hc.setCell ⟨y.heap.size,2,none⟩ (Xa ch ba.length cp)) (fun b hb _=>Qe _ _ _ _ (fun e=>cu.apart bs (by decide) (by have er:b=y.heap.size:=e;rw[<- er];exact hb)));have a9:=zH (en.set (j:=2) (Xa ch ba.length cp));have gt:=zH hv;have mi:¬(w.heap.size+1+1=y.heap.size):=(by omega);have mj:¬(y.heap.size=w.heap.size+1+1):=(by omega);clear ex cu e4 bs en h3 fs ix hv gc gv gn j3;go_wp2_with fail;generalize hc.setCell ⟨y.heap.size,2,none⟩ (Xa ch ba.length cp)=ar at *;have j8:a8<W.heap.size:=(Array.getElem?_eq_some_iff.1 gp.out).1;obtain⟨ah,fg⟩:∃v,v=Value.slice J1 (za0 af ag).length bh:=⟨_,rfl⟩
   obtain⟨G,ff⟩:∃v,v=Value.slice a7 (zb8 i t).length bc:=⟨_,rfl⟩
   obtain⟨ad,fe⟩:∃v,v=Value.slice ch ba.length cp:=⟨_,rfl⟩
   have ew:(put3 ar (w.heap.size+1+1) ah G ad).heap[a8]? = some (.deferred (some [])):=(zda _ _ _ _ _ _ (by omega)).trans ((a9.out.same a8 j8 (by omega)).trans gp.out);have fa:∀b,b<W.heap.size->b≠y.heap.size->b≠w.heap.size+1+1->(put3 ar (w.heap.size+1+1) ah G ad).heap[b]? = W.heap[b]?:=fun b h1 ai es=>(zda _ _ _ _ _ _ es).trans (a9.out.same b h1 ai)
   have ia:Ext w (put3 ar (w.heap.size+1+1) ah G ad):=zbn (a9.out.below jr.out (by omega) (by omega)) (by omega) _ _ _;have iw:RowIs (put3 ar (w.heap.size+1+1) ah G ad) (w.heap.size+1+1) 26 [ah,G,ad] []:=(by have d:=(((ir.keep (a9.out.same (w.heap.size+1+1) (by omega) (by omega))).set (j:=0) (by simp) ah).set (j:=1) (by simp) G).set (j:=2) (by simp) ad;simpa using d);have az:=grownBy_putObj' (put3 ar (w.heap.size+1+1) ah G ad) a8 (.deferred none);have a0:∀r,(some a8:Option Nat)=some r->∃o:Obj,(put3 ar (w.heap.size+1+1) ah G ad).heap[r]? = some o/\o.isCells=false:=fun r e=>by cases e;exact⟨_,ew,rfl⟩
   have k5:=iw.kept az a0;have ic:=(eq.out.keep (w':=put3 ar (w.heap.size+1+1) ah G ad) (fun b hb bd=>fa b bd (fun e=>eq.out.apart ds.out (by decide) (by rw[<- e];exact hb)) (by have:=(eq.out.base_le hb).1;omega))).kept az a0;have ie:=(em.out.keep (w':=put3 ar (w.heap.size+1+1) ah G ad) (fun b hb bd ml=>fa b bd (by omega) (by omega))).kept az a0;have ig:=(gt.out.keep (w':=put3 ar (w.heap.size+1+1) ah G ad) (fun b hb bd=>zda _ _ _ _ _ _ (by have:=(gt.out.base_le hb).1;omega))).kept az a0;have ku:Ext w ((put3 ar (w.heap.size+1+1) ah G ad).putObj a8 (.deferred none)):=Below.trans ia (belowK_b (w:=w) (Qj _) _ a8 _ _ (by omega) ew rfl rfl);have ko:Lib.compact (zbw (ap++aq))=ba:=(by rw[jm.out,jn.out];simp);obtain⟨kx,q1,ky⟩:=k5.p3;have h8:w.heap.size<=ao.heap.size:=(by omega);have kp:w.heap.size<=W.heap.size:=(by omega);rw[<- fg]at ic;rw[<- ff]at ie;rw[<- fe]at ig;rw[<- fg,<- ff,<- fe];clear fg ff fe fa ia iw az a0;refine⟨by simp,.inl ⟨_,_,rfl,run_takeDeferred ew,?_⟩⟩;refine⟨stV ah G ad,?_,ah,G,ad,rfl,⟨?_,?_,?_⟩,ku⟩
   ·simp[results,Tryz.f25,go_sem,kx,q1,ky]
   ·exact ic.lower (base':=w.heap.size) (Nat.le_add_right _ _)
   ·exact OwnL.lower (OwnL.mono ie (S':=fun b=>w.heap.size<=b/\¬zad G b) fun b _ hb=>⟨Qc h8 hb.1,hb.2.2⟩) h8
   show Own _ _ _ _ _ (Lib.compact (zbw (ap++aq))).length ((Lib.compact (zbw (ap++aq))).flatMap strC);rw[ko];exact ig.lower (base':=w.heap.size) kp
end
section
open Go.RowKit
structure Ev where
 key:Str
 n:Int
 op:Nat
 tx:Str
 kn:List Bool
 path:Str
 num:Nat
abbrev Vec:=Str->Nat
def zao (V:Vec)(e:Ev):Bool:=decide (e.num<=V e.path)
def TopIs (E:List Ev)(P:Ev->Prop)(n:Nat):Prop:=(∀e∈E,P e->e.num<=n)/\(n=0 ∨ ∃e∈E,P e/\e.num=n)
theorem TopIs.uniq {E:List Ev}{P:Ev->Prop}{n m:Nat}(h:TopIs E P n)(k:TopIs E P m):n=m:=by
 refine Vc ?_ ?_
 ·rcases h.2 with rfl|⟨e,he,hp,rfl⟩
  ·exact Qx _
  exact k.1 e he hp
 rcases k.2 with rfl|⟨e,he,hp,rfl⟩
 ·exact Qx _
 exact h.1 e he hp
theorem TopIs.congr {E:List Ev}{P Q:Ev->Prop}{n:Nat}(b:TopIs E P n)(c:∀e∈E,P e↔Q e):TopIs E Q n :=
 ⟨fun e a g=>b.1 e a ((c e a).2 g),b.2.imp id fun⟨e,a,f,d⟩=>⟨e,a,(c e a).1 f,d⟩⟩
def sumE (E:List Ev)(f:Ev->Nat):Nat:=(E.map f).sum
theorem zeu {E:List Ev}{f g:Ev->Nat}(h:∀e∈E,f e=g e):sumE E f=sumE E g:=by
 unfold sumE;rw[Yc h]
theorem ztz {E:List Ev}{f g:Ev->Nat}(a:∀e∈E,f e<=g e):sumE E f<=sumE E g:=by
 unfold sumE
 induction E with
 | nil=>simp
 | cons e r c =>
  simp only[Ql,Yd];have h1:=a e (by simp);have d:=c fun x b=>a x (by simp[b])
  omega
theorem zjz (E:List Ev)(e:Ev)(f:Ev->Nat):sumE (E++[e]) f=sumE E f+f e:=by simp[sumE]
def topZ:List Nat->List Bool->Nat
 | s::st,b::kn=>max (if b then s else 0) (topZ st kn)
 | _,_=>0
def zxv (st:List Nat)(e:Ev):List Nat:=st++[if e.op=4 then topZ st e.kn+1 else 0]
def zdj (E:List Ev):List Nat:=E.foldl zxv []
def zc6 (E:List Ev)(i:Nat):Nat:=(zdj E)[i]?.getD 0
theorem zge (E:List Ev)(e:Ev):zdj (E++[e])=zdj E++[if e.op=4 then topZ (zdj E) e.kn+1 else 0]:=by simp[zdj,zxv]
theorem zfx (E:List Ev):(zdj E).length=E.length:=by
 induction E using zhq with
 | h0=>rfl
 | h1 E e ih=>rw[zge];simp[ih]
theorem zey {E:List Ev}{e:Ev}{i:Nat}(h:i<E.length):zc6 (E++[e]) i=zc6 E i:=by
 unfold zc6;rw[zge,Qo (by rw[zfx];exact h)]
theorem zj5 (E:List Ev)(e:Ev):zc6 (E++[e]) E.length=if e.op=4 then topZ (zdj E) e.kn+1 else 0:=by
 unfold zc6;rw[zge,Qw (by rw[zfx];exact Qj _),zfx,Nat.sub_self]
 rfl
def Alive (E:List Ev)(V:Vec)(k:Str)(q:zan):Prop :=
 ∃(i:Nat) (e:Ev),E[i]? = some e/\zao V e=true/\e.key=k/\e.op=2/\q=(e.tx,e.path,e.num)/\∀x∈E,zao V x=true->x.key=k->x.tx=e.tx->x.kn[i]?≠some true
def IsCell (E:List Ev)(V:Vec)(k:Str)(c:Cell):Prop :=
 (∀(i:Nat) (e:Ev),E[i]? = some e->zao V e=true->e.key=k->e.op=4->ltOf cmpC c (zc6 E i,e.tx,false)=false) /\
  (c=zgd ∨ ∃(i:Nat) (e:Ev),E[i]? = some e/\zao V e=true/\e.key=k/\e.op=4/\c=(zc6 E i,e.tx,false))
def upK (V:Vec)(k p:Str)(e:Ev):Nat:=if zao V e=true/\e.key=k/\e.op=1/\e.path=p then upOf e.n else 0
def zb1 (V:Vec)(k p:Str)(e:Ev):Nat:=if zao V e=true/\e.key=k/\e.op=1/\e.path=p then zcb e.n else 0
structure IsE (E:List Ev) (V:Vec) (k:Str) (x:Entry):Prop where
 key:x.key=k
 seenG:GoodM x.seen
 seen:∀p,TopIs E (fun e=>zao V e=true/\e.key=k/\e.path=p) (ofM x.seen p)
 cntG:GoodC x.counts
 plus:∀p,zbr x.counts p=sumE E (upK V k p)
 minus:∀p,zbf x.counts p=sumE E (zb1 V k p)
 itG:GoodB x.items
 items:∀q,q∈zab x.items↔Alive E V k q
 cell:IsCell E V k x.cell
structure Hist (E:List Ev):Prop where
 path:∀e∈E,e.path≠[]
 num:∀e∈E,1<=e.num
 rise:∀(i j:Nat) (a b:Ev),E[i]? = some a->E[j]? = some b->a.path=b.path->i<j->a.num<b.num
 len:∀(i:Nat) (e:Ev),E[i]? = some e->e.kn.length=i
 own:∀(i j:Nat) (a b:Ev),E[i]? = some a->E[j]? = some b->a.path=b.path->i<j->b.kn[i]? = some true
 trans:∀(i j:Nat) (a b:Ev),E[i]? = some a->E[j]? = some b->b.kn[i]? = some true->∀h:Nat,a.kn[h]? = some true->b.kn[h]? = some true
 text:∀e∈E,e.tx.length<=4096
def Closed (E:List Ev)(V:Vec):Prop:=∀(i j:Nat) (a b:Ev),E[i]? = some a->E[j]? = some b->zao V b=true->b.kn[i]? = some true->zao V a=true
theorem zxw {E:List Ev}{e:Ev}(h:e∈E):∃i:Nat,E[i]? = some e:=Yt.1 h
theorem Hist.same {E:List Ev}(c:Hist E){i j:Nat}{a b:Ev}(ha:E[i]? = some a)(hb:E[j]? = some b)(d:a.path=b.path)(e:a.num=b.num):i=j:=by
 rcases Vi i j with h|h|h
 ·have:=c.rise i j a b ha hb d h;omega
 ·exact h
 have:=c.rise j i b a hb ha d.symm h;omega
theorem cmpC_lt {a b:Cell}:ltOf cmpC a b=true↔a.1<b.1 ∨ (a.1=b.1/\(zbv a<zbv b ∨ (zbv a=zbv b/\ltS a.2.1 b.2.1=true))):=by
 obtain⟨n,s,g⟩:=a;obtain⟨m,t,c⟩:=b;unfold ltOf cmpC orI;have h1:=@zot n m;have i:=@ya1 n m;have l:=@cmpS_lt s t;have j:cmpI (zbv (n,s,g)) (zbv (m,t,c))=0↔zbv (n,s,g)=zbv (m,t,c):=by unfold cmpI;split<;>(try split)<;>omega
 have q:cmpI (zbv (n,s,g)) (zbv (m,t,c))<0↔zbv (n,s,g)<zbv (m,t,c):=by unfold cmpI;split<;>(try split)<;>omega
 simp only[decide_eq_true_eq]
 by_cases d:cmpN n m=0
 ·have e:=i.1 d;rw[zN (by simpa using d)]
  by_cases f:cmpI (zbv (n,s,g)) (zbv (m,t,c))=0
  ·have h:=j.1 f;rw[zN (by simpa using f),l]
   constructor
   ·intro k;exact .inr ⟨e,.inr ⟨h,k⟩⟩
   rintro(k|⟨-,k|⟨-,k⟩⟩)
   ·omega
   ·omega
   exact k
  rw[zP f,q];have h:=mt j.2 f
  constructor
  ·intro k;exact .inr ⟨e,.inl k⟩
  rintro(k|⟨-,k|⟨k,-⟩⟩)
  ·omega
  ·exact k
  exact absurd k h
 rw[zP d,h1];have e:=mt i.2 d
 constructor
 ·exact .inl
 rintro(k|⟨k,-⟩)
 ·exact k
 exact absurd k e
theorem zmz (a:Cell):ltOf cmpC a a=false:=zbt fun h=>by
 rcases cmpC_lt.1 h with h|⟨-,h|⟨-,h⟩⟩
 ·omega
 ·omega
 rw[zap]at h;cases h
theorem zoc {a b c:Cell}(h:ltOf cmpC a b=true)(k:ltOf cmpC b c=true):ltOf cmpC a c=true:=by
 rw[cmpC_lt]at h k ⊢;rcases h with h|⟨h1,h2⟩
 ·rcases k with k|⟨k1,-⟩
  ·exact .inl (Nat.lt_trans h k)
  exact .inl (by omega)
 rcases k with k|⟨k1,k2⟩
 ·exact .inl (by omega)
 refine .inr ⟨h1.trans k1,?_⟩;rcases h2 with h2|⟨h2,h3⟩
 ·rcases k2 with k2|⟨k2,-⟩
  ·exact .inl (by omega)
  exact .inl (by omega)
 rcases k2 with k2|⟨k2,k3⟩
 ·exact .inl (by omega)
 exact .inr ⟨h2.trans k2,zay h3 k3⟩
theorem zxx {a b:Cell}(c:zbv a=zbv b):a.2.2=b.2.2:=by
 obtain⟨n,s,g⟩:=a;obtain⟨m,t,d⟩:=b;cases g<;>cases d
 ·rfl
 ·exact absurd c (by show ¬((1:Int)=0);decide)
 ·exact absurd c (by show ¬((0:Int)=1);decide)
 rfl
theorem zrl (a b:Cell):ltOf cmpC a b=true ∨ a=b ∨ ltOf cmpC b a=true:=by
 rw[cmpC_lt,cmpC_lt];rcases Vi a.1 b.1 with h|h|h
 ·exact .inl (.inl h)
 ·rcases Int.lt_trichotomy (zbv a) (zbv b)with k|k|k
  ·exact .inl (.inr ⟨h,.inl k⟩)
  ·rcases zcj a.2.1 b.2.1 with l|l|l
   ·exact .inl (.inr ⟨h,.inr ⟨k,l⟩⟩)
   ·refine .inr (.inl ?_);obtain⟨n,s,g⟩:=a;obtain⟨m,t,c⟩:=b;have:=zxx k;simp only at h l this;rw[h,l,this]
   exact .inr (.inr (.inr ⟨h.symm,.inr ⟨k.symm,l⟩⟩))
  exact .inr (.inr (.inr ⟨h.symm,.inl k⟩))
 exact .inr (.inr (.inl h))
theorem zqo {a b c:Cell}(d:ltOf cmpC b a=false)(k:ltOf cmpC c b=false):ltOf cmpC c a=false:=zbt fun f=>by
 rcases zrl a b with e|e|e
 ·rw[zoc f e]at k;cases k
 ·subst e;rw[f]at k;cases k
 rw[e]at d;cases d
theorem zz6 (a b:Cell):ze0 a b=if ltOf cmpC a b=true then b else a:=by
 unfold ze0 ltOf
 by_cases h:cmpC a b<0<;>simp[h]
theorem cell_zero {i:Nat}{E:List Ev}{e:Ev}(a:E[i]? = some e)(c:e.op=4):1<=zc6 E i:=by
 induction E using zhq with
 | h0=>simp at a
 | h1 E x ih =>
  rcases Vl i E.length with hi|hi
  ·rw[Qo hi]at a;rw[zey hi];exact ih a
  rw[Qw hi]at a
  have b:i=E.length:=by have:=(Qb.1 a).1;simp at this;omega
  subst b;rw[Nat.sub_self]at a;simp only[List.getElem?_cons_zero,Ym]at a;subst a;rw[zj5,zP c];omega
theorem IsCell.uniq {E:List Ev}{V:Vec}{k:Str}{c d:Cell}(a:IsCell E V k c)(b:IsCell E V k d):c=d:=by
 have key:∀c d,IsCell E V k c->IsCell E V k d->ltOf cmpC c d=false:=by
  intro c d a b;rcases b.2 with rfl|⟨i,e,h1,h2,h3,h4,rfl⟩
  ·refine zbt fun f=>?_
   rcases a.2 with rfl|⟨i,e,h1,h2,h3,h4,rfl⟩
   ·rw[zmz]at f;cases f
   have:=cell_zero h1 h4;rcases cmpC_lt.1 f with k|⟨k,-⟩
   ·simp[zgd]at k
   simp only[zgd]at k;omega
  exact a.1 i e h1 h2 h3 h4
 rcases zrl c d with e|e|e
 ·rw[key c d a b]at e;cases e
 ·exact e
 rw[key d c b a]at e;cases e
theorem zrm (it:Item)(r:List Item):zab (it::r)=it.2.map (fun d=>(it.1,d))++zab r:=rfl
theorem zs7 {l:List Item}{q:zan}(a:q∈zab l):∃it∈l,q.1=it.1/\q.2∈it.2:=by
 obtain⟨it,e,a⟩:=Va.1 a;obtain⟨d,c,b⟩:=Qg.1 a;exact⟨it,e,by rw[<- b],by rw[<- b];exact c⟩
theorem zxy (s:Str){a b:Dot}(h:ltOf cmpD a b=true):ltOf cmpP (s,a) (s,b)=true:=cmpP_lt.2 (Or.inr (And.intro (Eq.refl s) h))
theorem zl4 {l:List Item}(h1:l.Pairwise fun a b=>ltS a.1 b.1=true)(e:∀it∈l,it.2.Pairwise fun a b=>ltOf cmpD a b=true):(zab l).Pairwise fun a b=>ltOf cmpP a b=true:=by
 induction l with
 | nil=>exact .nil
 | cons it r m =>
  obtain⟨f,g⟩:=Qf.1 h1;rw[zrm];refine Vu.2 ⟨?_,m g fun x c=>e x (Vd _ c),fun a ha b hb=>?_⟩
  ·rw[Qq];refine List.Pairwise.imp (fun {a b} i=>?_) (e it List.mem_cons_self);exact zxy it.1 i
  obtain⟨d,-,j⟩:=Qg.1 ha;obtain⟨x,c,h,-⟩:=zs7 hb;refine cmpP_lt.2 (.inl ?_);rw[<- j,h];exact f x c
theorem zj6 {l:List Item}(h1:l.Pairwise fun a b=>ltS a.1 b.1=true)(B:∀it∈l,it.2≠[]/\it.2.Pairwise fun a b=>ltOf cmpD a b=true):za7 (zab l)=l:=by
 have j:=zl4 h1 fun it f=>(B it f).2
 have M:zco (ltOf cmpP) (zab l)=zab l:=by refine zej zjs (zbq _) (zdn zhm _) (j.imp fun {a b} P=>zbt fun Q=>?_);have hk:=znw _ _ _ P Q;rw[zj1]at hk;cases hk
 unfold za7;rw[M];have S:=zf8 _ j;have F:=zdw (zab l);generalize zep (zab l)=m at *;obtain⟨O,K⟩:=S;have C:∀it∈l,it.2≠[]:=fun it f=>(B it f).1
 have A:∀it∈m,it.2≠[]:=fun it f=>(K it f).1
 clear B K M j
 have first:∀ {l:List Item},(l.Pairwise fun a b=>ltS a.1 b.1=true)->∀ {it:Item},it∈l->∀d,(it.1,d)∈zab l↔d∈it.2:=by
  intro l D it f d;refine⟨fun c=>?_,fun c=>ze4 f c⟩;obtain⟨x,i,w⟩:=Va.1 c;obtain⟨d',L,v⟩:=Qg.1 w;injection v with e1 e2
  subst e2
  have:x=it:=by
   clear c w L
   induction l with
   | nil=>cases i
   | cons y r H =>
    obtain⟨z,I⟩:=Qf.1 D;rcases Qh.1 i with rfl|hx'
    ·rcases Qh.1 f with rfl|hi'
     ·rfl
     exact absurd e1 (zck (z it hi'))
    rcases Qh.1 f with rfl|hi'
    ·exact absurd e1.symm (zck (z x hx'))
    exact H I hi' hx'
  rw[<- this];exact L
 clear first
 induction l generalizing m with
 | nil =>
  cases m
  case nil=>rfl
  rename_i it r
  cases h:it.2 with
  | nil=>exact absurd h (A it (by simp))
  | cons d g=>simp[zab,h]at F
 | cons it r H =>
  cases m
  case nil=>
   cases h:it.2 with
   | nil=>exact absurd h (C it (by simp))
   | cons d g=>simp[zab,h]at F
  rename_i u s
  obtain⟨z,I⟩:=Qf.1 h1;obtain⟨U,Y⟩:=Qf.1 O
  have N:∀(t:Str) (g es:List Dot) (a b:List zan),(∀p∈a,p.1≠t)->(∀p∈b,p.1≠t)->g.map (fun d=>(t,d))++a=es.map (fun d=>(t,d))++b->g=es/\a=b:=by
   intro t g
   induction g with
   | nil =>
    intro es a b ha hb c
    cases es with
    | nil=>exact⟨rfl,c⟩
    | cons e es=>simp only[Yv,Yh,Ql,Yf]at c;exact absurd rfl (ha (t,e) (by rw[c];simp))
   | cons d g T =>
    intro es a b ha hb c
    cases es with
    | nil=>simp only[Yv,Yh,Ql,Yf]at c;exact absurd rfl (hb (t,d) (by rw[<- c];simp))
    | cons e es=>simp only[Ql,Yf,Yu,Prod.mk.injEq,true_and]at c;obtain⟨r1,J⟩:=T es a b ha hb c.2;exact⟨by rw[c.1,r1],J⟩
  have q:u.2.map (fun d=>(u.1,d))++zab s=it.2.map (fun d=>(it.1,d))++zab r:=by simpa[zab]using F
  have G:u.1=it.1:=by
   cases h:u.2
   case nil=>exact absurd h (A u (by simp))
   rename_i d g
   cases v:it.2 with
   | nil=>exact absurd v (C it (by simp))
   | cons e es=>rw[h,v]at q;simp only[Ql,Yf,Yu,Prod.mk.injEq]at q;exact q.1.1
  have ne:∀ {l:List Item} {t:Str},(∀x∈l,ltS t x.1=true)->∀p∈zab l,p.1≠t:=by intro l t D p j;obtain⟨x,i,w⟩:=Va.1 j;obtain⟨d',-,rfl⟩:=Qg.1 w;exact(zck (D x i)).symm
  rw[G]at q;obtain⟨r1,J⟩:=N it.1 _ _ _ _ (ne (G▸U)) (ne z) q;have:=H I s J Y (fun x i=>C x (Vd _ i)) (fun x i=>A x (Vd _ i));rw[this]
  congr 1
  exact Prod.ext G r1
theorem zm0 {l:List Item}(a:GoodB l):za7 (zab l)=l:=zj6 a.1 fun it b=>(a.2.1 it b).2
theorem itemsL_places {a:List zan}{q:zan}:q∈zab (za7 a)↔q∈a:=by
 unfold za7;rw[zdw,(zbq a).mem_iff]
theorem GoodB.nodup {l:List Item}(h:GoodB l):(zab l).Nodup:=by
 have:=h.2.2.2;rw[zcn]at this;exact(Qq.1 this).imp fun h e=>h (by rw[e])
theorem GoodB.ext {a b:List Item}(ha:GoodB a)(hb:GoodB b)(h:∀q,q∈zab a↔q∈zab b):a=b:=by
 rw[<- zm0 ha,<- zm0 hb];exact zfe (zdl ha.nodup hb.nodup h)
theorem IsE.uniq {E:List Ev}{V:Vec}{k:Str}{x y:Entry}(f:IsE E V k x)(g:IsE E V k y):x=y:=by
 have h:=f.seenG.ext g.seenG fun p=>(f.seen p).uniq (g.seen p)
 have i:=f.cntG.ext g.cntG fun p=>⟨by rw[f.plus,g.plus],by rw[f.minus,g.minus]⟩
 have j:=f.itG.ext g.itG fun q=>(f.items q).trans (g.items q).symm
 have l:=f.cell.uniq g.cell;have m:=f.key.trans g.key.symm;obtain⟨a,b,c,d,e⟩:=x;obtain⟨r,s,t,d',u⟩:=y;simp only at h i j l m;rw[h,i,j,l,m]
theorem Alive.congr {E:List Ev}{V a:Vec}{k:Str}(b:∀e∈E,e.key=k->zao V e=zao a e){q:zan}:Alive E V k q↔Alive E a k q:=by
 have key:∀V a:Vec,(∀e∈E,e.key=k->zao V e=zao a e)->Alive E V k q->Alive E a k q:=by rintro V a b⟨i,e,h1,h,d,j,l,m⟩;have c:=Qa h1;exact⟨i,e,h1,by rw[<- b e c d];exact h,d,j,l,fun x f r g s=>m x f (by rw[b x f g];exact r) g s⟩
 exact⟨key V a b,key a V fun e c hk=>(b e c hk).symm⟩
theorem IsCell.congr {E:List Ev}{V f:Vec}{k:Str}(g:∀e∈E,e.key=k->zao V e=zao f e){c:Cell}(h:IsCell E V k c):IsCell E f k c :=
 ⟨fun i e h1 b a d=>h.1 i e h1 (by rw[g e (Qa h1) a];exact b) a d,h.2.imp id fun⟨i,e,h1,b,a,d,j⟩=>⟨i,e,h1,by rw[<- g e (Qa h1) a];exact b,a,d,j⟩⟩
theorem zxz {E:List Ev}{V a:Vec}{k:Str}(b:∀e∈E,e.key=k->zao V e=zao a e)(p:Str):sumE E (upK V k p)=sumE E (upK a k p):=zeu fun e c=>by
 unfold upK
 by_cases hk:e.key=k
 ·rw[b e c hk]
 simp[hk]
theorem zs8 {E:List Ev}{V a:Vec}{k:Str}(b:∀e∈E,e.key=k->zao V e=zao a e)(p:Str):sumE E (zb1 V k p)=sumE E (zb1 a k p):=zeu fun e c=>by
 unfold zb1
 by_cases hk:e.key=k
 ·rw[b e c hk]
 simp[hk]
theorem IsE.congr {E:List Ev}{V f:Vec}{k:Str}{x:Entry}(a:IsE E V k x)(b:∀e∈E,e.key=k->zao V e=zao f e):IsE E f k x where
 key:=a.key
 seenG:=a.seenG
 seen p:=(a.seen p).congr fun e g=>⟨fun⟨h1,c,d⟩=>⟨by rw[<- b e g c];exact h1,c,d⟩,fun⟨h1,c,d⟩=>⟨by rw[b e g c];exact h1,c,d⟩⟩
 cntG:=a.cntG
 plus p:=(a.plus p).trans (zxz b p)
 minus p:=(a.minus p).trans (zs8 b p)
 itG:=a.itG
 items q:=(a.items q).trans (Alive.congr b)
 cell:=a.cell.congr b
theorem IsE.none {E:List Ev}{V:Vec}{k:Str}(b:∀e∈E,e.key=k->zao V e=false):IsE E V k ⟨k,[],[],[],0,[],false⟩ where
 key:=rfl
 seenG:=zln
 seen p:=⟨fun e c ⟨h1,a,_⟩=>(by rw[b e c a]at h1;cases h1),.inl (zff p)⟩
 cntG:=⟨.nil,by simp⟩
 plus p:=by
  rw[show sumE E (upK V k p)=sumE E (fun _=>0)from zeu fun e c=>by
   unfold upK;refine zN fun⟨h1,a,_⟩=>?_
   rw[b e c a]at h1;cases h1]
  have:∀E:List Ev,sumE E (fun _=>0)=0:=fun E=>by unfold sumE;induction E<;>simp_all
  rw[this]
  rfl
 minus p:=by
  rw[show sumE E (zb1 V k p)=sumE E (fun _=>0)from zeu fun e c=>by
   unfold zb1;refine zN fun⟨h1,a,_⟩=>?_
   rw[b e c a]at h1;cases h1]
  have:∀E:List Ev,sumE E (fun _=>0)=0:=fun E=>by unfold sumE;induction E<;>simp_all
  rw[this]
  rfl
 itG:=zjw
 items q:=by refine⟨fun f=>by simp[zab]at f,fun⟨i,e,h1,a,d,_⟩=>?_⟩;rw[b e (Qa h1) d]at a;cases a
 cell:=⟨fun i e h1 a d g=>(by rw[b e (Qa h1) d]at a;cases a),.inl rfl⟩
theorem IsE.other {E:List Ev}{V:Vec}{k:Str}{x:Entry}{e:Ev}(c:IsE E V k x)(h:zao V e=true->e.key≠k):IsE (E++[e]) V k x where
 key:=c.key
 seenG:=c.seenG
 seen p:=by
  obtain⟨h1,a⟩:=c.seen p;refine⟨fun y d l=>?_,a.imp id fun⟨y,d,l⟩=>⟨y,Yi _ d,l⟩⟩;rcases Qm.1 d with d|d
  ·exact h1 y d l
  simp only[Qi]at d;subst d;exact absurd l.2.1 (h l.1)
 cntG:=c.cntG
 plus p:=by rw[zjz,c.plus p,show upK V k p e=0 from zN fun⟨h1,a,_⟩=>h h1 a];rfl
 minus p:=by rw[zjz,c.minus p,show zb1 V k p e=0 from zN fun⟨h1,a,_⟩=>h h1 a];rfl
 itG:=c.itG
 items q:=by
  rw[c.items q]
  constructor
  ·rintro⟨i,y,h1,a,h3,h4,h5,h6⟩;refine⟨i,y,?_,a,h3,h4,h5,fun z f b g j=>?_⟩
   ·rw[Qo (Qb.1 h1).1];exact h1
   rcases Qm.1 f with f|f
   ·exact h6 z f b g j
   simp only[Qi]at f;subst f;exact absurd g (h b)
  rintro⟨i,y,h1,a,h3,h4,h5,h6⟩;rcases Vl i E.length with hi|hi
  ·rw[Qo hi]at h1;exact⟨i,y,h1,a,h3,h4,h5,fun z f=>h6 z (Yi _ f)⟩
  rw[Qw hi]at h1
  have:y=e:=by
   have:=Qa h1
   simpa using this
  subst this;exact absurd h3 (h a)
 cell:=by
  obtain⟨h1,a⟩:=c.cell;refine⟨fun i y b g j m=>?_,a.imp id fun⟨i,y,b,g,j,m,r⟩=>⟨i,y,?_,g,j,m,?_⟩⟩
  ·rcases Vl i E.length with hi|hi
   ·rw[Qo hi]at b;rw[zey hi];exact h1 i y b g j m
   rw[Qw hi]at b
   have:y=e:=by
    have:=Qa b
    simpa using this
   subst this;exact absurd j (h g)
  ·rw[Qo (Qb.1 b).1];exact b
  rw[zey (Qb.1 b).1];exact r
abbrev maxV (V V':Vec):Vec:=fun p=>max (V p) (V' p)
theorem zba {V a:Vec}{e:Ev}:zao (maxV V a) e=(zao V e||zao a e):=by
 unfold zao maxV;rw[Jf];simp only[Qz,decide_eq_true_eq];omega
theorem Closed.max {E:List Ev}{V c:Vec}(g:Closed E V)(h:Closed E c):Closed E (maxV V c):=fun i j a b h1 d e f=>by
 rw[zba,Qz]at e ⊢;exact e.imp (fun k=>g i j a b h1 d k f) fun k=>h i j a b h1 d k f
theorem IsE.hasM {E:List Ev}{V:Vec}{k:Str}{x:Entry}(b:Hist E)(f:IsE E V k x){i:Nat}{e:Ev}(hi:E[i]? = some e)(hk:e.key=k):hasM x.seen (e.path,e.num)=true↔zao V e=true:=by
 obtain⟨h1,c⟩:=f.seen e.path;have a:=Qa hi;simp only[Go.Proofs.YtaabaflgeljbjaaGreat.hasM,Ya,decide_eq_true_eq]
 constructor
 ·rintro⟨-,hle⟩;rcases c with c|⟨y,hy,⟨h3,h4,h5⟩,h6⟩
  ·have:=b.num e a;omega
  rw[<- h6]at hle;unfold zao at h3 ⊢;simp only[decide_eq_true_eq]at h3 ⊢;rw[h5]at h3;omega
 intro d;exact⟨b.num e a,h1 e a ⟨d,hk,rfl⟩⟩
theorem zrn {a b:List Item}{c d:List Mark}(ha:GoodM c)(hb:GoodM d){q:zan}:q∈zab (ze8 a c b d)↔(q∈zab a/\(q∈zab b ∨ hasM d q.2=false)) ∨ (q∈zab b/\(q∈zab a ∨ hasM c q.2=false)):=by
 unfold ze8;rw[itemsL_places,zd6];unfold zgb zh9;rw[Qk,Qk,zpi ha,zpi hb];simp only[mem_setL,Qz,decide_eq_true_eq,Jc]
theorem zx0 {E:List Ev}{V:Vec}(b:Hist E){k:Str}{p q:zan}(g:Alive E V k p)(c:Vec)(h:Alive E c k q)(d:p.2=q.2):p=q:=by
 obtain⟨i,e,h1,l,m,r,rfl,-⟩:=g;obtain⟨j,f,a,s,t,u,rfl,-⟩:=h;injection d with e1 e2
 have:=b.same h1 a e1 e2;subst this;rw[h1]at a;injection a with a
 rw[a]
theorem zu6 {a b:List Item}{v w:List Mark}(ha:GoodB a)(hb:GoodB b)(t:∀p∈zab a,∀q∈zab b,p.2=q.2->p=q):GoodB (ze8 a v b w):=by
 have key:∀ {g:List zan},g.Nodup->(∀p∈g,p∈zab a ∨ p∈zab b)->GoodB (za7 g):=by
  intro g f d
  have uniq:∀ {l:List Item},GoodB l->∀p∈zab l,∀q∈zab l,p.2=q.2->p=q:=by
   intro l u p c q s e;have f:=u.2.2.2;rw[zcn]at f
   exact Classical.byContradiction fun r=>by obtain⟨i,hi⟩:=Yt.1 c;obtain⟨j,m⟩:=Yt.1 s;have:=zo5 f (i:=i) (j:=j) (x:=p.2) (by rw[Qs,hi];rfl) (by rw[Qs,m,e];rfl);subst this;rw[hi]at m;exact r (Yk m)
  refine zh0 ?_ (fun p c=>?_) (fun p c=>?_)
  ·unfold Vv;rw[Qq];refine List.Pairwise.imp_of_mem (fun {p q} c s r e=>r ?_) f;rcases d p c with h1|h1<;>rcases d q s with h2|h2
   ·exact uniq ha p h1 q h2 e
   ·exact t p h1 q h2 e
   ·exact(t q h2 p h1 e.symm).symm
   exact uniq hb p h1 q h2 e
  ·rcases d p c with h|h
   ·exact(zc2 ha h).1
   exact(zc2 hb h).1
  rcases d p c with h|h
  ·exact(zc2 ha h).2.1
  exact(zc2 hb h).2.1
 refine key (zd9 _ _ (zms _ _ _)) fun p c=>?_
 rw[zd6]at c;unfold zgb at c;rw[Qk,Qk,mem_setL,mem_setL]at c;exact c.imp (·.1) (·.1)
theorem zpw (V a:Vec)(p:Str):((maxV V a p=V p/\a p<=V p) ∨ (maxV V a p=a p/\V p<=a p)):=by simp only[maxV];omega
theorem ya9 (E:List Ev)(V a:Vec)(k p:Str):sumE E (upK (maxV V a) k p)=max (sumE E (upK V k p)) (sumE E (upK a k p)):=by
 have mono:∀ {V a:Vec},V p<=a p->sumE E (upK V k p)<=sumE E (upK a k p):=fun {V a} b=>ztz fun e _=>by
  unfold upK zao
  by_cases d:e.key=k/\e.op=1/\e.path=p
  ·obtain⟨c1,c2,rfl⟩:=d;simp only[c1,c2,true_and,and_true,decide_eq_true_eq]
   by_cases h1:e.num<=V e.path
   ·rw[zP h1,zP (Qc h1 b)];exact Qj _
   rw[zN h1];exact Qx _
  rw[zN fun b=>d b.2];exact Qx _
 have same:∀ {V a:Vec},V p=a p->sumE E (upK V k p)=sumE E (upK a k p):=fun b=>Vc (mono (Ve b)) (mono (Ve b.symm))
 rcases zpw V a p with⟨h1,c⟩|⟨h1,c⟩
 ·rw[same h1];have:=mono c;omega
 rw[same h1];have:=mono c;omega
theorem zx1 (E:List Ev)(V a:Vec)(k p:Str):sumE E (zb1 (maxV V a) k p)=max (sumE E (zb1 V k p)) (sumE E (zb1 a k p)):=by
 have mono:∀ {V a:Vec},V p<=a p->sumE E (zb1 V k p)<=sumE E (zb1 a k p):=fun {V a} b=>ztz fun e _=>by
  unfold zb1 zao
  by_cases d:e.key=k/\e.op=1/\e.path=p
  ·obtain⟨c1,c2,rfl⟩:=d;simp only[c1,c2,true_and,and_true,decide_eq_true_eq]
   by_cases h1:e.num<=V e.path
   ·rw[zP h1,zP (Qc h1 b)];exact Qj _
   rw[zN h1];exact Qx _
  rw[zN fun b=>d b.2];exact Qx _
 have same:∀ {V a:Vec},V p=a p->sumE E (zb1 V k p)=sumE E (zb1 a k p):=fun b=>Vc (mono (Ve b)) (mono (Ve b.symm))
 rcases zpw V a p with⟨h1,c⟩|⟨h1,c⟩
 ·rw[same h1];have:=mono c;omega
 rw[same h1];have:=mono c;omega
theorem IsCell.join {E:List Ev}{V l:Vec}{k:Str}{c d:Cell}(h:IsCell E V k c)(j:IsCell E l k d):IsCell E (maxV V l) k (ze0 c d):=by
 rw[zz6]
 by_cases g:ltOf cmpC c d=true
 ·rw[zP g];refine⟨fun i e h1 a b f=>?_,j.2.imp id fun⟨i,e,h1,a,r⟩=>⟨i,e,h1,by rw[zba,a,Vm],r⟩⟩;rw[zba,Qz]at a;rcases a with a|a
  ·refine zbt fun k=>?_
   have:=h.1 i e h1 a b f;rw[zoc g k]at this;cases this
  exact j.1 i e h1 a b f
 rw[zN g];refine⟨fun i e h1 a b f=>?_,h.2.imp id fun⟨i,e,h1,a,r⟩=>⟨i,e,h1,by rw[zba,a,Yw],r⟩⟩;rw[zba,Qz]at a;rcases a with a|a
 ·exact h.1 i e h1 a b f
 exact zqo (j.1 i e h1 a b f) (Yz.2 g)
theorem IsE.join {E:List Ev}{V g:Vec}{k:Str}{x y:Entry}(u:Hist E)(F:Closed E V)(v:Closed E g)(b:IsE E V k x)(d:IsE E g k y):IsE E (maxV V g) k ⟨x.key,za0 x.seen y.seen,zef x.counts y.counts,ze8 x.items x.seen y.items y.seen,ze0 x.cell y.cell⟩ where
 key:=b.key
 seenG:=zcp _ _
 seen p:=by
  rw[zfs];obtain⟨a1,a2⟩:=b.seen p;obtain⟨M,N⟩:=d.seen p
  constructor
  ·rintro e t⟨h1,a,s⟩;rw[zba,Qz]at h1;rcases h1 with h1|h1
   ·have:=a1 e t ⟨h1,a,s⟩;omega
   have:=M e t ⟨h1,a,s⟩;omega
  rcases Nat.le_total (ofM x.seen p) (ofM y.seen p)with hle|hle
  ·rw[Nat.max_eq_right hle];exact N.imp id fun⟨e,t,⟨h1,a⟩,s⟩=>⟨e,t,⟨by rw[zba,h1,Vm],a⟩,s⟩
  rw[Nat.max_eq_left hle];exact a2.imp id fun⟨e,t,⟨h1,a⟩,s⟩=>⟨e,t,⟨by rw[zba,h1,Yw],a⟩,s⟩
 cntG:=zuu _ _
 plus p:=by rw[(zpr _ _ _).1,b.plus,d.plus,ya9]
 minus p:=by rw[(zpr _ _ _).2,b.minus,d.minus,zx1]
 itG:=zu6 b.itG d.itG fun p P q Q e=>zx0 u ((b.items p).1 P) g ((d.items q).1 Q) e
 items q:=by
  rw[zrn b.seenG d.seenG];have I:=fun {i:Nat} {e:Ev} (c:E[i]? = some e) (hk:e.key=k)=>b.hasM u c hk
  have w:=fun {i:Nat} {e:Ev} (c:E[i]? = some e) (hk:e.key=k)=>d.hasM u c hk
  constructor
  ·intro c
   have H:∀ {V g:Vec} {x y:Entry},Closed E V->Closed E g->IsE E V k x->IsE E g k y->(∀ {i:Nat} {e:Ev},E[i]? = some e->e.key=k->(Go.Proofs.YtaabaflgeljbjaaGreat.hasM y.seen (e.path,e.num)=true↔zao g e=true))->q∈zab x.items->(q∈zab y.items ∨ Go.Proofs.YtaabaflgeljbjaaGreat.hasM y.seen q.2=false)->Alive E (maxV V g) k q:=by
    intro V g x y F v b d w h1 a;obtain⟨i,e,l,B,r,C,rfl,D⟩:=(b.items q).1 h1;refine⟨i,e,l,by rw[zba,B,Yw],r,C,rfl,fun z m h K L G=>?_⟩;rw[zba,Qz]at h;rcases h with h|h
    ·exact D z m h K L G
    rcases a with a|a
    ·obtain⟨j,f,S,Y,Z,aa,A,T⟩:=(d.items _).1 a;simp only[Prod.mk.injEq]at A;have:=u.same l S A.2.1 A.2.2;subst this;exact T z m h K (L.trans A.1) G
    obtain⟨j,O⟩:=zxw m;have:=v i j e z l O h G;rw[(w l r).2 this]at a;cases a
   rcases c with⟨h1,a⟩|⟨h1,a⟩
   ·exact H F v b d w h1 a
   have:=H v F d b I h1 a;refine(Alive.congr fun e _ _=>?_).1 this;rw[zba,zba,Bool.or_comm]
  rintro⟨i,e,l,B,r,C,rfl,D⟩;have U:zao V e=true->(e.tx,e.path,e.num)∈zab x.items:=fun c=>(b.items _).2 ⟨i,e,l,c,r,C,rfl,fun z m h=>D z m (by rw[zba,h,Yw])⟩
  have J:zao g e=true->(e.tx,e.path,e.num)∈zab y.items:=fun c=>(d.items _).2 ⟨i,e,l,c,r,C,rfl,fun z m h=>D z m (by rw[zba,h,Vm])⟩
  rw[zba,Qz]at B
  by_cases c1:zao V e=true
  ·refine .inl ⟨U c1,?_⟩
   by_cases c2:zao g e=true
   ·exact .inl (J c2)
   exact .inr (Yz.2 fun c=>c2 ((w l r).1 c))
  have c2:=B.resolve_left c1;exact .inr ⟨J c2,.inr (Yz.2 fun c=>c1 ((I l r).1 c))⟩
 cell:=b.cell.join d.cell
end
section
def zcg (l:List Entry)(k:Str)(e:Entry):List Entry:=(l.filter fun x=>ltS x.key k)++e::(l.filter fun x=>ltS k x.key)
theorem zj7 {α:Type}{P:α->Bool}{l:List α}{i:Nat}(h1:∀j x,j<i->l[j]? = some x->P x=true)(f:∀j x,i<=j->l[j]? = some x->P x=false):l.filter P=l.take i:=by
 conv=>lhs;rw[<- Vs i l]
 rw[Yj]
 have a:(l.take i).filter P=l.take i:=Vw.2 fun x d=>by
  obtain⟨j,c⟩:=Yn d;have e:j<i:=by have:=(Qb.1 c).1;simp at this;omega
  rw[Vn e]at c;exact h1 j x e c
 have b:(l.drop i).filter P = []:=Vr.2 fun x d=>by obtain⟨j,c⟩:=Yn d;rw[Ja]at c;simp[f (i+j) x (by omega) c]
 rw[a,b,Yq]
theorem zj8 {α:Type}{P:α->Bool}{l:List α}{i:Nat}(h1:∀j x,j<i->l[j]? = some x->P x=false)(f:∀j x,i<=j->l[j]? = some x->P x=true):l.filter P=l.drop i:=by
 conv=>lhs;rw[<- Vs i l]
 rw[Yj]
 have a:(l.take i).filter P = []:=Vr.2 fun x d=>by
  obtain⟨j,c⟩:=Yn d;have e:j<i:=by have:=(Qb.1 c).1;simp at this;omega
  rw[Vn e]at c;simp[h1 j x e c]
 have b:(l.drop i).filter P=l.drop i:=Vw.2 fun x d=>by obtain⟨j,c⟩:=Yn d;rw[Ja]at c;exact f (i+j) x (by omega) c
 rw[a,b,Yh]
theorem zx2 {l : List Entry}{k : Str}{i : Nat}{is : Bool}{m e : Entry}(hR : RiseS (l.map (·.key)))(hF : Found (l.map (·.key)) k i is)(h : za4 l k = some m) : i<l.length /\ l.set i e = zcg l k e := by
 have hk := zpt h
 obtain⟨c, q⟩ := Yn (zjy h)
 have a : (l.map (·.key))[c]? = some k := by rw[Qs, q]; simp[hk]
 have hi : c = i := by
   rcases Vi c i with h1|h1|h1
   · have := hF.2.1.1 c k h1 a; rw[zap]at this; cases this
   · exact h1
   have f : i<(l.map (·.key)).length := Nat.lt_trans h1 (Qb.1 a).1
   have r : (l.map (·.key))[i]? = some (l.map (·.key))[i] := Qp f
   have g := hF.2.1.2 i _ (Qj _) r
   rw[hR.lt h1 r a]at g
   cases g
 subst hi
 have f := (Qb.1 q).1
 have key : ∀ {j : Nat} {x : Entry}, l[j]? = some x -> (l.map (·.key))[j]? = some x.key := fun c => by rw[Qs, c]; rfl
 refine⟨f, ?_⟩
 unfold zcg
 rw[zj7 (i := c) (fun j x d b => hR.lt d (key b) a) (fun j x d b => by
     rcases Jb d with rfl|h1
     · have := Yk (a.symm.trans (key b))
       rw[<- this]; exact zap _
     exact zc8 (hR.lt h1 a (key b))),
   zj8 (i := c + 1) (fun j x d b => by
     rcases Jb (Nat.le_of_lt_succ d)with rfl|h1
     · have := Yk (a.symm.trans (key b))
       rw[<- this]; exact zap _
     exact zc8 (hR.lt h1 (key b) a)) (fun j x d b => hR.lt (by omega) a (key b)),
   List.set_eq_take_append_cons_drop, zP f]
theorem yba {l:List Entry}{k:Str}{i:Nat}{is:Bool}{e:Entry}(hR:RiseS (l.map (·.key)))(hF:Found (l.map (·.key)) k i is)(g:za4 l k=none):i<=l.length/\l.take i++e::l.drop i=zcg l k e:=by
 have h:∀x∈l,x.key≠k:=fun x a f=>by have:=Yx.1 g x a;simp[f]at this
 have key:∀ {j:Nat} {x:Entry},l[j]? = some x->(l.map (·.key))[j]? = some x.key:=fun b=>by rw[Qs,b];rfl
 have d:∀(j:Nat) (x:Entry),i<=j->l[j]? = some x->ltS k x.key=true:=fun j x c a=>by
  rcases zcj k x.key with b|b|b
  ·exact b
  ·exact absurd b.symm (h x (Qa a))
  rw[hF.2.1.2 j _ c (key a)]at b;cases b
 refine⟨by have:=hF.1;simpa using this,?_⟩;unfold zcg;rw[zj7 (i:=i) (fun j x c a=>hF.2.1.1 j _ c (key a)) (fun j x c a=>hF.2.1.2 j _ c (key a)),zj8 (i:=i) (fun j x c a=>zc8 (hF.2.1.1 j _ c (key a))) d]
structure MayS (s:State):Prop where
 all:mayM s.all=true
 each:∀e∈s.entries,mayE e=true/\zbm s.all e.seen=true
 rise:RiseS (s.entries.map (·.key))
 pruned:∀p∈s.pruned,p≠[]/\ofM s.all p=0
 risep:RiseS s.pruned
theorem zpx (all:List Mark):∀(l:List Entry) (prev:Option Str),zeh all prev l=true↔(∀e∈l,mayE e=true/\zbm all e.seen=true)/\RiseS (l.map (·.key))/\∀k,prev=some k->∀e∈l,ltS k e.key=true
 | [],prev=>by simp[zeh,RiseS]
 | e::r,prev=>by
  have a:=zpx all r (some e.key);unfold RiseS at a ⊢;simp only[zeh,Ya,a,Ql,Qf,Qh,forall_eq_or_imp,Qg,forall_exists_index,and_imp,forall_apply_eq_imp_iff₂,Ym,forall_eq']
  constructor
  ·rintro⟨h1,h2,h3,h4,h5,h6⟩;refine⟨⟨⟨h1,h3⟩,h4⟩,⟨h6,h5⟩,fun k hk=>?_⟩;subst hk;exact⟨h2,fun x b=>zay h2 (h6 x b)⟩
  rintro⟨⟨⟨h1,h3⟩,h4⟩,⟨h6,h5⟩,h7⟩;refine⟨h1,?_,h3,h4,h5,h6⟩
  cases prev with
  | none=>rfl
  | some k=>exact(h7 k rfl).1
theorem zpy (all:List Mark):∀(l:List Str) (prev:Option Str),zdt all prev l=true↔(∀p∈l,p≠[]/\ofM all p=0)/\RiseS l/\∀k,prev=some k->∀p∈l,ltS k p=true
 | [],prev=>by simp[zdt,RiseS]
 | p::r,prev=>by
  have a:=zpy all r (some p);have b:(!p.isEmpty)=true↔p≠[]:=by cases p<;>simp
  unfold RiseS at a ⊢;simp only[zdt,Ya,a,b,decide_eq_true_eq,Qf,Qh,forall_eq_or_imp,Ym,forall_eq']
  constructor
  ·rintro⟨h1,h2,h3,h4,h5,h6⟩;refine⟨⟨⟨h1,h3⟩,h4⟩,⟨h6,h5⟩,fun k hk=>?_⟩;subst hk;exact⟨h2,fun x c=>zay h2 (h6 x c)⟩
  rintro⟨⟨⟨h1,h3⟩,h4⟩,⟨h6,h5⟩,h7⟩;refine⟨h1,?_,h3,h4,h5,h6⟩
  cases prev with
  | none=>rfl
  | some k=>exact(h7 k rfl).1
theorem mayS_iff {s:State}:mayS s=true↔MayS s:=by
 unfold mayS;simp only[Ya,zpx,zpy]
 constructor
 ·rintro⟨h1,⟨h2,h3,-⟩,h4,h5,-⟩;exact⟨h1,h2,h3,h4,h5⟩
 rintro⟨h1,h2,h3,h4,h5⟩;exact⟨h1,⟨h2,h3,by simp⟩,h4,h5,by simp⟩
def updS (s:State)(p:Str)(o:OpD):State×Nat :=
 if p = [] ∨ mayS s=false then(za1,2)else if 281474976710656<=ofM s.all p then(za1,9)else if za4 s.entries o.2.1=none/\256<=s.entries.length then(za1,6)else
 if(updE ((za4 s.entries o.2.1).getD zak) o (p,ofM s.all p+1)).2=0 then(⟨setM s.all p (ofM s.all p+1),zcg s.entries o.2.1 (updE ((za4 s.entries o.2.1).getD zak) o (p,ofM s.all p+1)).1,s.pruned⟩,0)
 else(za1,(updE ((za4 s.entries o.2.1).getD zak) o (p,ofM s.all p+1)).2)
theorem zdx {κ:Type}[DecidableEq κ]:∀(a b:List κ),a.Nodup->(∀x∈a,x∈b)->a.length<=b.length
 | [],b,_,_=>Qx _
 | x::r,b,hn,hs=>by
  obtain⟨h1,e⟩:=Vq.1 hn;have c:=hs x (by simp);have f:=zdx r (b.erase x) e fun y d=>(List.mem_erase_of_ne (by rintro rfl;exact h1 d)).2 (hs y (by simp[d]))
  rw[List.length_erase_of_mem c]at f;have:0<b.length:=List.length_pos_of_mem c;rw[Qr];omega
theorem zz7 {l:List Mark}(c:GoodM l){s:Str}:s∈l.map (·.1)↔ofM l s≠0:=by
 constructor
 ·intro b;obtain⟨m,a,rfl⟩:=Qg.1 b;have:=c.2 m a;rw[c.1.of a this.1];omega
 intro b;obtain⟨m,a,h1,-,-⟩:=ziz b;exact Qg.2 ⟨m,a,h1⟩
theorem zs9 {l:List Mark}(b:GoodM l):(l.map (·.1)).Nodup:=by
 unfold Vv;rw[Qq];exact b.1.imp fun a=>zck a
theorem putEnts_mem {l:List Entry}{k:Str}{e x:Entry}:x∈zcg l k e↔x=e ∨ (x∈l/\x.key≠k):=by
 unfold zcg;rw[Qm,Qh,Qk,Qk]
 constructor
 ·rintro(⟨h1,h2⟩|rfl|⟨h1,h2⟩)
  ·exact .inr ⟨h1,zck h2⟩
  ·exact .inl rfl
  exact .inr ⟨h1,(zck h2).symm⟩
 rintro(rfl|⟨h1,h2⟩)
 ·exact .inr (.inl rfl)
 rcases zcj x.key k with h|h|h
 ·exact .inl ⟨h1,h⟩
 ·exact absurd h h2
 exact .inr (.inr ⟨h1,h⟩)
theorem zro {l:List Entry}{k:Str}{e:Entry}(hR:RiseS (l.map (·.key)))(hk:e.key=k):RiseS ((zcg l k e).map (·.key)):=by
 unfold RiseS at hR ⊢;rw[Qq]at hR ⊢;unfold zcg;refine Vu.2 ⟨hR.filter _,Qf.2 ⟨fun x a=>?_,hR.filter _⟩,fun x a y b=>?_⟩
 ·rw[hk];exact(Qk.1 a).2
 have h1:=(Qk.1 a).2;rcases Qh.1 b with rfl|b
 ·rw[hk];exact h1
 exact zay h1 (Qk.1 b).2
theorem zpz {l:List Entry}(hR:RiseS (l.map (·.key))){a b:Entry}(ha:a∈l)(hb:b∈l)(e:a.key=b.key):a=b:=by
 unfold RiseS at hR;rw[Qq]at hR
 induction l with
 | nil=>cases ha
 | cons x r d =>
  obtain⟨h1,c⟩:=Qf.1 hR;rcases Qh.1 ha with e1|ha'
  ·rcases Qh.1 hb with e2|hb'
   ·rw[e1,e2]
   rw[e1]at e;exact absurd e (zck (h1 b hb'))
  rcases Qh.1 hb with e2|hb'
  ·rw[e2]at e;exact absurd e.symm (zck (h1 a ha'))
  exact d c ha' hb'
theorem zrp {l:List Entry}(hR:RiseS (l.map (·.key))){x:Entry}(b:x∈l):za4 l x.key=some x:=by
 cases a:za4 l x.key with
 | none=>unfold za4 at a;have:=Yx.1 a x b;simp at this
 | some y=>rw[zpz hR (zjy a) b (zpt a)]
end
section
open Go.RowKit Go.Shelf
abbrev dltV (v0 v1 v2 v3:Xg):Xg:=.agg #[v0,v1,v2,v3]
def zde (base:List Mark)(e:Entry):Bool:=!zbm base e.seen
def zic (s:State)(base:List Mark):State:=⟨s.all,s.entries.filter (zde base),s.pruned⟩
abbrev put4 (w:Xf)(q:Nat)(v0 v1 v2 v3:Xg):Xf:=(((w.setCell ⟨q,0,none⟩ v0).setCell ⟨q,1,none⟩ v1).setCell ⟨q,2,none⟩ v2).setCell ⟨q,3,none⟩ v3
theorem zz8 {w wr:Xf}{q:Nat}(b:Ext w wr)(a:w.heap.size<=q)(c v1 v2 v3:Xg):Ext w (put4 wr q c v1 v2 v3) :=
 (((b.set (p:=⟨q,0,none⟩) a _).set (p:=⟨q,1,none⟩) a _).set (p:=⟨q,2,none⟩) a _).set (p:=⟨q,3,none⟩) a _
theorem zx3 (w:Xf)(q:Nat)(a v1 v2 v3:Xg)(b:Nat)(hb:b≠q):(put4 w q a v1 v2 v3).heap[b]? = w.heap[b]? :=
 (((Qe _ _ _ b hb).trans (Qe _ _ _ b hb)).trans (Qe _ _ _ b hb)).trans (Qe _ _ _ b hb)
theorem zod {S d3:Nat->Prop}{s:State}{v1 v2 v3 dt:Xg}{base:List Mark}{w:Xf}(d:StAt w S s v1 v2 v3)(hb:Sl markT w d3 dt base)(dr:SmallS s)(c9:base.length<=549755813888) :
  Calls Tryz.prog 27 #[stV v1 v2 v3,dt] w fun r w'=>∃ds A B C,r=.returned (dltV ds A B C)/\Own w' w.heap.size 97 2 ds (za0 base []).length ((za0 base []).flatMap zaj)/\StNew w' w.heap.size (zic s base) A B C/\Ext w w':=by
 obtain⟨l,L,h⟩:=s;obtain⟨al,av,am,aw,an,ax,rfl,rfl,rfl⟩:=d.fm;obtain⟨eu,fh,rfl,-,-⟩:=hb.form;have c5:=d.entries;have du:=zH (fun(pre post:List Entry) (m:Entry) (wr:Xf) (aj:Ext w wr) (ag:L=pre++m::post)=>zea c5 aj ag);have ct:=zH d;have dv:=zH hb;have bi:=zH dr;have dz:=zH (show zic ⟨l,L,h⟩ base=⟨l,L.filter (zde base),h⟩from rfl);have b8:Ext w ((w.alloc (Xe #[Xa al l.length av,Xa am L.length aw,Xa an h.length ax] 26)).alloc (Xe #[Xa none 0 0,Xa none 0 0,Xa none 0 0,Xa none 0 0] 83)):=((Ext.refl w).alloc _).alloc _;have dj:RowIs ((w.alloc (Xe #[Xa al l.length av,Xa am L.length aw,Xa an h.length ax] 26)).alloc (Xe #[Xa none 0 0,Xa none 0 0,Xa none 0 0,Xa none 0 0] 83)) w.heap.size 26 [Xa al l.length av,Xa am L.length aw,Xa an h.length ax] []:=(zaf w 26 [Xa al l.length av,Xa am L.length aw,Xa an h.length ax]).alloc _;have dm:RowIs ((w.alloc (Xe #[Xa al l.length av,Xa am L.length aw,Xa an h.length ax] 26)).alloc (Xe #[Xa none 0 0,Xa none 0 0,Xa none 0 0,Xa none 0 0] 83)) (w.heap.size+1) 83 [Xa none 0 0,Xa none 0 0,Xa none 0 0,Xa none 0 0] []:=by have d:=zaf (w.alloc (Xe #[Xa al l.length av,Xa am L.length aw,Xa an h.length ax] 26)) 83 [Xa none 0 0,Xa none 0 0,Xa none 0 0,Xa none 0 0];simp only[Ye]at d;exact d
 have cd:w.heap.size+2<=((w.alloc (Xe #[Xa al l.length av,Xa am L.length aw,Xa an h.length ax] 26)).alloc (Xe #[Xa none 0 0,Xa none 0 0,Xa none 0 0,Xa none 0 0] 83)).heap.size:=by simp
 have cy:=zH (zjb (hb.ext (by decide) b8) (Sl.nil (S:=fun _=>True) (T:=markT) none 0 (by decide)) (Qc c9 (by decide)) (by decide));clear d c5 dr hb;go_enter Tryz.func27,Tryz.ntmps27;go_wp2_with fail;generalize ((w.alloc (Xe #[Xa al l.length av,Xa am L.length aw,Xa an h.length ax] 26)).alloc (Xe #[Xa none 0 0,Xa none 0 0,Xa none 0 0,Xa none 0 0] 83))=ev at *;refine cy.out.mono ?_;rintro r y⟨fn,rfl,aq,bh⟩;generalize c6:za0 base []=z at *;have dy:=zH c6;clear c6 cy;obtain⟨J,K,rfl,-,-⟩:=aq.form;have fb:=Qc cd bh.size;have ar:=(Ext.refl y).alloc (Xe #[Xa J z.length K,Xa none 0 0,Xa none 0 0,Xa none 0 0] 83);have dl:=zaf y 83 [Xa J z.length K,Xa none 0 0,Xa none 0 0,Xa none 0 0];have ck:=(dj.ext bh).ext ar;have dn:=(dm.ext bh).ext ar;have bx:=(aq.ext ar).lower cd;have ca:=(b8.trans bh).trans ar;have d5:=ck.cell (j:=0) rfl;have ao:=zH (zik ((ct.out.all.ext (by decide) ca)) (Qc bi.out.all (by decide)));have er:(y.alloc (Xe #[Xa J z.length K,Xa none 0 0,Xa none 0 0,Xa none 0 0] 83)).heap.size=y.heap.size+1:=by simp
 clear aq b8 bh ar dj dm cd;go_wp2_with fail;generalize y.alloc (Xe #[Xa J z.length K,Xa none 0 0,Xa none 0 0,Xa none 0 0] 83)=d4 at *;refine ao.out.mono ?_;rintro r az⟨fo,rfl,da,au⟩;have ah:=(own_markT.1 da).lower (base':=w.heap.size+2) (by omega);obtain⟨G,H,rfl,-,-⟩:=ah.form;have bc:y.heap.size<az.heap.size:=by have:=au.size;omega
 have a9:=dl.ext au;have e4:=a9.frozen 1;have e3:=a9.cell (j:=1) rfl;have cm:=a9.set (j:=1) (by simp) (Xa G l.length H);simp only[Yg,Yb]at cm;have be:∀b,b≠y.heap.size->(az.setCell ⟨y.heap.size,1,none⟩ (Xa G l.length H)).heap[b]? = az.heap[b]?:=fun b hb=>Qe _ _ _ _ hb
 have cl:=(ck.ext au).keep (be _ (by omega));have dp:=(dn.ext au).keep (be _ (by omega));have bz:=(bx.ext au).keep (w':=az.setCell ⟨y.heap.size,1,none⟩ (Xa G l.length H)) fun b hb _=>be b (fun e=>by subst e;exact(bx.ext au).apart a9 (by decide) hb)
 have b2:=ah.keep (w':=az.setCell ⟨y.heap.size,1,none⟩ (Xa G l.length H)) fun b hb _=>be b (fun e=>by subst e;exact ah.apart a9 (by decide) hb)
 have cb:=(ca.trans au).set (p:=⟨y.heap.size,1,none⟩) (by simp;omega) (Xa G l.length H);have fc:y.heap.size<(az.setCell ⟨y.heap.size,1,none⟩ (Xa G l.length H)).heap.size:=by rw[Qv];exact bc
 have d6:=cl.cell (j:=2) rfl;have cv:=zH (zpa ((ct.out.pruned.ext (by decide) cb)) (Qc bi.out.pruned (by decide)));clear da ah a9 ck dn dl bx ca au be d5 ao er;go_wp2_with fail;generalize az.setCell ⟨y.heap.size,1,none⟩ (Xa G l.length H)=ew at *;refine cv.out.mono ?_;rintro r O⟨fp,rfl,db,ak⟩;have ai:=(OwnL.flat_iff.1 db).lower (base':=w.heap.size+2) (by omega);obtain⟨D,F,rfl,-,-⟩:=ai.form;have a4:=cm.ext ak;have e6:=a4.frozen 3;have e5:=a4.cell (j:=3) rfl;have cn:=a4.set (j:=3) (by simp) (Xa D h.length F);simp only[Yg,Yb]at cn;have a7:∀b,b≠y.heap.size->(O.setCell ⟨y.heap.size,3,none⟩ (Xa D h.length F)).heap[b]? = O.heap[b]?:=fun b hb=>Qe _ _ _ _ hb
 have dk:=(cl.ext ak).keep (a7 _ (by omega));have dq:=(dp.ext ak).keep (a7 _ (by omega));have dc:=(bz.ext ak).keep (w':=O.setCell ⟨y.heap.size,3,none⟩ (Xa D h.length F)) fun b hb _=>a7 b (fun e=>by subst e;exact(bz.ext ak).apart a4 (by decide) hb)
 have de:=(b2.ext ak).keep (w':=O.setCell ⟨y.heap.size,3,none⟩ (Xa D h.length F)) fun b hb _=>a7 b (fun e=>by subst e;exact(b2.ext ak).apart a4 (by decide) hb)
 have df:=ai.keep (w':=O.setCell ⟨y.heap.size,3,none⟩ (Xa D h.length F)) fun b hb _=>a7 b (fun e=>by subst e;exact ai.apart a4 (by decide) hb)
 have dh:=(cb.trans ak).set (p:=⟨y.heap.size,3,none⟩) (by simp;omega) (Xa D h.length F);have ez:=dk.cell (j:=1) rfl;have d0:=zH dh;have dx:=zH (show RowIs (O.setCell ⟨y.heap.size,3,none⟩ (Xa D h.length F)) y.heap.size 83 [Xa J z.length K,Xa G l.length H,(Xa none 0 0),Xa D h.length F] []/\Own (O.setCell ⟨y.heap.size,3,none⟩ (Xa D h.length F)) (w.heap.size+2) 97 2 (Xa J z.length K) z.length (z.flatMap zaj)/\Own (O.setCell ⟨y.heap.size,3,none⟩ (Xa D h.length F)) (w.heap.size+2) 97 2 (Xa G l.length H) l.length (l.flatMap zaj)/\Own (O.setCell ⟨y.heap.size,3,none⟩ (Xa D h.length F)) (w.heap.size+2) 9 1 (Xa D h.length F) h.length (h.flatMap strC)/\RowE (O.setCell ⟨y.heap.size,3,none⟩ (Xa D h.length F)) (w.heap.size+2) y.heap.size (Xa none 0 0) []/\RowIs (O.setCell ⟨y.heap.size,3,none⟩ (Xa D h.length F)) (w.heap.size+1) 83 [Xa none 0 0,Xa none 0 0,Xa none 0 0,Xa none 0 0] []from⟨cn,dc,de,df,RowE.nil _ _ _ _,dq⟩);generalize el:y.heap.size=g at *;clear db ai cm a4 cn cl dk dp dq bz dc b2 de df cb dh ak a7 d6 cv el;go_wp2_with fail;generalize O.setCell ⟨g,3,none⟩ (Xa D h.length F)=ex at *
 go_loopw [24] (fun i wr=>∃pre post ay,L=pre++post/\i=I pre.length/\Hid (RowIs wr g 83 [Xa J z.length K,Xa G l.length H,ay,Xa D h.length F] []/\Own wr (w.heap.size+2) 97 2 (Xa J z.length K) z.length (z.flatMap zaj)/\Own wr (w.heap.size+2) 97 2 (Xa G l.length H) l.length (l.flatMap zaj)/\Own wr (w.heap.size+2) 9 1 (Xa D h.length F) h.length (h.flatMap strC)/\RowE wr (w.heap.size+2) g ay (pre.filter (zde base))/\RowIs wr (w.heap.size+1) 83 [Xa none 0 0,Xa none 0 0,Xa none 0 0,Xa none 0 0] [])/\Ext w wr) (fun i _=>L.length-(intOf i).toNat)
 case atStart=>exact⟨[],L,Xa none 0 0,rfl,rfl,dx,d0.out⟩
 obtain⟨pre,post,ay,ag,rfl,bb,aj⟩:=hrel
 cases post
 case cons m post=>
  obtain⟨b,o,a1,a2,a3,rfl,e0,d7,d8,d9,ea,eb,ec,bt⟩:=du.out pre post m wr aj ag;obtain⟨aa,c1,ab,c2,ac,ad,rfl,rfl,rfl⟩:=bt.fm;have e8:pre.length<L.length:=(by rw[ag];simp);have cz:=zH ag;have bg:=bi.out.each m (by show m∈L;rw[ag];simp);have fa:L.length<=549755813888:=bi.out.entries;have e9:=Vb (zde base) pre;generalize bf:pre.filter (zde base)=t at *;have br:=zH bf;have ae:=(Ext.refl wr).alloc (Xe #[St m.key,Xa aa m.seen.length c1,Xa ab m.counts.length c2,Xa ac m.items.length ad,U m.cell.1,St m.cell.2.1,Xc m.cell.2.2] 46);have co:=zaf wr 46 [St m.key,Xa aa m.seen.length c1,Xa ab m.counts.length c2,Xa ac m.items.length ad,U m.cell.1,St m.cell.2.1,Xc m.cell.2.2];have a5:=(bt.ext aj).ext ae;have di:=aj.trans ae;have cu:=zH (show RowIs (wr.alloc (Xe #[St m.key,Xa aa m.seen.length c1,Xa ab m.counts.length c2,Xa ac m.items.length ad,U m.cell.1,St m.cell.2.1,Xc m.cell.2.2] 46)) g 83 [Xa J z.length K,Xa G l.length H,ay,Xa D h.length F] []/\Own (wr.alloc (Xe #[St m.key,Xa aa m.seen.length c1,Xa ab m.counts.length c2,Xa ac m.items.length ad,U m.cell.1,St m.cell.2.1,Xc m.cell.2.2] 46)) (w.heap.size+2) 97 2 (Xa J z.length K) z.length (z.flatMap zaj)/\Own (wr.alloc (Xe #[St m.key,Xa aa m.seen.length c1,Xa ab m.counts.length c2,Xa ac m.items.length ad,U m.cell.1,St m.cell.2.1,Xc m.cell.2.2] 46)) (w.heap.size+2) 97 2 (Xa G l.length H) l.length (l.flatMap zaj)/\Own (wr.alloc (Xe #[St m.key,Xa aa m.seen.length c1,Xa ab m.counts.length c2,Xa ac m.items.length ad,U m.cell.1,St m.cell.2.1,Xc m.cell.2.2] 46)) (w.heap.size+2) 9 1 (Xa D h.length F) h.length (h.flatMap strC)/\RowE (wr.alloc (Xe #[St m.key,Xa aa m.seen.length c1,Xa ab m.counts.length c2,Xa ac m.items.length ad,U m.cell.1,St m.cell.2.1,Xc m.cell.2.2] 46)) (w.heap.size+2) g ay t/\RowIs (wr.alloc (Xe #[St m.key,Xa aa m.seen.length c1,Xa ab m.counts.length c2,Xa ac m.items.length ad,U m.cell.1,St m.cell.2.1,Xc m.cell.2.2] 46)) (w.heap.size+1) 83 [Xa none 0 0,Xa none 0 0,Xa none 0 0,Xa none 0 0] []from by obtain⟨ce,cf,cg,ch,ci,cj⟩:=bb.out;exact⟨ce.ext ae,cf.ext ae,cg.ext ae,ch.ext ae,ci.ext ae,cj.ext ae⟩);have q1:=co.cell (j:=1) rfl;have cw:=zH (zil ((dv.out.ext (by decide) aj).ext (by decide) ae) a5.seen (Qc c9 (by decide)) (Qc bg.seen (by decide)));have cx:=zH a5;clear ag bf bt a5 bb aj ae;go_wp2_with fail;generalize wr.alloc (Xe #[St m.key,Xa aa m.seen.length c1,Xa ab m.counts.length c2,Xa ac m.items.length ad,U m.cell.1,St m.cell.2.1,Xc m.cell.2.2] 46)=ey at *;refine cw.out.mono ?_;rintro r M⟨rfl,af⟩;have ao:=zH (show RowIs M g 83 [Xa J z.length K,Xa G l.length H,ay,Xa D h.length F] []/\Own M (w.heap.size+2) 97 2 (Xa J z.length K) z.length (z.flatMap zaj)/\Own M (w.heap.size+2) 97 2 (Xa G l.length H) l.length (l.flatMap zaj)/\Own M (w.heap.size+2) 9 1 (Xa D h.length F) h.length (h.flatMap strC)/\RowE M (w.heap.size+2) g ay t/\RowIs M (w.heap.size+1) 83 [Xa none 0 0,Xa none 0 0,Xa none 0 0,Xa none 0 0] []from by obtain⟨ce,cf,cg,ch,ci,cj⟩:=cu.out;exact⟨ce.ext af,cf.ext af,cg.ext af,ch.ext af,ci.ext af,cj.ext af⟩)
  have cc:=di.trans af;have cp:=co.ext af;have dw:=zH (cx.out.ext af);clear cu cw cx di co af q1 e0 d7 d8 d9 ea eb ec
  cases bm:zbm base m.seen
  case true=>
   have bp:=zH (show(pre++[m]).filter (zde base)=t by rw[Yj,br.out];simp[zde,bm]);have bs:=zH cc;clear bm cp cc;go_wp2_with fail;go_roundw
   case rel=>exact⟨pre++[m],post,ay,by rw[cz.out];simp,by simp,by rw[bp.out];exact ao,bs.out⟩
   case measure=>simp[intOf];omega
  have bp:=zH (show(pre++[m]).filter (zde base)=t++[m] by rw[Yj,br.out];simp[zde,bm]);clear bm;obtain⟨bd,b1,b4,b6,a6,bu⟩:=ao.out;obtain⟨N,P,rfl,-,-⟩:=a6.form;go_wp2_with fail;clear ao;have em:=bd.lt;have bk:∀b,zad (Xa N t.length P) b->b<M.heap.size:=fun b hb=>(a6.base_le hb).2
  obtain⟨fq,a8⟩:=a6.own;have ej:¬zad (Xa N t.length P) g:=a8.apart bd (by decide);have a5:=dw.out
  refine zjj [.early (fun v _=>v=Xb (some ⟨g,1,none⟩)),.early (fun v _=>v=Xb (some ⟨g,2,none⟩)),.early (fun v _=>v=Xa N t.length P),.early (fun v _=>v=entV m (Xa aa m.seen.length c1) (Xa ab m.counts.length c2) (Xa ac m.items.length ad)),
   .early (fun v W=>∃A B C,v=entV m A B C/\EntNew W M.heap.size m A B C),
   .early (fun v W=>∃d A B C,v=Xa (some ⟨d,0,none⟩) 1 1/\M.heap.size<=d/\RowIs W d 46 (entL m A B C) []/\EntNew W M.heap.size m A B C),
   .move (fun v W=>RowE W (w.heap.size+2) g v (t++[m])),.late (fun v _=>v=Xb (some ⟨g,1,none⟩)),.late (fun v _=>v=Xb (some ⟨g,2,none⟩))] 6 (fun W=>Ext M W) (fun W=>Moved (Xa N t.length P) M W) Ext (MvR (Xa N t.length P)) rfl (by kernel_rfl) (by kernel_rfl) ?hR ?hRq ?hJ ?hstep ?hend
  case hR=>simp only[zM,HF.fact];exact⟨kP,kP,kP,kP,fun v _ _ d Z=>by obtain⟨A,B,C,e,a⟩:=d;exact⟨A,B,C,e,a.ext Z⟩,fun v _ _ d Z=>by obtain⟨k,A,B,C,e,a,b,c⟩:=d;exact⟨k,A,B,C,e,a,b.ext Z,c.ext Z⟩,fun v _ _ d Z=>d.ext Z,kP,kP⟩
  case hRq =>
   simp only[zM,HF.fact,HF.isStore]
   exact⟨fun _ v _ _ d _=>d,fun _ v _ _ d _=>d,fun _ v _ _ d _=>d,fun _ v _ _ d _=>d,fun _ v _ _ d Z=>by obtain⟨A,B,C,e,a⟩:=d;exact⟨A,B,C,e,a.mvR Z bk⟩,
    fun _ v _ _ d Z=>by obtain⟨k,A,B,C,e,a,b,c⟩:=d;exact⟨k,A,B,C,e,a,b.mvR Z (fun eo=>by have:=bk k eo;omega),c.mvR Z bk⟩,fun d=>(by cases d),fun _ v _ _ d _=>d,fun _ v _ _ d _=>d⟩
  case hJ=>exact(Ext.refl M).drew
  case hstep =>
   simp only[zS,zD,Yo,zes]
   and_intros
   ·intro x W q f;have d:x 5=Xb (some ⟨g,0,none⟩):=f.1;go_wp;exact zai rfl ⟨q,Ext.refl _⟩
   ·intro x W q f;have d:_=_:=f.1;go_wp;exact zai rfl ⟨q,Ext.refl _⟩
   ·intro x W q f;have d:_=_:=f.1;have ek:=(bd.ext q).cell (j:=2) rfl;go_wp;exact zai rfl ⟨q,Ext.refl _⟩
   ·intro x W q f;have d:x 7=Xb (some ⟨wr.heap.size,0,none⟩):=f.1;obtain⟨fi,q1,fj,q3,q4,fk,fl⟩:=(cp.ext q).p7;go_wp;exact zai rfl ⟨q,Ext.refl _⟩
   ·intro x W q f;have d:_=_:=f.1;have bo:=q.size;have ao:=zH (zgs (a5.ext q) (Qc bg.seen (by decide)) (Qc bg.counts (by decide)) (Qc bg.items (by decide)) (fun it en=>Qc (bg.dots it en) (by decide)));go_wp;refine ao.out.mono ?_;rintro r d4⟨A,B,C,rfl,a0,ar⟩;dsimp only;go_wp;exact zai (v:=entV m A B C) ⟨A,B,C,rfl,a0.lower bo⟩ ⟨q.trans ar,ar⟩
   ·intro x W q f;obtain⟨A,B,C,d,a0⟩:∃A B C,x 37=entV m A B C/\EntNew W M.heap.size m A B C:=f.1;have bo:=q.size;obtain⟨cq,d1,cr,c0,cs,c3,rfl,rfl,rfl⟩:=a0.fm;have b7:=zaf W 46 (entL m (Xa cq m.seen.length d1) (Xa cr m.counts.length c0) (Xa cs m.items.length c3));have b9:=(Ext.refl W).alloc (Xe (entL m (Xa cq m.seen.length d1) (Xa cr m.counts.length c0) (Xa cs m.items.length c3)).toArray 46);go_wp;exact zai (v:=Xa (some ⟨W.heap.size,0,none⟩) 1 1) ⟨W.heap.size,_,_,_,rfl,bo,b7,a0.ext b9⟩ ⟨q.trans b9,b9⟩
   ·intro x W q f;have eg:_=_:=f.1;obtain⟨k,A,B,C,eh,hk,b7,a0⟩:∃d A B C,x 38=Xa (some ⟨d,0,none⟩) 1 1/\M.heap.size<=d/\RowIs W d 46 (entL m A B C) []/\EntNew W M.heap.size m A B C:=f.2.1;have bo:=q.size;have ep:=zgm (a0.rd (S:=fun _=>True) (fun _ _ _=>trivial));obtain⟨vss,ed,ee,ef⟩:=a6.ext q
    refine zal rfl (.tmp 35) (.tmp 38) 23 rfl (w.heap.size+2) 46 7 120 zeroEnt Tryz.underlying23 zc0 rfl (by omega) (Xa N t.length P) t.length vss.flatten (by simp[go_sem,eg]) ef (some ⟨k,0,none⟩) 1 1 (entL m A B C) (by simp[go_sem,eh])
     ⟨by simp,ep,fun _=>⟨k,0,rfl,fun j u q=>by rw[Ys];exact b7.cell q⟩⟩ (by omega) (by omega) (by omega) ?_
    intro v' w' eq bn;exact zai (RowE.snoc ed ee a0 bk em (by omega) eq bn) ⟨Grew.moved q bn,bn.size,bn.same⟩
   ·intro x W b q f;have d:x 5=Xb (some ⟨g,0,none⟩):=f.1;go_wp;exact zai rfl ⟨q,Ext.refl _⟩
   intro x W b q f;have d:_=_:=f.1;go_wp;exact zai rfl ⟨q,Ext.refl _⟩
  case hend =>
   intro x W q f;have bj:RowE W (w.heap.size+2) g (x 39) (t++[m]):=f.2.2.2.2.2.2.1;have ei:x 41=Xb (some ⟨g,2,none⟩):=f.2.2.2.2.2.2.2.2.1;clear f;obtain⟨Q,Y,hF,-,-⟩:=bj.form;rw[show(t++[m]).length=t.length+1 by simp]at hF;simp only[zS,zD,zU,Yo,Vf,zav,Act.put,ei,hF];rw[hF]at bj;have ap:=bd.mvR q.mv ej;have c8:=bu.mvR q.mv (a8.apart bu (by decide));have b0:=b1.mvR q.mv (b1.apart2 a8 (by decide));have b3:=b4.mvR q.mv (b4.apart2 a8 (by decide));have b5:=b6.mvR q.mv (b6.apart2 a8 (by decide));have dg:=cc.moved q (fun b hb=>by have:=(a6.base_le hb).1;omega);have e7:=ap.frozen 2;have ek:=ap.cell (j:=2) rfl;have bv:=ap.set (j:=2) (by simp) (Xa Q (t.length+1) Y);simp only[Yg,Yb]at bv;have bw:∀b,b≠g->(W.setCell ⟨g,2,none⟩ (Xa Q (t.length+1) Y)).heap[b]? = W.heap[b]?:=fun b hb=>Qe _ _ _ _ hb
   have bq:=zH (show RowIs (W.setCell ⟨g,2,none⟩ (Xa Q (t.length+1) Y)) g 83 [Xa J z.length K,Xa G l.length H,(Xa Q (t.length+1) Y),Xa D h.length F] []/\Own (W.setCell ⟨g,2,none⟩ (Xa Q (t.length+1) Y)) (w.heap.size+2) 97 2 (Xa J z.length K) z.length (z.flatMap zaj)/\Own (W.setCell ⟨g,2,none⟩ (Xa Q (t.length+1) Y)) (w.heap.size+2) 97 2 (Xa G l.length H) l.length (l.flatMap zaj)/\Own (W.setCell ⟨g,2,none⟩ (Xa Q (t.length+1) Y)) (w.heap.size+2) 9 1 (Xa D h.length F) h.length (h.flatMap strC)/\RowE (W.setCell ⟨g,2,none⟩ (Xa Q (t.length+1) Y)) (w.heap.size+2) g (Xa Q (t.length+1) Y) (t++[m])/\RowIs (W.setCell ⟨g,2,none⟩ (Xa Q (t.length+1) Y)) (w.heap.size+1) 83 [Xa none 0 0,Xa none 0 0,Xa none 0 0,Xa none 0 0] []from
    ⟨bv,b0.keep fun b hb _=>bw b (fun e=>by subst e;exact b0.apart ap (by decide) hb),b3.keep fun b hb _=>bw b (fun e=>by subst e;exact b3.apart ap (by decide) hb),b5.keep fun b hb _=>bw b (fun e=>by subst e;exact b5.apart ap (by decide) hb),
     bj.set ap (by decide),c8.other (by simp;omega) _⟩)
   have d2:=zH (dg.set (p:=⟨g,2,none⟩) (by simp;omega) (Xa Q (t.length+1) Y));clear bj bv ap c8 b0 b3 b5 dg bd bu b1 b4 b6 a6 a8 a5 cp;go_wp;exact⟨⟨pre++[m],post,_,by rw[cz.out];simp,by simp,by rw[bp.out];exact bq,d2.out⟩,by simp[intOf];omega⟩
 rw[Yq]at ag;subst ag;generalize bf:L.filter (zde base)=t at *;have br:=zH bf;clear bf;obtain⟨bc,aq,ah,ai,ba,hR⟩:=bb.out;obtain⟨N,P,rfl,-,-⟩:=ba.form;obtain⟨fd,fe,ff,fg⟩:=bc.p4;obtain⟨r0,r1,es,et⟩:=hR.p4;obtain⟨f0,f1,e1,e2⟩:=hR.q4;have bq:=bb;have bs:=zH aj;clear bb bc aq ah ai ba hR aj;go_wp2_with fail
 (try simp only[Exit.inBlock,Exit.then])
 refine bodyPost_ret (v:=dltV (Xa J z.length K) (Xa G l.length H) (Xa N t.length P) (Xa D h.length F)) (by simp[results,Tryz.f27,go_sem,r0,r1,es,et]) rfl ?_;obtain⟨bc,aq,ah,ai,ba,hR⟩:=bq.out;have hk:=zx3 wr (w.heap.size+1) (Xa J z.length K) (Xa G l.length H) (Xa N t.length P) (Xa D h.length F);refine⟨Xa J z.length K,Xa G l.length H,Xa N t.length P,Xa D h.length F,rfl,?_,?_,?_⟩
 ·rw[dy.out];exact(aq.keep fun b hb _=>hk b (by have:=(aq.base_le hb).1;omega)).lower (by omega)
 ·rw[dz.out];refine⟨?_,?_,?_⟩
  ·exact(ah.keep fun b hb _=>hk b (by have:=(ah.base_le hb).1;omega)).lower (by omega)
  ·exact(OwnL.lower (OwnL.mono (OwnL.keep (w':=put4 wr (w.heap.size+1) (Xa J z.length K) (Xa G l.length H) (Xa N t.length P) (Xa D h.length F)) ba (fun b hb _=>hk b (by have:=hb.1;omega)) (fun b hb _=>hk b (by have:=(ba.base_le hb).1;omega))) (S':=fun b=>w.heap.size<=b/\¬zad (Xa N t.length P) b) fun b _ hb=>⟨by have:=hb.1;omega,hb.2.2⟩) (by omega))
  exact(ai.keep fun b hb _=>hk b (by have:=(ai.base_le hb).1;omega)).lower (by omega)
 exact zz8 bs.out (by omega) _ _ _ _
def zdb (ps:List Str)(m:Mark):Bool:=!decide (m.1∈setL ps)
def zhe (s:State)(base:List Mark)(d:State):State×Nat :=
 if zbm s.all (base.filter (zdb (s.pruned++d.pruned)))then(zb9 s d,0)else(za1,160)
def zoe (sp tp:List Str):Nat->List Str
 | 0=>[]
 | 1=>sp
 | _=>sp++tp
theorem zu7 {df dg de:Nat->Prop}{s d:State}{a1 a2 a3 a7 b6 bm b7:Xg}{f:List Mark}{w:Xf}(Y:StAt w df s a1 a2 a3)(bb:StAt w dg d b6 bm b7)(hb:Sl markT w de a7 f)(co:SmallS s)(cp:SmallS d)(d4:f.length<=549755813888) :
  Calls Tryz.prog 28 #[stV a1 a2 a3,dltV a7 b6 bm b7] w fun r w'=>∃bi bv bw,r=.returned (Xd #[stV bi bv bw,I (zhe s f d).2])/\StAt w' (fun b=>w.heap.size<=b) (zhe s f d).1 bi bv bw/\Ext w w':=by
 have cq:=zH (show zhe s f d=if zbm s.all (f.filter (zdb (s.pruned++d.pruned)))then(zb9 s d,0)else(za1,160)from rfl);obtain⟨y,z,a⟩:=s;obtain⟨D,F,e⟩:=d;obtain⟨G,J,H,L,g,h,rfl,rfl,rfl⟩:=Y.fm;obtain⟨N,S,O,T,t,x,rfl,rfl,rfl⟩:=bb.fm;obtain⟨M,Q,rfl,-,-⟩:=hb.form;have b8:=Y.pruned;have b9:=bb.pruned;have cd:=hb;have c0:=zH (fun(pre post:List Str) (m:Str) (wr:Xf) (B:Ext w wr) (Z:a=pre++m::post)=>zg0 b8 B Z);have c1:=zH (fun(pre post:List Str) (m:Str) (wr:Xf) (B:Ext w wr) (Z:e=pre++m::post)=>zg0 b9 B Z);have cy:=zH (fun(pre post:List Mark) (m:Mark) (wr:Xf) (B:Ext w wr) (Z:f=pre++m::post)=>zf1 cd B Z);have bx:=zH Y;have ct:=zH bb;have bk:=zH co;have b5:=zH cp;have d9:=@run_makeMap Tryz.prog;have ck:Ext w ((((w.alloc (Xe #[Xa G y.length J,Xa H z.length L,Xa g a.length h] 26)).alloc (Xe #[Xa M f.length Q,Xa N D.length S,Xa O F.length T,Xa t e.length x] 83)).alloc (Xe #[Xa none 0 0,Xa none 0 0,Xa none 0 0] 26)).alloc (.map #[] 0)):=((((Ext.refl w).alloc _).alloc _).alloc _).alloc _;have cb:SetOf St ((((w.alloc (Xe #[Xa G y.length J,Xa H z.length L,Xa g a.length h] 26)).alloc (Xe #[Xa M f.length Q,Xa N D.length S,Xa O F.length T,Xa t e.length x] 83)).alloc (Xe #[Xa none 0 0,Xa none 0 0,Xa none 0 0] 26)).alloc (.map #[] 0)) (w.heap.size+3) []:=by have Y:=SetOf.new (K:=St) (((w.alloc (Xe #[Xa G y.length J,Xa H z.length L,Xa g a.length h] 26)).alloc (Xe #[Xa M f.length Q,Xa N D.length S,Xa O F.length T,Xa t e.length x] 83)).alloc (Xe #[Xa none 0 0,Xa none 0 0,Xa none 0 0] 26));simp only[Ye]at Y;exact Y
 have eg:((((w.alloc (Xe #[Xa G y.length J,Xa H z.length L,Xa g a.length h] 26)).alloc (Xe #[Xa M f.length Q,Xa N D.length S,Xa O F.length T,Xa t e.length x] 83)).alloc (Xe #[Xa none 0 0,Xa none 0 0,Xa none 0 0] 26)).alloc (.map #[] 0)).heap.size=w.heap.size+4:=by simp
 have cl:Ext w (((((w.alloc (Xe #[Xa G y.length J,Xa H z.length L,Xa g a.length h] 26)).alloc (Xe #[Xa M f.length Q,Xa N D.length S,Xa O F.length T,Xa t e.length x] 83)).alloc (Xe #[Xa none 0 0,Xa none 0 0,Xa none 0 0] 26)).alloc (.map #[] 0)).alloc (Xe #[Xa g a.length h,Xa t e.length x] 24)):=ck.alloc _
 have ca:RowIs (((((w.alloc (Xe #[Xa G y.length J,Xa H z.length L,Xa g a.length h] 26)).alloc (Xe #[Xa M f.length Q,Xa N D.length S,Xa O F.length T,Xa t e.length x] 83)).alloc (Xe #[Xa none 0 0,Xa none 0 0,Xa none 0 0] 26)).alloc (.map #[] 0)).alloc (Xe #[Xa g a.length h,Xa t e.length x] 24)) w.heap.size 26 [Xa G y.length J,Xa H z.length L,Xa g a.length h] []/\RowIs (((((w.alloc (Xe #[Xa G y.length J,Xa H z.length L,Xa g a.length h] 26)).alloc (Xe #[Xa M f.length Q,Xa N D.length S,Xa O F.length T,Xa t e.length x] 83)).alloc (Xe #[Xa none 0 0,Xa none 0 0,Xa none 0 0] 26)).alloc (.map #[] 0)).alloc (Xe #[Xa g a.length h,Xa t e.length x] 24)) (w.heap.size+1) 83 [Xa M f.length Q,Xa N D.length S,Xa O F.length T,Xa t e.length x] []/\RowIs (((((w.alloc (Xe #[Xa G y.length J,Xa H z.length L,Xa g a.length h] 26)).alloc (Xe #[Xa M f.length Q,Xa N D.length S,Xa O F.length T,Xa t e.length x] 83)).alloc (Xe #[Xa none 0 0,Xa none 0 0,Xa none 0 0] 26)).alloc (.map #[] 0)).alloc (Xe #[Xa g a.length h,Xa t e.length x] 24)) (w.heap.size+2) 26 [Xa none 0 0,Xa none 0 0,Xa none 0 0] []/\RowIs (((((w.alloc (Xe #[Xa G y.length J,Xa H z.length L,Xa g a.length h] 26)).alloc (Xe #[Xa M f.length Q,Xa N D.length S,Xa O F.length T,Xa t e.length x] 83)).alloc (Xe #[Xa none 0 0,Xa none 0 0,Xa none 0 0] 26)).alloc (.map #[] 0)).alloc (Xe #[Xa g a.length h,Xa t e.length x] 24)) (w.heap.size+4) 24 [Xa g a.length h,Xa t e.length x] []:=⟨((((zaf w 26 [Xa G y.length J,Xa H z.length L,Xa g a.length h]).alloc _).alloc _).alloc _).alloc _,by have Y:=zaf (w.alloc (Xe #[Xa G y.length J,Xa H z.length L,Xa g a.length h] 26)) 83 [Xa M f.length Q,Xa N D.length S,Xa O F.length T,Xa t e.length x];simp only[Ye]at Y;exact((Y.alloc _).alloc _).alloc _,
  by have Y:=zaf ((w.alloc (Xe #[Xa G y.length J,Xa H z.length L,Xa g a.length h] 26)).alloc (Xe #[Xa M f.length Q,Xa N D.length S,Xa O F.length T,Xa t e.length x] 83)) 26 [Xa none 0 0,Xa none 0 0,Xa none 0 0];simp only[Ye]at Y;exact(Y.alloc _).alloc _,by have Y:=zaf ((((w.alloc (Xe #[Xa G y.length J,Xa H z.length L,Xa g a.length h] 26)).alloc (Xe #[Xa M f.length Q,Xa N D.length S,Xa O F.length T,Xa t e.length x] 83)).alloc (Xe #[Xa none 0 0,Xa none 0 0,Xa none 0 0] 26)).alloc (.map #[] 0)) 24 [Xa g a.length h,Xa t e.length x];simp only[Ye]at Y;exact Y⟩
 have cu:=zH ca;have c3:=zH (cb.ext ((Ext.refl _).alloc (Xe #[Xa g a.length h,Xa t e.length x] 24)));have c8:=zH cl;clear Y b8 b9 hb cd bb co cp ck cb cl ca;go_enter Tryz.func28,Tryz.ntmps28;go_wp2_with fail;generalize ((((w.alloc (Xe #[Xa G y.length J,Xa H z.length L,Xa g a.length h] 26)).alloc (Xe #[Xa M f.length Q,Xa N D.length S,Xa O F.length T,Xa t e.length x] 83)).alloc (Xe #[Xa none 0 0,Xa none 0 0,Xa none 0 0] 26)).alloc (.map #[] 0)).alloc (Xe #[Xa g a.length h,Xa t e.length x] 24)=d0 at *
 go_loopw [24] (fun i wr=>∃j:Nat,j<=2/\i=I j/\SetOf St wr (w.heap.size+3) (setL (zoe a e j))/\Hid (RowIs wr w.heap.size 26 [Xa G y.length J,Xa H z.length L,Xa g a.length h] []/\RowIs wr (w.heap.size+1) 83 [Xa M f.length Q,Xa N D.length S,Xa O F.length T,Xa t e.length x] []/\RowIs wr (w.heap.size+2) 26 [Xa none 0 0,Xa none 0 0,Xa none 0 0] []/\RowIs wr (w.heap.size+4) 24 [Xa g a.length h,Xa t e.length x] [])/\Ext w wr) (fun i _=>2-(intOf i).toNat)
 case atStart=>exact⟨0,by omega,rfl,c3.out,cu,c8.out⟩
 obtain⟨j,d6,rfl,ai,ah,B⟩:=hrel
 by_cases cg:j<2
 ·have dp:∃ab av A c,zoe a e j=av/\zoe a e (j+1)=av++ab/\wr.cell? ⟨w.heap.size+4,j,none⟩=some (Xa A ab.length c)/\ab.length<=549755813888/\(∀(pre post:List Str) (m:Str) (wr:Xf) (B:Ext w wr) (Z:ab=pre++m::post),∃b o,A=some ⟨b,o,none⟩/\wr.cell? ⟨b,o+pre.length,none⟩=some (St m)):=by
   have ae:=ah.out.2.2.2;rcases(show j=0 ∨ j=1 by omega)with rfl|rfl
   ·exact⟨a,[],g,h,rfl,rfl,ae.cell (j:=0) rfl,bk.out.pruned,c0.out⟩
   exact⟨e,a,t,x,rfl,rfl,ae.cell (j:=1) rfl,b5.out.pruned,c1.out⟩
  obtain⟨ab,av,A,c,bn,ce,dn,d5,cc⟩:=dp;have dy:=zH bn;have cs:=zH ce;have cr:=zH cc;rw[bn]at ai;clear bn ce cc;have a6:=zH ai;have ar:=zH B;clear ai B;go_wp2_with fail
  go_loopw [30] (fun i wr=>∃ac aa,ab=ac++aa/\i=I ac.length/\SetOf St wr (w.heap.size+3) (setL (av++ac))/\Hid (RowIs wr w.heap.size 26 [Xa G y.length J,Xa H z.length L,Xa g a.length h] []/\RowIs wr (w.heap.size+1) 83 [Xa M f.length Q,Xa N D.length S,Xa O F.length T,Xa t e.length x] []/\RowIs wr (w.heap.size+2) 26 [Xa none 0 0,Xa none 0 0,Xa none 0 0] []/\RowIs wr (w.heap.size+4) 24 [Xa g a.length h,Xa t e.length x] [])/\Ext w wr) (fun i _=>ab.length-(intOf i).toNat)
  case atStart=>exact⟨[],ab,rfl,rfl,by rw[Yq];exact a6.out,ah,ar.out⟩
  clear a6 ar ah dn;obtain⟨ac,aa,ad,rfl,a9,a8,aw⟩:=hrel
  cases aa
  case cons m aa=>
   obtain⟨bm,ei,rfl,e0⟩:=cr.out ac aa m wr aw ad;have d8:ac.length<ab.length:=(by rw[ad];simp);obtain⟨az,ee,ci,al⟩:=zc9 (P:=Tryz.prog) Tryz.underlying139 zd8 a9 m;have cw:=zH (show RowIs az w.heap.size 26 [Xa G y.length J,Xa H z.length L,Xa g a.length h] []/\RowIs az (w.heap.size+1) 83 [Xa M f.length Q,Xa N D.length S,Xa O F.length T,Xa t e.length x] []/\RowIs az (w.heap.size+2) 26 [Xa none 0 0,Xa none 0 0,Xa none 0 0] []/\RowIs az (w.heap.size+4) 24 [Xa g a.length h,Xa t e.length x] []from by obtain⟨ao,af,ap,ae⟩:=a8.out;exact⟨ao.keep (al.other _ (by omega)),af.keep (al.other _ (by omega)),ap.keep (al.other _ (by omega)),ae.keep (al.other _ (by omega))⟩);have dc:=zH (aw.turned al (by omega));have c6:=zH (show SetOf St az (w.heap.size+3) (setL (av++(ac++[m]))) by rw[<- List.append_assoc,zh6];exact ci);have cx:=zH ad;clear ad a9 a8 aw ci al;go_wp2_with fail;go_roundw
   case rel=>exact⟨ac++[m],aa,by rw[cx.out];simp,by simp,c6.out,cw,dc.out⟩
   case measure=>simp[intOf];omega
  rw[Yq]at ad;have c5:=zH (show SetOf St wr (w.heap.size+3) (setL (zoe a e (j+1))) by rw[cs.out,ad];exact a9);have d7:ab.length=ac.length:=(by rw[ad]);have c9:=zH aw;have cv:=a8;clear ad a9 a8 aw;go_wp2_with fail;go_roundw
  case rel=>exact⟨j+1,by omega,by simp,c5.out,cv,c9.out⟩
  case measure=>simp[intOf];omega
 obtain rfl:j=2:=by omega
 rw[show((2:Nat):Int)=2 from rfl];obtain⟨ao,af,ap,ae⟩:=ah.out;have di:=af.cell (j:=0) rfl;have a6:=zH (show SetOf St wr (w.heap.size+3) (setL (a++e))from ai);have ar:=zH B;have ef:=ai.lt;clear ai B ao af ap ae;go_wp2_with fail;obtain⟨au,rfl⟩:∃au:Xf,au=wr:=⟨_,rfl⟩
 generalize ch:a++e=ps at *;have dz:=zH ch;clear ch cg
 go_loopw [11,42] (fun l i wr=>∃pre post,f=pre++post/\i=I pre.length/\Own wr au.heap.size 97 2 l (pre.filter (zdb ps)).length ((pre.filter (zdb ps)).flatMap zaj)/\Ext au wr) (fun _ i _=>f.length-(intOf i).toNat)
 case atStart=>exact⟨[],f,rfl,rfl,Own.nil _ _ _ _ _,Ext.refl _⟩
 clear di;obtain⟨pre,post,Z,rfl,ak,B⟩:=hrel
 cases post
 case cons m post=>
  obtain⟨b,o,rfl,e0,d3⟩:=cy.out pre post m wr (ar.out.trans B) Z;have cg:pre.length<f.length:=(by rw[Z];simp);have b2:=zH Z;have dt:=Vb (zdb ps) pre;generalize bc:pre.filter (zdb ps)=ag at *;have b3:=zH bc;have bd:=(Ext.refl wr).alloc (Xe #[St m.1,U m.2] 97);have cf:=zih (P:=Tryz.prog) Tryz.underlying139 zd8 znb ((a6.out.ext B).ext bd) m.1;have ej:(wr.alloc (Xe #[St m.1,U m.2] 97)).cell? ⟨wr.heap.size,0,none⟩=some (St m.1):=(by simp[go_sem]);have bi:(wr.alloc (Xe #[St m.1,U m.2] 97)).cell? ⟨wr.heap.size,1,none⟩=some (U m.2):=(by simp[go_sem]);have ea:=B.size;have eh:(wr.alloc (Xe #[St m.1,U m.2] 97)).heap.size=wr.heap.size+1:=(by simp);have b4:=zH (B.trans bd);have bj:=zH (ak.ext bd);obtain⟨C,dj,rfl,-,-⟩:=ak.form;clear Z bc B bd ak
  by_cases aj:m.1∈setL ps
  ·have HF:=zH (show(pre++[m]).filter (zdb ps)=ag by rw[Yj,b3.out];simp[zdb,aj]);simp only[aj,decide_true]at cf;clear aj;go_wp2_with fail;go_roundw
   case rel=>exact⟨pre++[m],post,by rw[b2.out];simp,by simp,by rw[HF.out];exact bj.out.alloc _,b4.out.alloc _⟩
   case measure=>simp[intOf];omega
  have HF:=zH (show(pre++[m]).filter (zdb ps)=ag++[m] by rw[Yj,b3.out];simp[zdb,aj]);simp only[aj,decide_false]at cf;clear aj
  go_wp2_with (at_builtin;refine zal rfl (.tmp 55) (.tmp 57) 22 rfl au.heap.size 97 2 24 (.agg #[St [],U 0]) Tryz.underlying22 zgp rfl (by omega) _ ag.length (ag.flatMap zaj) rfl ((bj.out.alloc _).alloc _) _ 1 1 [St m.1,U m.2] rfl (Src.newAt (by simp) rfl (by intro u cj;simp at cj;rcases cj with rfl|rfl<;>rfl)) (by omega) (by omega) (by simp;omega) ?_;intro v' w' ds dq)
  go_roundw
  case rel=>exact⟨pre++[m],post,by rw[b2.out];simp,by simp,by rw[HF.out];simpa[zaj]using ds,Ext.grewOwn ((b4.out.alloc _).alloc _) dq ((bj.out.alloc _).alloc _) (Qj _)⟩
  case measure=>simp[intOf];omega
 rw[Yq]at Z;subst Z;obtain⟨ao,af,ap,ae⟩:=ah.out;have bs:=ao.ext B;have cm:=af.ext B;have cn:=ap.ext B;have dt:=Vb (zdb ps) f;generalize bc:f.filter (zdb ps)=ag at *;have bz:=zH (show zhe ⟨y,z,a⟩ f ⟨D,F,e⟩=if zbm y ag then(zb9 ⟨y,z,a⟩ ⟨D,F,e⟩,0)else(za1,160)from cq.out);have bq:=ar.out.trans B;have a7:=bs.cell (j:=0) rfl;have b0:=zH (zil (bx.out.all.ext (by decide) bq) (zbb ak) (Qc bk.out.all (by decide)) (by omega));obtain⟨C,dj,rfl,-,-⟩:=ak.form;have eb:=B.size;clear bc ak B ao af ap ae ah;go_wp2_with fail;refine b0.out.mono ?_;rintro r d2⟨rfl,am⟩;have bt:=bs.ext am;have ax:=cm.ext am;have ay:=cn.ext am;have an:=bq.trans am;have ec:=am.size;clear bs cm cn bq am a7 b0
 cases ba:zbm y ag
 case false=>
  have aq:=zH (show zhe ⟨y,z,a⟩ f ⟨D,F,e⟩=(za1,160) by rw[bz.out,ba];rfl);obtain⟨r0,r1,br⟩:=ay.p3;obtain⟨f0,f1,dm⟩:=ay.q3;have da:=zH an;clear ba an bt ax ay;go_wp2_with fail
  (try simp only[Exit.inBlock,Exit.then])
  refine bodyPost_ret (v:=Xd #[stV (Xa none 0 0) (Xa none 0 0) (Xa none 0 0),I 160]) (by simp[results,Tryz.f28,go_sem,r0,r1,br]) rfl ?_;have bp:=zbn (q:=w.heap.size+2) da.out (by omega) (Xa none 0 0) (Xa none 0 0) (Xa none 0 0);refine⟨Xa none 0 0,Xa none 0 0,Xa none 0 0,by(rw[aq.out];try rfl),?_⟩;rw[aq.out];exact⟨StAt.none _ _ _ _ _,bp⟩
 have aq:=zH (show zhe ⟨y,z,a⟩ f ⟨D,F,e⟩=(zb9 ⟨y,z,a⟩ ⟨D,F,e⟩,0) by rw[bz.out,ba];rfl);have b1:=zH (zib (bx.out.ext an) (ct.out.ext an) bk.out b5.out);obtain⟨du,dv,dw⟩:=bt.p3;have d1:=ax.cell (j:=1) rfl;have dk:=ax.cell (j:=2) rfl;have dl:=ax.cell (j:=3) rfl;clear ba bt ax;go_wp2_with fail;refine b1.out.mono ?_;rintro r dh⟨bi,bv,bw,rfl,bo,be⟩;generalize zb9 ⟨y,z,a⟩ ⟨D,F,e⟩=dx at *;obtain⟨bf,bg,bh⟩:=dx;obtain⟨a0,q1,a4,aa,a5,q3,rfl,rfl,rfl⟩:=bo.fm;have bu:=ay.ext be;obtain⟨r0,r1,br⟩:=bu.p3;obtain⟨f0,f1,dm⟩:=bu.q3;have ed:=be.size;have db:=zH (an.trans be);have cz:=zH bo;clear bo be an ay bu du dv dw d1 dk dl b1;go_wp2_with fail
 (try simp only[Exit.inBlock,Exit.then])
 refine bodyPost_ret (v:=Xd #[stV (Xa a0 bf.length q1) (Xa a4 bg.length aa) (Xa a5 bh.length q3),I 0]) (by simp[results,Tryz.f28,go_sem,r0,r1,br]) rfl ?_;have bp:=zbn (q:=w.heap.size+2) db.out (by omega) (Xa a0 bf.length q1) (Xa a4 bg.length aa) (Xa a5 bh.length q3);have dr:=zda dh (w.heap.size+2) (Xa a0 bf.length q1) (Xa a4 bg.length aa) (Xa a5 bh.length q3);refine⟨Xa a0 bf.length q1,Xa a4 bg.length aa,Xa a5 bh.length q3,by(rw[aq.out];try rfl),?_⟩;rw[aq.out];exact⟨(cz.out.at.keep (fun b hb _=>dr b (by omega))).mono (fun b _ hb=>by omega),bp⟩
end
section
theorem zqp {all base:List Mark}{P:Mark->Bool}(hb:GoodM base):zbm all (base.filter P)=true↔∀m∈base,P m=true->m.2<=ofM all m.1:=by
 have d:GoodM (base.filter P):=⟨hb.1.filter _,fun m a=>hb.2 m (Qk.1 a).1⟩
 rw[coversM_iff]
 constructor
 ·intro b m a g;have f:=Qk.2 ⟨a,g⟩;have:=b m.1
  rwa[d.1.of f (hb.2 m a).1]at this
 intro b s;refine ofM_le.2 fun m a e _=>?_
 subst e;obtain⟨h1,c⟩:=Qk.1 a;exact b m h1 c
end
section
open Go.RowKit
theorem zd2 (a b:List Str)(ha:RiseS a)(hb:RiseS b):RiseS (zcf a b)/\∀k,k∈zcf a b↔k∈a ∨ k∈b:=by
 unfold RiseS at *
 fun_induction zcf a b with
 | case1=>exact⟨.nil,by simp⟩
 | case2 a r ih=>obtain⟨h1,f⟩:=Qf.1 ha;obtain⟨e,c⟩:=ih f hb;exact⟨Qf.2 ⟨fun x d=>(by rcases(c x).1 d with h|h;exact h1 x h;cases h),e⟩,fun k=>by rw[Qh,c];simp⟩
 | case3 b s ih=>obtain⟨h1,f⟩:=Qf.1 hb;obtain⟨e,c⟩:=ih ha f;exact⟨Qf.2 ⟨fun x d=>(by rcases(c x).1 d with h|h;cases h;exact h1 x h),e⟩,fun k=>by rw[Qh,c];simp⟩
 | case4 a r b s g ih =>
  have g:a=b:=by simpa using g
  subst g;obtain⟨h1,f⟩:=Qf.1 ha;obtain⟨i,j⟩:=Qf.1 hb;obtain⟨e,c⟩:=ih f j;refine⟨Qf.2 ⟨fun x d=>(by rcases(c x).1 d with h|h;exact h1 x h;exact i x h),e⟩,fun k=>?_⟩;rw[Qh,c,Qh,Qh]
  constructor
  ·rintro(h|h|h)
   ·exact .inl (.inl h)
   ·exact .inl (.inr h)
   exact .inr (.inr h)
  rintro((h|h)|h|h)
  ·exact .inl h
  ·exact .inr (.inl h)
  ·exact .inl h
  exact .inr (.inr h)
 | case5 a r b s g hl ih =>
  obtain⟨h1,f⟩:=Qf.1 ha;obtain⟨i,j⟩:=Qf.1 hb;obtain⟨e,c⟩:=ih f hb;refine⟨Qf.2 ⟨fun x d=>?_,e⟩,fun k=>?_⟩
  ·rcases(c x).1 d with h|h
   ·exact h1 x h
   rcases Qh.1 h with rfl|h
   ·exact hl
   exact zay hl (i x h)
  rw[Qh,c,Qh (a:=k) (b:=a)];exact or_assoc.symm
 | case6 a r b s g hl ih =>
  have l:ltS b a=true:=by
   rcases zcj a b with h|h|h
   ·exact absurd h hl
   ·subst h;simp at g
   exact h
  obtain⟨h1,f⟩:=Qf.1 ha;obtain⟨i,j⟩:=Qf.1 hb;obtain⟨e,c⟩:=ih ha j;refine⟨Qf.2 ⟨fun x d=>?_,e⟩,fun k=>?_⟩
  ·rcases(c x).1 d with h|h
   ·rcases Qh.1 h with rfl|h
    ·exact l
    exact zay l (h1 x h)
   exact i x h
  rw[Qh,c,Qh (a:=k) (b:=b)]
  constructor
  ·rintro(h|h|h)
   ·exact .inr (.inl h)
   ·exact .inl h
   exact .inr (.inr h)
  rintro(h|h|h)
  ·exact .inr (.inl h)
  ·exact .inl h
  exact .inr (.inr h)
abbrev vecS (s:State):Vec:=fun p=>ofM s.all p
structure IsS (E:List Ev) (pr:List Str) (s:State):Prop where
 all:GoodM s.all
 pruned:s.pruned=pr
 rise:RiseS (s.entries.map (·.key))
 each:∀x∈s.entries,IsE E (vecS s) x.key x/\x.key≠[]
 has:∀k,k∈s.entries.map (·.key)↔∃e∈E,zao (vecS s) e=true/\e.key=k
 closed:Closed E (vecS s)
theorem zgx {l:List Entry}{k:Str}(a:k∉l.map (·.key)):getE l k=zak:=by
 unfold getE za4;rw[Yx.2 fun x c b=>a (Qg.2 ⟨x,c,by simpa using b⟩)]
 rfl
theorem zfy {l:List Entry}(hR:RiseS (l.map (·.key))){x:Entry}(a:x∈l):getE l x.key=x:=by
 unfold getE;rw[zrp hR a]
 rfl
theorem zfj {l:List Entry}{k:Str}(a:k∈l.map (·.key)):∃x∈l,x.key=k:=by
 obtain⟨x,b,rfl⟩:=Qg.1 a;exact⟨x,b,rfl⟩
theorem entries_ext {a b:List Entry}(ha:RiseS (a.map (·.key)))(hb:RiseS (b.map (·.key)))(g:∀x,x∈a↔x∈b):a=b:=by
 unfold RiseS at ha hb;rw[Qq]at ha hb;have f:∀ {l:List Entry},l.Pairwise (fun a b=>ltS a.key b.key=true)->l.Nodup:=fun h=>h.imp fun {a b} d e=>by subst e;rw[zap]at d;cases d
 exact List.Perm.eq_of_pairwise (le:=fun a b=>ltS a.key b.key=true) (fun x y _ _ h1 c=>by rw[zc8 h1]at c;cases c) ha hb (zdl (f ha) (f hb) g)
theorem IsS.uniq {E:List Ev}{g:List Str}{s t:State}(d:IsS E g s)(e:IsS E g t)(l:∀p,ofM s.all p=ofM t.all p):s=t:=by
 have h:=d.all.ext e.all l;have f:vecS s=vecS t:=funext l
 have i:s.entries=t.entries:=by
  refine entries_ext d.rise e.rise fun x=>?_
  have key:∀ {s t:State},IsS E g s->IsS E g t->vecS s=vecS t->x∈s.entries->x∈t.entries:=by intro s t d e f r;have h1:=(d.has x.key).1 (Qg.2 ⟨x,r,rfl⟩);rw[f]at h1;obtain⟨y,u,v⟩:=zfj ((e.has x.key).2 h1);have m:=(e.each y u).1;have q:=(d.each x r).1;rw[f]at q;rw[v]at m;rw[q.uniq m];exact u
  exact⟨key d e f,key e d f.symm⟩
 have j:=d.pruned.trans e.pruned.symm;obtain⟨a,b,c⟩:=s;obtain⟨w,z,A⟩:=t;simp only at h i j;rw[h,i,j]
theorem zgy (a b:State):vecS (zb9 a b)=maxV (vecS a) (vecS b):=funext fun p=>zfs _ _ p
theorem zp0 {x:Entry}(h:x.key≠[]):x≠zak:=fun e=>h (by rw[e];rfl)
theorem znj {E:List Ev}{f:List Str}{s:State}(d:IsS E f s){k:Str}(a:k∉s.entries.map (·.key)):∀e∈E,e.key=k->zao (vecS s) e=false:=fun e b hk=>Yz.2 fun c=>a ((d.has k).2 ⟨e,b,c,hk⟩)
theorem zk3 {E:List Ev}{q r:List Str}{a b:State}(l:Hist E)(ha:IsS E q a)(hb:IsS E r b){k:Str}(hk:k∈a.entries.map (·.key) ∨ k∈b.entries.map (·.key)) :
  IsE E (maxV (vecS a) (vecS b)) k (zbz (getE a.entries k) (getE b.entries k))/\k≠[]:=by
 by_cases h1:k∈a.entries.map (·.key)
 ·obtain⟨x,j,rfl⟩:=zfj h1;rw[zfy ha.rise j];obtain⟨i,f⟩:=ha.each x j;refine⟨?_,f⟩;unfold zbz;rw[zN fun m=>zp0 f (sameE_iff.1 m)]
  by_cases d:x.key∈b.entries.map (·.key)
  ·obtain⟨y,g,c⟩:=zfj d;rw[<- c,zfy hb.rise g,c,zP rfl];have h:=(hb.each y g).1;rw[c]at h;exact i.join l ha.closed hb.closed h
  rw[zgx d,zN (by simpa[zak]using f)];exact i.congr fun e c hk=>by rw[zba,znj hb d e c hk,Bool.or_false]
 have d:=hk.resolve_left h1;obtain⟨y,g,rfl⟩:=zfj d;rw[zfy hb.rise g,zgx h1];obtain⟨h,f⟩:=hb.each y g;refine⟨?_,f⟩;unfold zbz;rw[zP (sameE_iff.2 rfl)];exact h.congr fun e c hk=>by rw[zba,znj ha h1 e c hk,Bool.false_or]
theorem zof {E:List Ev}{d e:List Str}{a b:State}(c:Hist E)(ha:IsS E d a)(hb:IsS E e b):(zhd a.entries b.entries).map (·.key)=zb8 a.entries b.entries:=by
 unfold zhd;rw[List.map_map];refine(Yc fun k hk=>?_).trans (List.map_id _);exact(zk3 c ha hb (((zd2 _ _ ha.rise hb.rise).2 k).1 hk)).1.key
theorem IsS.join {E:List Ev}{d:List Str}{a b:State}(f:Hist E)(ha:IsS E d a)(hb:IsS E d b)(h:Lib.compact (zbw (d++d))=d):IsS E d (zb9 a b) where
 all:=zcp _ _
 pruned:=by rw[show(zb9 a b).pruned=Lib.compact (zbw (a.pruned++b.pruned))from rfl,ha.pruned,hb.pruned,h]
 rise:=by rw[show(zb9 a b).entries=zhd a.entries b.entries from rfl,zof f ha hb];exact(zd2 _ _ ha.rise hb.rise).1
 each x hx:=by rw[zgy];obtain⟨k,hk,rfl⟩:=Qg.1 (show x∈zhd a.entries b.entries from hx);obtain⟨h1,c⟩:=zk3 f ha hb (((zd2 _ _ ha.rise hb.rise).2 k).1 hk);rw[h1.key];exact⟨h1,c⟩
 has k:=by
  rw[zgy,show(zb9 a b).entries=zhd a.entries b.entries from rfl,zof f ha hb,(zd2 _ _ ha.rise hb.rise).2 k,ha.has,hb.has]
  constructor
  ·rintro(⟨e,he,h1,c⟩|⟨e,he,h1,c⟩)
   ·exact⟨e,he,by rw[zba,h1,Yw],c⟩
   exact⟨e,he,by rw[zba,h1,Vm],c⟩
  rintro⟨e,he,h1,c⟩;rw[zba,Qz]at h1;exact h1.imp (fun g=>⟨e,he,g,c⟩) fun g=>⟨e,he,g,c⟩
 closed:=by rw[zgy];exact ha.closed.max hb.closed
theorem zrq {a b:List Str}(ha:RiseS a)(hb:RiseS b)(g:∀k,k∈a↔k∈b):a=b:=by
 unfold RiseS at ha hb;have f:∀ {l:List Str},l.Pairwise (fun a b=>ltS a b=true)->l.Nodup:=fun h=>h.imp fun {a b} d e=>by subst e;rw[zap]at d;cases d
 exact List.Perm.eq_of_pairwise (le:=fun a b=>ltS a b=true) (fun x y _ _ h1 c=>by rw[zc8 h1]at c;cases c) ha hb (zdl (f ha) (f hb) g)
theorem zm1 {E:List Ev}{l m:List Str}{a b:State}(ha:IsS E l a)(hb:IsS E m b){base:List Mark}(i:∀p,ofM base p<=ofM a.all p){y:Entry}(h:y∈b.entries)(g:zde base y=false):(∀e∈E,e.key=y.key->zao (vecS b) e=true->zao (vecS a) e=true)/\y.key∈a.entries.map (·.key):=by
 have j:zbm base y.seen=true:=by unfold zde at g;simpa using g
 have h1:∀e∈E,e.key=y.key->zao (vecS b) e=true->zao (vecS a) e=true:=by
  intro e c hk d;have q:=coversM_iff.1 j e.path;have r:=((hb.each y h).1.seen e.path).1 e c ⟨d,hk,rfl⟩;have:=i e.path;refine decide_eq_true ?_
  show e.num<=ofM a.all e.path
  omega
 obtain⟨e,c,d,f⟩:=(hb.has y.key).1 (Qg.2 ⟨y,h,rfl⟩);exact⟨h1,(ha.has y.key).2 ⟨e,c,h1 e c f d,f⟩⟩
theorem zu8 {E:List Ev}{D F:List Str}{a b:State}(t:Hist E)(ha:IsS E D a)(hb:IsS E F b){base:List Mark}(j:∀p,ofM base p<=ofM a.all p):zb9 a (zic b base)=zb9 a b:=by
 have hR:RiseS ((b.entries.filter (zde base)).map (·.key)):=by have:=hb.rise;unfold RiseS at this ⊢;rw[Qq]at this ⊢;exact this.filter _
 have z:zb8 a.entries (b.entries.filter (zde base))=zb8 a.entries b.entries:=by
  refine zrq (zd2 _ _ ha.rise hR).1 (zd2 _ _ ha.rise hb.rise).1 fun k=>?_
  rw[(zd2 _ _ ha.rise hR).2,(zd2 _ _ ha.rise hb.rise).2]
  constructor
  ·rintro(c|c)
   ·exact .inl c
   obtain⟨x,d,rfl⟩:=zfj c;exact .inr (Qg.2 ⟨x,(Qk.1 d).1,rfl⟩)
  rintro(c|c)
  ·exact .inl c
  obtain⟨y,f,rfl⟩:=zfj c
  cases g:zde base y with
  | true=>exact .inr (Qg.2 ⟨y,Qk.2 ⟨f,g⟩,rfl⟩)
  | false=>exact .inl (zm1 ha hb j f g).2
 have v:zhd a.entries (b.entries.filter (zde base))=zhd a.entries b.entries:=by
  unfold zhd;rw[z];refine Yc fun k hk=>?_
  by_cases h1:k∈b.entries.map (·.key)
  ·obtain⟨y,f,rfl⟩:=zfj h1
   cases g:zde base y
   case true=>rw[zfy hR (Qk.2 ⟨f,g⟩),zfy hb.rise f]
   obtain⟨A,m⟩:=zm1 ha hb j f g
   have B:y.key∉(b.entries.filter (zde base)).map (·.key):=fun c=>by obtain⟨x,d,i⟩:=zfj c;obtain⟨C,r⟩:=Qk.1 d;rw[zpz hb.rise C f i,g]at r;cases r
   obtain⟨x,d,s⟩:=zfj m;obtain⟨w,q⟩:=ha.each x d;have h:=(zk3 t ha hb (.inl m)).1;rw[zgx B];rw[<- s]at h ⊢;rw[zfy ha.rise d]at h ⊢
   have u:IsE E (maxV (vecS a) (vecS b)) x.key x:=w.congr fun e i hk=>by rw[zba,Jf,Qz];exact⟨.inl,fun c=>c.elim id fun c=>A e i (hk.trans s) c⟩
   rw[h.uniq u];unfold zbz;rw[zN fun c=>zp0 q (sameE_iff.1 c),zN (by simpa[zak]using q)]
  rw[zgx h1,zgx (l:=b.entries.filter (zde base)) fun c=>h1 (by obtain⟨x,d,rfl⟩:=zfj c;exact Qg.2 ⟨x,(Qk.1 d).1,rfl⟩)]
 unfold zb9 zic;simp only[v]
theorem zta {E:List Ev}{f g:List Str}{a b:State}(e:Hist E)(ha:IsS E f a)(hb:IsS E g b){base:List Mark}(c:∀p,ofM base p<=ofM a.all p):zhe a (za0 base []) (zic b base)=(zb9 a b,0):=by
 unfold zhe;rw[zP,zu8 e ha hb c];refine(zqp (zcp _ _)).2 fun m d _=>?_
 have h1:=(zcp base []).1.of d ((zcp base []).2 m d).1;rw[zfs,zff]at h1;have:=c m.1;omega
abbrev keyN:Str:=[35,110]
abbrev keyA:Str:=[64,115]
abbrev keyC:Str:=[61,99]
theorem zrr:zas keyN=1:=by kernel_rfl
theorem zl5:zas keyA=2:=by kernel_rfl
theorem zl6:zas keyC=3:=by kernel_rfl
structure OpOk (k:Str) (o:Nat) (n:Int) (tx:Str):Prop where
 kind:(k=keyN/\o=1) ∨ (k=keyA/\(o=2 ∨ o=3)) ∨ (k=keyC/\o=4)
 lo:-32768<=n
 hi:n<=32767
 text:tx = [97] ∨ tx = [98]
theorem OpOk.short {k:Str}{o:Nat}{n:Int}{tx:Str}(h:OpOk k o n tx):tx.length<=16:=by rcases h.text with rfl|rfl<;>decide
structure HistOk (E:List Ev):Prop extends Hist E where
 ok:∀e∈E,OpOk e.key e.op e.n e.tx
 most:E.length<=200
structure VecOk (ps:List Str) (s:State):Prop where
 paths:∀p,ofM s.all p≠0->p∈ps
 few:ps.length<=16
 most:∀p,ofM s.all p<=1000000
theorem zd3 {l:List Mark}(a:GoodM l){ps:List Str}(b:∀p,ofM l p≠0->p∈ps):l.length<=ps.length:=by
 have:=zdx _ ps (zs9 a) fun s c=>b s ((zz7 a).1 c)
 simpa using this
theorem zog (E:List Ev):∀i,zc6 E i<=E.length:=by
 have d:∀E:List Ev,∀x∈zdj E,x<=E.length:=by
  intro E
  induction E using zhq with
  | h0=>intro x a;cases a
  | h1 E e ih =>
   intro x a;rw[zge]at a;rw[Qu,Qr,Qy];rcases Qm.1 a with a|a
   ·have:=ih x a;omega
   simp only[Qi]at a
   have top:∀(st:List Nat) (kn:List Bool) (m:Nat),(∀x∈st,x<=m)->topZ st kn<=m:=by
    intro st
    induction st with
    | nil=>intro kn m _;simp[topZ]
    | cons s st f =>
     intro kn m c
     cases kn
     case nil=>simp[topZ]
     rename_i b kn
     have h1:=c s (by simp);have g:=f kn m fun x a=>c x (by simp[a])
     simp only[topZ]
     split<;>omega
   have:=top (zdj E) e.kn E.length ih;rw[a]
   split<;>omega
 intro i;unfold zc6
 cases a:(zdj E)[i]? with
 | none=>exact Qx _
 | some x=>exact d E x (Qa a)
theorem IsE.counts_nil {E:List Ev}{V:Vec}{k:Str}{x:Entry}(d:IsE E V k x)(f:∀e∈E,e.key=k->e.op≠1):x.counts = []:=by
 refine d.cntG.ext ⟨.nil,by simp⟩ fun s=>?_
 have z:∀E:List Ev,sumE E (fun _=>0)=0:=fun E=>by unfold sumE;induction E<;>simp_all
 rw[d.plus,d.minus,show sumE E (upK V k s)=0 from(zeu fun e c=>zN fun⟨_,a,b,_⟩=>f e c a b).trans (z E),show sumE E (zb1 V k s)=0 from(zeu fun e c=>zN fun⟨_,a,b,_⟩=>f e c a b).trans (z E)];exact⟨rfl,rfl⟩
theorem IsE.items_nil {E:List Ev}{V:Vec}{k:Str}{x:Entry}(b:IsE E V k x)(c:∀e∈E,e.key=k->e.op≠2):x.items = []:=by
 refine b.itG.ext zjw fun q=>⟨fun a=>?_,fun a=>by simp[zab]at a⟩
 obtain⟨i,e,h1,-,d,f,-⟩:=(b.items q).1 a;exact absurd f (c e (Qa h1) d)
theorem IsE.cell_zero {E:List Ev}{V:Vec}{k:Str}{x:Entry}(b:IsE E V k x)(a:∀e∈E,e.key=k->e.op≠4):x.cell=zgd:=by
 rcases b.cell.2 with h1|⟨i,e,h1,-,h3,h4,-⟩
 ·exact h1
 exact absurd h4 (a e (Qa h1) h3)
theorem zrs {E:List Ev}{f:Ev->Nat}(a:sumE E f≠0):∃e∈E,f e≠0:=by
 induction E with
 | nil=>exact absurd rfl a
 | cons e r c =>
  by_cases b:f e=0
  ·unfold sumE at a c;simp only[Ql,Yd,b,Ys]at a;obtain⟨x,g,d⟩:=c a;exact⟨x,by simp[g],d⟩
  exact⟨e,by simp,b⟩
theorem IsE.count_seen {E:List Ev}{V:Vec}(h:Hist E){k:Str}{x:Entry}(f:IsE E V k x){c:zag}(a:c∈x.counts):c.1≠[]/\ofM x.seen c.1≠0:=by
 have h1:=(f.cntG.mem_iff.1 a).1
 have key:∀e∈E,zao V e=true->e.key=k->e.path=c.1->c.1≠[]/\ofM x.seen c.1≠0:=by intro e b m q j;have:=(f.seen c.1).1 e b ⟨m,q,j⟩;have:=h.num e b;exact⟨j▸h.path e b,by omega⟩
 by_cases g:zbr x.counts c.1=0
 ·have i:zbf x.counts c.1≠0:=fun l=>h1 ⟨g,l⟩
  rw[f.minus]at i;obtain⟨e,b,d⟩:=zrs i;unfold zb1 at d
  by_cases a:zao V e=true/\e.key=k/\e.op=1/\e.path=c.1
  ·exact key e b a.1 a.2.1 a.2.2.2
  rw[zN a]at d;exact absurd rfl d
 rw[f.plus]at g;obtain⟨e,b,d⟩:=zrs g;unfold upK at d
 by_cases a:zao V e=true/\e.key=k/\e.op=1/\e.path=c.1
 ·exact key e b a.1 a.2.1 a.2.2.2
 rw[zN a]at d;exact absurd rfl d
theorem zhr {E:List Ev}{b:List Str}{s:State}(c:IsS E b s){x:Entry}{k:Str}(a:IsE E (vecS s) k x)(p:Str):ofM x.seen p<=ofM s.all p:=by
 rcases(a.seen p).2 with h|⟨e,-,⟨h1,-,h3⟩,h4⟩
 ·omega
 rw[<- h4,<- h3];unfold zao at h1
 simpa using h1
theorem IsE.may {E:List Ev}(q:HistOk E){N ps:List Str}{s:State}(L:IsS E N s)(y:VecOk ps s){x:Entry}{k:Str}(b:IsE E (vecS s) k x)(u:∃e∈E,zao (vecS s) e=true/\e.key=k):mayE x=true:=by
 have A:=zhr L b;obtain⟨e,u,J,hk⟩:=u
 have M:mayM x.seen=true:=by
  refine mayM_iff.2 ⟨?_,b.seenG,fun m B=>?_⟩
  ·have:=zd3 b.seenG (ps:=ps) fun p P=>y.paths p (by have:=A p;omega)
   have:=y.few;omega
  have h1:=b.seenG.1.of B (b.seenG.2 m B).1;have:=A m.1;have:=y.most m.1;omega
 have K:x.seen.length≠0:=fun a=>by have h1:=(b.seen e.path).1 e u ⟨J,hk,rfl⟩;rw[List.length_eq_zero_iff.1 a,zff]at h1;have:=q.num e u;omega
 have z:=(q.ok e u).kind;rw[hk]at z;have r:∀f∈E,f.key=k->(k=keyN/\f.op=1) ∨ (k=keyA/\(f.op=2 ∨ f.op=3)) ∨ (k=keyC/\f.op=4):=fun f g h=>by have:=(q.ok f g).kind;rwa[h]at this
 have j:keyN≠keyA/\keyN≠keyC/\keyA≠keyC:=by decide
 unfold mayE;rw[M,b.key,Vg,decide_eq_false K,Jg,Vg];rcases z with⟨rfl,l⟩|⟨rfl,l⟩|⟨rfl,l⟩
 ·rw[zP zrr];have h1:=b.items_nil fun f g h l=>by rcases r f g h with a|⟨a,_⟩|⟨a,_⟩;omega;exact j.1 a;exact j.2.1 a
  have t:=b.cell_zero fun f g h l=>by rcases r f g h with a|⟨a,_⟩|⟨a,_⟩;omega;exact j.1 a;exact j.2.1 a
  simp only[may1,h1,t,mayL_iff.2 b.cntG,Vg,Qy,decide_true,Vh,zfv];refine Vo.2 fun c G=>?_
  have:=(b.count_seen q.toHist G).2;simp[this]
 ·rw[zN (by rw[zl5];decide),zP zl5];have h1:=b.counts_nil fun f g h l=>by rcases r f g h with⟨a,_⟩|⟨_,a⟩|⟨a,_⟩;exact j.1 a.symm;omega;exact j.2.2 a
  have t:=b.cell_zero fun f g h l=>by rcases r f g h with⟨a,_⟩|⟨_,a⟩|⟨a,_⟩;exact j.1 a.symm;omega;exact j.2.2 a
  simp only[may2,h1,t,mayB_iff.2 b.itG,Vg,Qy,decide_true,Vh,zgt];refine Vo.2 fun it I=>Vo.2 fun d H=>?_
  obtain⟨i,f,v,C,D,F,w,-⟩:=(b.items _).1 (ze4 I H);injection w with w k6
  subst k6;exact(b.hasM q.toHist v D).2 C
 rw[zN (by rw[zl6];decide),zN (by rw[zl6];decide),zP zl6];have h1:=b.counts_nil fun f g h l=>by rcases r f g h with⟨a,_⟩|⟨a,_⟩|⟨_,a⟩;exact j.2.1 a.symm;exact j.2.2 a.symm;omega
 have t:=b.items_nil fun f g h l=>by rcases r f g h with⟨a,_⟩|⟨a,_⟩|⟨_,a⟩;exact j.2.1 a.symm;exact j.2.2 a.symm;omega
 simp only[may3,h1,t,Qy,decide_true,Vh];rcases b.cell.2 with a|⟨i,f,v,C,D,F,w⟩
 ·rw[a];rfl
 have c1:=Go.Proofs.YtaabaflgeljbjaaGreat.cell_zero v F;have c2:=zog E i;have O:=q.most;have c4:=(q.ok f (Qa v)).short;rw[w];unfold mayC;simp only[Bool.false_and,Jg,Vh,Ya,decide_eq_true_eq];rw[zN (by omega)];simp only[Ya,decide_eq_true_eq];omega
theorem IsS.may {E:List Ev}(g:HistOk E){c ps:List Str}{s:State}(a:IsS E c s)(b:VecOk ps s)(h:∀p∈c,p≠[]/\ofM s.all p=0)(i:RiseS c):mayS s=true:=by
 refine mayS_iff.2 ⟨mayM_iff.2 ⟨?_,a.all,fun m e=>?_⟩,fun x f=>?_,a.rise,?_,?_⟩
 ·have:=zd3 a.all b.paths;have:=b.few;omega
 ·have h1:=a.all.1.of e (a.all.2 m e).1;have:=b.most m.1;omega
 ·have d:=(a.each x f).1;exact⟨d.may g a b ((a.has x.key).1 (Qg.2 ⟨x,f,rfl⟩)),coversM_iff.2 fun p=>zhr a d p⟩
 ·rw[a.pruned];exact h
 rw[a.pruned];exact i
def zgf (l:List zag):Int:=((zax l).map fun p=>(p.2:Int)-((getL (0:Nat) (zaz l) p.1:Nat):Int)).sum
theorem zrt (L Lm:List (Str×Nat)):∀t:Nat,((L.foldl (ziw Lm) t:Nat):Int) % 18446744073709551616=((t:Int)+(L.map fun p=>(p.2:Int)-((getL (0:Nat) Lm p.1:Nat):Int)).sum) % 18446744073709551616:=by
 induction L with
 | nil=>intro t;simp
 | cons p r a=>intro t;rw[List.foldl_cons,a,Ql,Yd];unfold ziw addU subU;omega
theorem zru {x y:Int}(a:x % 18446744073709551616=y % 18446744073709551616)(h1:-9223372036854775808<=y)(b:y<=9223372036854775807):wrap64 x=y:=by
 unfold wrap64;omega
theorem ztb {l:List zag}(h1:-9223372036854775808<=zgf l)(a:zgf l<=9223372036854775807):zb7 l=zgf l:=by
 unfold zb7;refine zru ?_ h1 a;have:=zrt (zax l) (zaz l) 0;unfold sumL;rw[this];unfold zgf;simp
def netK (V:Vec)(k:Str)(e:Ev):Int:=if zao V e=true/\e.key=k/\e.op=1 then e.n else 0
theorem zlf {L:List (Str×Nat)}(c:(L.map Prod.fst).Nodup){p:Str×Nat}(d:p∈L):getL 0 L p.1=p.2:=by
 induction L with
 | nil=>cases d
 | cons q r f =>
  obtain⟨a,b⟩:=q;rw[zxl];simp only[Ql,Vq]at c;rcases Qh.1 d with he|hp'
  ·rw[he];simp
  rw[zN fun e:p.1=a=>c.1 (e▸Qg.2 ⟨p,hp',rfl⟩)];exact f c.2 hp'
theorem ztc {α:Type}(l:List α)(f g:α->Int):(l.map fun x=>f x+g x).sum=(l.map f).sum+(l.map g).sum:=by
 induction l with
 | nil=>simp
 | cons x r a=>simp only[Ql,Yd,a];omega
theorem zz9 {b:List Str}(f:b.Nodup)(p:Str)(x:Int):(b.map fun s=>if s=p then x else 0).sum=if p∈b then x else 0:=by
 induction b with
 | nil=>simp
 | cons s r g =>
  obtain⟨h1,d⟩:=Vq.1 f;rw[Ql,Yd,g d]
  by_cases c:s=p
  ·subst c;rw[zP rfl,zN h1,zP (by simp)];omega
  rw[zN c]
  by_cases a:p∈r
  ·rw[zP a,zP (by simp[a])];omega
  rw[zN a,zN fun e=>(Qh.1 e).elim (fun e=>c e.symm) a];omega
theorem zp1 (n:Int):(upOf n:Int)-(zcb n:Int)=n:=by
 unfold upOf zcb
 by_cases h:n>0
 ·simp only[zP h];omega
 simp only[zN h];omega
theorem IsE.diff {E:List Ev}{V:Vec}{k:Str}{x:Entry}(j:IsE E V k x):zgf x.counts=(E.map (netK V k)).sum:=by
 have q:=zcd x.counts
 have h1:zgf x.counts=(((zax x.counts).map Prod.fst).map fun s=>((zbr x.counts s:Nat):Int)-(zbf x.counts s:Nat)).sum:=by
  unfold zgf;rw[List.map_map]
  congr 1
  refine Yc fun p d=>?_
  simp only[Function.comp];rw[show zbr x.counts p.1=p.2 from zlf q d]
  rfl
 rw[h1]
 have B:∀s,((zbr x.counts s:Nat):Int)-(zbf x.counts s:Nat)=(E.map fun e=>if s=e.path then netK V k e else 0).sum:=by
  intro s;rw[j.plus,j.minus]
  have:∀E:List Ev,((sumE E (upK V k s):Nat):Int)-(sumE E (zb1 V k s):Nat)=(E.map fun e=>if s=e.path then netK V k e else 0).sum:=by
   intro E;unfold sumE
   induction E with
   | nil=>simp
   | cons e r i =>
    simp only[Ql,Yd];rw[<- i]
    have:((upK V k s e:Nat):Int)-(zb1 V k s e:Nat)=if s=e.path then netK V k e else 0:=by
     unfold upK zb1 netK
     by_cases d:s=e.path
     ·subst d
      by_cases a:zao V e=true/\e.key=k/\e.op=1
      ·rw[zP ⟨a.1,a.2.1,a.2.2,rfl⟩,zP ⟨a.1,a.2.1,a.2.2,rfl⟩,zP rfl,zP a];exact zp1 e.n
      rw[zN fun b=>a ⟨b.1,b.2.1,b.2.2.1⟩,zN fun b=>a ⟨b.1,b.2.1,b.2.2.1⟩,zP rfl,zN a]
      rfl
     rw[zN fun b=>d b.2.2.2.symm,zN fun b=>d b.2.2.2.symm,zN d]
     rfl
    rw[<- this];omega
  exact this E
 rw[Yc (fun s _=>B s)]
 have swap:∀h:List Ev,(∀e∈h,e∈E)->((((zax x.counts).map Prod.fst).map fun s=>(h.map fun e=>if s=e.path then netK V k e else 0).sum).sum=(h.map (netK V k)).sum):=by
  intro h
  induction h with
  | nil =>
   intro _;have:∀l:List Str,(l.map fun _=>(0:Int)).sum=0:=fun l=>by induction l<;>simp_all
   simp only[Yv,List.sum_nil];exact this _
  | cons e r i =>
   intro m;simp only[Ql,Yd];rw[ztc,i fun y C=>m y (by simp[C]),zz9 q]
   by_cases d:e.path∈(zax x.counts).map Prod.fst
   ·rw[zP d]
   rw[zN d];have t:∀c∈x.counts,c.1≠e.path:=fun c a g=>d (plusOf_key.2 ⟨c,a,g⟩)
   have v:=zf4 t;have w:=zfi t;rw[j.plus]at v;rw[j.minus]at w
   have u:∀(f:Ev->Nat) (E:List Ev),e∈E->f e<=sumE E f:=by
    intro f E g;unfold sumE
    induction E with
    | nil=>cases g
    | cons y r i =>
     simp only[Ql,Yd];rcases Qh.1 g with rfl|g
     ·omega
     have:=i g;omega
   have D:=u (upK V k e.path) E (m e (by simp));have F:=u (zb1 V k e.path) E (m e (by simp))
   have:netK V k e=0:=by
    unfold netK
    by_cases a:zao V e=true/\e.key=k/\e.op=1
    ·rw[zP a];have z:upK V k e.path e=upOf e.n:=zP ⟨a.1,a.2.1,a.2.2,rfl⟩;have A:zb1 V k e.path e=zcb e.n:=zP ⟨a.1,a.2.1,a.2.2,rfl⟩;rw[z,v]at D;rw[A,w]at F;have:=zp1 e.n;omega
    rw[zN a]
   omega
 exact swap E fun e g=>g
theorem zp2 {E:List Ev}(a:HistOk E)(V:Vec)(k:Str):-6553600<=(E.map (netK V k)).sum/\(E.map (netK V k)).sum<=6553600:=by
 have d:∀E:List Ev,(∀e∈E,-32768<=e.n/\e.n<=32767)->-32768 * (E.length:Int)<=(E.map (netK V k)).sum/\(E.map (netK V k)).sum<=32768 * (E.length:Int):=by
  intro E
  induction E with
  | nil=>intro _;simp
  | cons e r g =>
   intro c;have i:=g fun x f=>c x (by simp[f])
   have b:=c e (by simp);have:-32768<=netK V k e/\netK V k e<=32768:=by unfold netK;split<;>omega
   simp only[Ql,Yd,Qr];omega
 have:=d E fun e b=>⟨(a.ok e b).lo,(a.ok e b).hi⟩
 have:=a.most;omega
theorem IsE.value {E:List Ev}(a:HistOk E){V:Vec}{k:Str}{x:Entry}(c:IsE E V k x):zb7 x.counts=(E.map (netK V k)).sum:=by
 have h1:=zp2 a V k;have b:=c.diff;rw[ztb (by omega) (by omega),b]
theorem zis {E:List Ev}(b:HistOk E){f:Ev->Nat}(d:∀e∈E,f e<=32768):sumE E f<=6553600:=by
 have c:∀E:List Ev,(∀e∈E,f e<=32768)->sumE E f<=32768 * E.length:=by
  intro E
  induction E with
  | nil=>intro _;simp[sumE]
  | cons e r h =>
   intro a;have i:=h fun x g=>a x (by simp[g])
   have j:=a e (by simp);unfold sumE at i ⊢;simp only[Ql,Yd,Qr];omega
 have:=c E d;have:=b.most;omega
theorem zke {n:Int}(h1:-32768<=n)(a:n<=32767):upOf n<=32768/\zcb n<=32768:=by unfold upOf zcb;constructor<;>split<;>omega
def zcy (V:Vec)(p:Str):Vec:=fun q=>if q=p then V p+1 else V q
theorem zbo {E:List Ev}{V:Vec}{p:Str}(b:∀e∈E,e.path=p->zao V e=true){e:Ev}(c:e∈E):zao (zcy V p) e=zao V e:=by
 unfold zao zcy
 by_cases a:e.path=p
 ·have:=b e c a;unfold zao at this;simp only[decide_eq_true_eq]at this;subst a;rw[zP rfl,decide_eq_true this,decide_eq_true (by omega)]
 rw[zN a]
def newE (E:List Ev)(V:Vec)(k:Str)(n:Int)(o:Nat)(tx p:Str):Ev:=⟨k,n,o,tx,E.map (zao V),p,V p+1⟩
theorem zo3 {E:List Ev}{V:Vec}{k:Str}{n:Int}{o:Nat}{tx p:Str}{i:Nat}{e:Ev}(h:E[i]? = some e):(newE E V k n o tx p).kn[i]? = some (zao V e):=by
 unfold newE;simp only;rw[Qs,h];rfl
theorem znk {E:List Ev}{V:Vec}{k:Str}{n:Int}{o:Nat}{tx p:Str}{i:Nat}(a:(newE E V k n o tx p).kn[i]? = some true):∃e,E[i]? = some e/\zao V e=true:=by
 unfold newE at a;simp only at a;rw[Qs]at a
 cases b:E[i]? with
 | none=>rw[b]at a;cases a
 | some e=>rw[b]at a;exact⟨e,rfl,by simpa using a⟩
theorem zcu {E:List Ev}{e x:Ev}{i:Nat}(a:(E++[e])[i]? = some x):(E[i]? = some x/\i<E.length) ∨ (i=E.length/\x=e):=by
 rcases Vl i E.length with hi|hi
 ·rw[Qo hi]at a;exact .inl ⟨a,hi⟩
 rw[Qw hi]at a;have b:=(Qb.1 a).1;simp only[Qr,Qy]at b;have c:=Qa a;exact .inr ⟨by omega,by simpa using c⟩
theorem zoh {E:List Ev}{e x:Ev}{i:Nat}(h:E[i]? = some x):(E++[e])[i]? = some x:=by rw[Qo (Qb.1 h).1];exact h
theorem zx4 (E:List Ev)(e:Ev):(E++[e])[E.length]? = some e:=by simp
theorem yaa:HistOk [] where
 path:=by intro e d;cases d
 num:=by intro e d;cases d
 rise:=by intro i j a b c;simp at c
 len:=by intro i e c;simp at c
 own:=by intro i j a b c;simp at c
 trans:=by intro i j a b c;simp at c
 text:=by intro e d;cases d
 ok:=by intro e d;cases d
 most:=by simp
theorem HistOk.next {E:List Ev}(d:HistOk E){V:Vec}(s:Closed E V){k:Str}{n:Int}{o:Nat}{tx p:Str}(q:OpOk k o n tx)(u:p≠[])(m:∀e∈E,e.path=p->zao V e=true)(v:E.length<200):HistOk (E++[newE E V k n o tx p]) where
 path e c:=by rcases Qm.1 c with h|h;exact d.path e h;simp only[Qi]at h;subst h;exact u
 num e c:=by rcases Qm.1 c with h|h;exact d.num e h;simp only[Qi]at h;subst h;exact Nat.succ_pos _
 rise i j a b ha hb hab hij:=by
  rcases zcu ha with⟨ha,hi⟩|⟨hi,rfl⟩
  ·rcases zcu hb with⟨hb,f⟩|⟨f,rfl⟩
   ·exact d.rise i j a b ha hb hab hij
   have:=m a (Qa ha) hab;unfold zao at this;simp only[decide_eq_true_eq]at this;rw[hab]at this;exact Nat.lt_succ_of_le this
  rcases zcu hb with⟨hb,f⟩|⟨f,rfl⟩<;>omega
 len i e c:=by
  rcases zcu c with⟨c,-⟩|⟨hi,rfl⟩
  ·exact d.len i e c
  rw[hi];simp[newE]
 own i j a b ha hb hab hij:=by
  rcases zcu ha with⟨ha,hi⟩|⟨hi,rfl⟩
  ·rcases zcu hb with⟨hb,f⟩|⟨f,rfl⟩
   ·exact d.own i j a b ha hb hab hij
   rw[zo3 ha,m a (Qa ha) hab]
  rcases zcu hb with⟨hb,f⟩|⟨f,rfl⟩<;>omega
 trans i j a b ha hb hk h hh:=by
  rcases zcu hb with⟨hb,f⟩|⟨f,rfl⟩
  ·rcases zcu ha with⟨ha,hi⟩|⟨hi,rfl⟩
   ·exact d.trans i j a b ha hb hk h hh
   have h1:=d.len j b hb;have:=(Qb.1 hk).1;omega
  obtain⟨l,g,t⟩:=znk hk;have:l=a:=by rw[zoh g]at ha;exact Yk ha
  subst this;have w:=d.len i l g;have x:=(Qb.1 hh).1;have hi:=(Qb.1 g).1;obtain⟨z,r⟩:∃z,E[h]? = some z:=⟨E[h]'(by omega),Qp _⟩
  rw[zo3 r,s h i z l r g t hh]
 text e c:=by rcases Qm.1 c with h|h;exact d.text e h;simp only[Qi]at h;subst h;have:=q.short;exact Qc this (by decide)
 ok e c:=by rcases Qm.1 c with h|h;exact d.ok e h;simp only[Qi]at h;subst h;exact q
 most:=by simp;omega
section
variable {E:List Ev} {V:Vec} {k:Str} {n:Int} {o:Nat} {tx p:Str}
theorem zd4:zao (zcy V p) (newE E V k n o tx p)=true:=by unfold zao zcy newE;simp
theorem zx5 {x:Entry}(j:Hist E)(i:IsE E V k x)(h:p≠[])(c:∀e∈E,e.path=p->zao V e=true)(q:Str):TopIs (E++[newE E V k n o tx p]) (fun e=>zao (zcy V p) e=true/\e.key=k/\e.path=q) (ofM (setM x.seen p (V p+1)) q):=by
 obtain⟨h1,f⟩:=i.seen q;rw[zho]
 by_cases d:q=p
 ·subst d;rw[zP rfl,zN h];refine⟨fun e b hk=>?_,.inr ⟨newE E V k n o tx q,Vt _ (Qi.2 rfl),⟨zd4,rfl,rfl⟩,rfl⟩⟩;rcases Qm.1 b with a|a
  ·have:=c e a hk.2.2;unfold zao at this;simp only[decide_eq_true_eq]at this;rw[hk.2.2]at this;omega
  simp only[Qi]at a;subst a;exact Qj _
 rw[zN d];refine⟨fun e b hk=>?_,f.imp id fun⟨e,b,hk,g⟩=>⟨e,Yi _ b,⟨by rw[zbo c b];exact hk.1,hk.2⟩,g⟩⟩;rcases Qm.1 b with a|a
 ·exact h1 e a ⟨by rw[<- zbo c a];exact hk.1,hk.2⟩
 simp only[Qi]at a;subst a;exact absurd hk.2.2 fun a=>d a.symm
theorem zx6 (a:∀e∈E,e.path=p->zao V e=true)(q:Str):sumE (E++[newE E V k n o tx p]) (upK (zcy V p) k q)=sumE E (upK V k q)+(if o=1/\p=q then upOf n else 0):=by
 rw[zjz]
 congr 1
 ·exact zeu fun e b=>by unfold upK;rw[zbo a b]
 unfold upK;rw[zd4];simp only[newE,true_and]
theorem zu9 (a:∀e∈E,e.path=p->zao V e=true)(q:Str):sumE (E++[newE E V k n o tx p]) (zb1 (zcy V p) k q)=sumE E (zb1 V k q)+(if o=1/\p=q then zcb n else 0):=by
 rw[zjz]
 congr 1
 ·exact zeu fun e b=>by unfold zb1;rw[zbo a b]
 unfold zb1;rw[zd4];simp only[newE,true_and]
theorem zva (t:Hist E)(d:∀e∈E,e.path=p->zao V e=true)(q:zan):Alive (E++[newE E V k n o tx p]) (zcy V p) k q↔(o=2/\q=(tx,p,V p+1)) ∨ (Alive E V k q/\q.1≠tx):=by
 constructor
 ·rintro⟨i,e,h1,h2,h3,h4,rfl,b⟩;rcases zcu h1 with⟨h1,hi⟩|⟨hi,rfl⟩
  ·have g:=Qa h1;rw[zbo d g]at h2;refine .inr ⟨⟨i,e,h1,h2,h3,h4,rfl,fun x a c=>b x (Yi _ a) (by rw[zbo d a];exact c)⟩,fun l=>?_⟩;refine b (newE E V k n o tx p) (by simp) zd4 rfl l.symm ?_;rw[zo3 h1,h2]
  exact .inl ⟨h4,rfl⟩
 rintro(⟨rfl,rfl⟩|⟨⟨i,e,h1,h2,h3,h4,rfl,b⟩,l⟩)
 ·refine⟨E.length,_,zx4 _ _,zd4,rfl,rfl,rfl,fun x a c s m f=>?_⟩;rcases Qm.1 a with h|h
  ·obtain⟨j,r⟩:=zxw h;have v:=t.len j x r;have u:=(Qb.1 f).1;have b:=(Qb.1 r).1;omega
  simp only[Qi]at h;subst h;obtain⟨e,g,-⟩:=znk f;simp at g
 refine⟨i,e,zoh h1,by rw[zbo d (Qa h1)];exact h2,h3,h4,rfl,fun x a c s m f=>?_⟩;rcases Qm.1 a with h|h
 ·rw[zbo d h]at c;exact b x h c s m f
 simp only[Qi]at h;subst h;exact l m.symm
theorem zx7 (f:∀e∈E,e.path=p->zao V e=true)(j:o≠4){c:Cell}(g:IsCell E V k c):IsCell (E++[newE E V k n o tx p]) (zcy V p) k c:=by
 refine⟨fun i e h1 a d b=>?_,g.2.imp id fun⟨i,e,h1,a,d,b,h⟩=>⟨i,e,zoh h1,by rw[zbo f (Qa h1)];exact a,d,b,by rw[zey (Qb.1 h1).1];exact h⟩⟩;rcases zcu h1 with⟨h1,hi⟩|⟨hi,rfl⟩
 ·rw[zey hi];rw[zbo f (Qa h1)]at a;exact g.1 i e h1 a d b
 exact absurd b j
theorem zo4:∀(st:List Nat) (kn:List Bool) (m:Nat),topZ st kn<=m↔∀(i s:Nat),st[i]? = some s->kn[i]? = some true->s<=m
 | [],kn,m=>by simp[topZ]
 | s::st,[],m=>by simp[topZ]
 | s::st,b::kn,m=>by
  rw[topZ,Nat.max_le,zo4 st kn m]
  constructor
  ·rintro⟨h1,h2⟩ i x a hk
   cases i with
   | zero=>simp at a hk;subst a hk;simpa using h1
   | succ i=>exact h2 i x (by simpa using a) (by simpa using hk)
  intro c;refine⟨?_,fun i x a hk=>c (i+1) x (by simpa using a) (by simpa using hk)⟩
  cases b with
  | false=>simp
  | true=>simpa using c 0 s rfl rfl
theorem zrv {i:Nat}{e:Ev}(h:E[i]? = some e):(zdj E)[i]? = some (zc6 E i):=by
 unfold zc6;have:i<(zdj E).length:=by rw[zfx];exact(Qb.1 h).1
 rw[Qp this]
 rfl
theorem zvb {i:Nat}{e:Ev}(a:E[i]? = some e)(b:e.op≠4):zc6 E i=0:=by
 induction E using zhq with
 | h0=>simp at a
 | h1 E x ih =>
  rcases zcu a with⟨a,hi⟩|⟨hi,rfl⟩
  ·rw[zey hi];exact ih a
  subst hi;rw[zj5,zN b]
theorem yab {c:Cell}(g:IsCell E V k c)(hk:∀e∈E,e.op=4->e.key=k):topZ (zdj E) (E.map (zao V))=c.1:=by
 refine Vc ((zo4 _ _ _).2 fun i s b d=>?_) ?_
 ·have hi:i<E.length:=by have:=(Qb.1 b).1;rwa[zfx]at this
  have a:E[i]? = some E[i]:=Qp hi;rw[zrv a]at b;rw[Qs,a]at d;simp only[Yp,Ym]at b d;subst b
  by_cases f:E[i].op=4
  ·have:=g.1 i _ a d (hk _ (Qa a) f) f;refine Nat.not_lt.1 fun h=>?_
   rw[cmpC_lt.2 (.inl h)]at this;cases this
  rw[zvb a f];exact Qx _
 rcases g.2 with rfl|⟨i,e,h1,h2,h3,h4,rfl⟩
 ·exact Qx _
 refine(zo4 _ _ _).1 (Qj _) i _ (zrv h1) ?_;rw[Qs,h1];simp[h2]
theorem zvc (l:∀e∈E,e.path=p->zao V e=true)(d:o=4)(hk:∀e∈E,e.op=4->e.key=k){c:Cell}(b:IsCell E V k c):IsCell (E++[newE E V k n o tx p]) (zcy V p) k (c.1+1,tx,false):=by
 have f:zc6 (E++[newE E V k n o tx p]) E.length=c.1+1:=by rw[zj5,zP (show(newE E V k n o tx p).op=4 from d)];exact congrArg (·+1) (yab b hk)
 refine⟨fun i e h1 a g j=>?_,.inr ⟨E.length,_,zx4 _ _,zd4,rfl,d,by rw[f];rfl⟩⟩;rcases zcu h1 with⟨h1,hi⟩|⟨hi,rfl⟩
 ·rw[zey hi];rw[zbo l (Qa h1)]at a;have:=b.1 i e h1 a g j;refine zbt fun m=>?_
  rcases cmpC_lt.1 m with h|⟨h,-⟩
  ·simp only at h;rw[cmpC_lt.2 (.inl (show c.1<zc6 E i by omega))]at this;cases this
  simp only at h;rw[cmpC_lt.2 (.inl (show c.1<zc6 E i by omega))]at this;cases this
 rw[hi,f];exact zmz _
theorem others_mem {l:List Item}{s:Str}{q:zan}:q∈zbd l s↔q∈zab l/\q.1≠s:=by
 unfold zbd;rw[Qk,mem_setL];simp
theorem kinds (a:HistOk E){k:Str}:∀f∈E,f.key=k->(k=keyN/\f.op=1) ∨ (k=keyA/\(f.op=2 ∨ f.op=3)) ∨ (k=keyC/\f.op=4):=fun f b c=>by have:=(a.ok f b).kind;rwa[c]at this
theorem zx8 (c:HistOk E){x:Entry}(f:IsE E V k x)(s:Str):(ze2 (zbd x.items s)).length<=200:=by
 have b:=zdx (ze2 (zbd x.items s)) (E.map (·.tx)) (zdm _) fun t a=>by unfold ze2 at a;rw[mem_setL]at a;obtain⟨q,d,rfl⟩:=Qg.1 a;obtain⟨i,e,h1,-,-,-,rfl,-⟩:=(f.items q).1 (others_mem.1 d).1;exact Qg.2 ⟨e,Qa h1,rfl⟩
 rw[Qn]at b;exact Qc b c.most
theorem IsE.upd (c:HistOk E){x:Entry}(b:IsE E V k x)(g:OpOk k o n tx)(L:p≠[])(m:∀e∈E,e.path=p->zao V e=true)(T:V p<1000000)(ac:ofM x.seen p<=V p) :
  (zfb x (o,k,n,tx) (p,V p+1)).2=0/\IsE (E++[newE E V k n o tx p]) (zcy V p) k (zfb x (o,k,n,tx) (p,V p+1)).1:=by
 have r:keyN≠keyA/\keyN≠keyC/\keyA≠keyC:=by decide
 have C:=kinds c (k:=k);have B:=fun(I:o≠4)=>zx7 (k:=k) (n:=n) (tx:=tx) m I b.cell
 have A:=zx5 (n:=n) (o:=o) (tx:=tx) c.toHist b L m;have G:=zx6 (E:=E) (V:=V) (k:=k) (n:=n) (o:=o) (tx:=tx) m;have D:=zu9 (E:=E) (V:=V) (k:=k) (n:=n) (o:=o) (tx:=tx) m;have w:=zva (E:=E) (V:=V) (k:=k) (n:=n) (o:=o) (tx:=tx) c.toHist m
 have M:∀s,zbr x.counts s<=6553600:=fun s=>by rw[b.plus];exact zis c fun e h=>by unfold upK;have:=zke (c.ok e h).lo (c.ok e h).hi;split<;>omega
 have K:∀s,zbf x.counts s<=6553600:=fun s=>by rw[b.minus];exact zis c fun e h=>by unfold zb1;have:=zke (c.ok e h).lo (c.ok e h).hi;split<;>omega
 unfold zfb;simp only;rcases g.kind with⟨rfl,rfl⟩|⟨rfl,F⟩|⟨rfl,rfl⟩
 ·have Q:=b.value c;have hb:=zp2 c V keyN;have ad:=zke g.lo g.hi;have ab:=g.lo;have aa:=g.hi
  have O:zmd x.counts p n=true:=by unfold zmd znt zdy;have h1:=M p;have t:=K p;unfold zbr at h1;unfold zbf at t;rw[Q];simp only[Ya,Jc,Bool.and_eq_false_iff,decide_eq_true_eq,decide_eq_false_iff_not];refine⟨⟨?_,?_⟩,⟨?_,?_⟩,?_,?_⟩<;>omega
  have l:doE (zas keyN) x (1,keyN,n,tx) (p,V p+1)=some ({ x with counts:=addL x.counts p n },0):=by rw[zrr];unfold doE addC;simp only[if_true,O]
  rw[l];simp only[if_true,true_and];refine⟨b.key,zft _ _ _,A,zxk _ _ _,fun q=>?_,fun q=>?_,b.itG,fun q=>?_,B (by decide)⟩
  ·rw[(zrf _ _ _ _).1,G,b.plus,b.plus];have:=M p;rw[b.plus]at this
   by_cases j:q=p
   ·subst j;rw[zP rfl,zP ⟨rfl,rfl⟩];unfold addU;omega
   rw[zN j,zN fun a=>j a.2.symm];rfl
  ·rw[(zrf _ _ _ _).2,D,b.minus,b.minus];have:=K p;rw[b.minus]at this
   by_cases j:q=p
   ·subst j;rw[zP rfl,zP ⟨rfl,rfl⟩];unfold addU;omega
   rw[zN j,zN fun a=>j a.2.symm];rfl
  have h0:=b.items_nil fun f u v g=>by rcases C f u v with a|⟨a,_⟩|⟨a,_⟩;omega;exact r.1 a;exact r.2.1 a
  rw[w,<- b.items,h0];simp[zab]
 ·have U:=b.counts_nil fun f u v g=>by rcases C f u v with⟨a,_⟩|⟨_,a⟩|⟨a,_⟩;exact r.1 a.symm;omega;exact r.2.2 a
  have z:∀q,zbr x.counts q=sumE (E++[newE E V keyA n o tx p]) (upK (zcy V p) keyA q):=fun q=>by rw[G,b.plus,zN fun a=>by rcases F with rfl|rfl<;>exact absurd a.1 (by decide)];rfl
  have y:∀q,zbf x.counts q=sumE (E++[newE E V keyA n o tx p]) (zb1 (zcy V p) keyA q):=fun q=>by rw[D,b.minus,zN fun a=>by rcases F with rfl|rfl<;>exact absurd a.1 (by decide)];rfl
  have P:=g.short;rcases F with rfl|rfl
  ·have Z:=zx8 c b tx
   have N:(p,V p+1)∉zcx x.items:=fun a=>by
    rw[zcn]at a;obtain⟨q,j,h⟩:=Qg.1 a;obtain⟨i,e,h1,t,-,-,rfl,-⟩:=(b.items q).1 j;injection h with e1 e2
    unfold zao at t;simp only[decide_eq_true_eq]at t;rw[e1]at t;omega
   have H:putB x.items tx (p,V p+1)=(za7 (addK (zbd x.items tx) (tx,p,V p+1)),0):=by unfold putB;rw[zN (by omega),zN (by omega)]
   have l:doE (zas keyA) x (2,keyA,n,tx) (p,V p+1)=some ({ x with items:=za7 (addK (zbd x.items tx) (tx,p,V p+1)) },0):=by rw[zl5];unfold doE;simp only[show ¬(2=1) by decide,if_true,if_false,H]
   rw[l];simp only[if_true,true_and];have J:=(zxo (s:=tx) (d:=(p,V p+1)) b.itG ⟨L,by simp only;omega,by simp only;omega⟩ N (by rw[H])).1;rw[H]at J;refine⟨b.key,zft _ _ _,A,b.cntG,z,y,J,fun q=>?_,B (by decide)⟩;rw[itemsL_places,zks,others_mem,w,b.items]
   constructor
   ·rintro(a|a)
    ·exact .inr a
    exact .inl ⟨rfl,a⟩
   rintro(a|a)
   ·exact .inr a.2
   exact .inl a
  have l:doE (zas keyA) x (3,keyA,n,tx) (p,V p+1)=some ({ x with items:=zf2 x.items tx },0):=by
   rw[zl5];unfold doE;simp only[show ¬(2=1) by decide,show ¬(3=2) by decide,if_true,if_false]
  rw[l];simp only[if_true,true_and];refine⟨b.key,zft _ _ _,A,b.cntG,z,y,(zux tx b.itG).1,fun q=>?_,B (by decide)⟩;unfold zf2;rw[itemsL_places,others_mem,w,b.items];simp
 have z:∀q,zbr x.counts q=sumE (E++[newE E V keyC n 4 tx p]) (upK (zcy V p) keyC q):=fun q=>by rw[G,b.plus,zN fun a=>absurd a.1 (by decide)];rfl
 have y:∀q,zbf x.counts q=sumE (E++[newE E V keyC n 4 tx p]) (zb1 (zcy V p) keyC q):=fun q=>by rw[D,b.minus,zN fun a=>absurd a.1 (by decide)];rfl
 have P:=g.short
 have Y:x.cell.1<=200:=by
  rcases b.cell.2 with a|⟨i,e,-,-,-,-,a⟩
  ·rw[a];exact Qx _
  rw[a];exact Qc (zog E i) c.most
 have S:za5 x.cell tx false=((x.cell.1+1,tx,false),0):=by unfold za5;rw[zN (by omega),zN (by omega)];simp
 have l:doE (zas keyC) x (4,keyC,n,tx) (p,V p+1)=some ({ x with cell:=(x.cell.1+1,tx,false) },0):=by rw[zl6];unfold doE;simp only[show ¬(3=1) by decide,show ¬(3=2) by decide,if_true,if_false,S]
 rw[l];simp only[if_true,true_and];refine⟨b.key,zft _ _ _,A,b.cntG,z,y,b.itG,fun q=>?_,zvc m rfl (fun e h I=>?_) b.cell⟩
 ·have h0:=b.items_nil fun f u v g=>by rcases C f u v with⟨a,_⟩|⟨a,_⟩|⟨_,a⟩;exact r.2.1 a.symm;exact r.2.2 a.symm;omega
  rw[w,<- b.items,h0];simp[zab]
 rcases(c.ok e h).kind with⟨-,a⟩|⟨-,a⟩|⟨a,-⟩
 ·omega
 ·omega
 exact a
end
theorem IsS.nil:IsS [] [] za1 where
 all:=zln
 pruned:=rfl
 rise:=.nil
 each:=by intro x d;cases d
 has k:=by simp[za1]
 closed:=by intro i j a b c;simp at c
theorem IsS.other {E:List Ev}{h:List Str}{s:State}{e:Ev}(l:Hist E)(c:IsS E h s)(d:zao (vecS s) e=false):IsS (E++[e]) h s where
 all:=c.all
 pruned:=c.pruned
 rise:=c.rise
 each x hx:=⟨(c.each x hx).1.other fun hk=>(by rw[d]at hk;cases hk),(c.each x hx).2⟩
 has k:=by
  rw[c.has]
  constructor
  ·rintro⟨y,hy,h1⟩;exact⟨y,Yi _ hy,h1⟩
  rintro⟨y,hy,h1,f⟩;rcases Qm.1 hy with hy|hy
  ·exact⟨y,hy,h1,f⟩
  simp only[Qi]at hy;subst hy;rw[d]at h1;cases h1
 closed i j a b ha hb hk hkn:=by
  rcases zcu hb with⟨hb,m⟩|⟨m,rfl⟩
  ·rcases zcu ha with⟨ha,hi⟩|⟨hi,rfl⟩
   ·exact c.closed i j a b ha hb hk hkn
   have g:E[j]? = some b:=(by assumption);have h1:=l.len j b g;have f:=(Qb.1 hkn).1;have q:=(Qb.1 g).1;omega
  rw[d]at hk;cases hk
theorem zp3 (s:State){p:Str}(a:p≠[])(l:List Entry)(b:List Str):vecS ⟨setM s.all p (ofM s.all p+1),l,b⟩=zcy (vecS s) p:=funext fun q=>by
 unfold zcy;simp only[vecS];rw[zho,zN a]
theorem IsS.upd {E:List Ev}(t:HistOk E){r ps:List Str}{s:State}(f:IsS E r s)(U:VecOk ps s)(P:∀p∈r,p≠[]/\ofM s.all p=0)(S:RiseS r){k:Str}{o:Nat}{n:Int}{tx p:Str}(F:OpOk k o n tx)(m:p≠[])(h:∀e∈E,e.path=p->zao (vecS s) e=true)(J:ofM s.all p<1000000) :
  (updS s p (o,k,n,tx)).2=0/\IsS (E++[newE E (vecS s) k n o tx p]) r (updS s p (o,k,n,tx)).1/\vecS (updS s p (o,k,n,tx)).1=zcy (vecS s) p:=by
 have N:=f.may t U P S
 have C:keyS k=true/\k≠[]:=by
  unfold keyS;rcases F.kind with⟨rfl,_⟩|⟨rfl,_⟩|⟨rfl,_⟩
  ·rw[zrr];decide
  ·rw[zl5];decide
  rw[zl6];decide
 have w:IsE E (vecS s) k { getE s.entries k with key:=k }/\(getE s.entries k=zak ∨ (getE s.entries k).key=k):=by
  by_cases h1:k∈s.entries.map (·.key)
  ·obtain⟨x,H,rfl⟩:=zfj h1;rw[zfy f.rise H];exact⟨(f.each x H).1,.inr rfl⟩
  rw[zgx h1];exact⟨IsE.none (znj f h1),.inl rfl⟩
 have G:=zhr f w.1;have u:=w.1.upd t F m h J (G p)
 have T:updE (getE s.entries k) (o,k,n,tx) (p,ofM s.all p+1)=zfb { getE s.entries k with key:=k } (o,k,n,tx) (p,ofM s.all p+1):=by
  unfold updE;rw[zN (by simp[C.1]),zN,zN]
  ·rintro(c|c|c|c)
   ·exact m c
   ·simp at c
   ·simp only at c;omega
   simp only[hasM,Ya,decide_eq_true_eq]at c;have:=G p;simp only at this;omega
  rintro⟨h1,h2⟩;rcases w.2 with c|c
  ·rw[c,show zbl zak zak=true from sameE_iff.2 rfl]at h2;cases h2
  exact h1 c
 have K:(za4 s.entries k).getD zak=getE s.entries k:=rfl
 have Y:s.entries.length<=200:=by
  have c:=zdx (s.entries.map (·.key)) (E.map (·.key)) (by
   have:=f.rise;unfold RiseS at this
   exact this.imp fun c=>zck c) fun q Q=>by obtain⟨e,d,-,rfl⟩:=(f.has q).1 Q;exact Qg.2 ⟨e,d,rfl⟩
  rw[Qn,Qn]at c;exact Qc c t.most
 have d:updS s p (o,k,n,tx)=(⟨setM s.all p (ofM s.all p+1),zcg s.entries k (zfb { getE s.entries k with key:=k } (o,k,n,tx) (p,ofM s.all p+1)).1,s.pruned⟩,0):=by unfold updS;simp only[K,T];rw[zN (by rw[N];simp[m]),zN (by omega),zN (fun c=>by omega),zP u.1]
 rw[d];refine⟨rfl,?_,zp3 s m _ _⟩;have v:=zp3 s m (zcg s.entries k (zfb { getE s.entries k with key:=k } (o,k,n,tx) (p,ofM s.all p+1)).1) s.pruned;have l:=u.2.key;generalize (zfb { getE s.entries k with key:=k } (o,k,n,tx) (p,ofM s.all p+1)).1=z at *
 have O:∀q,q∈(zcg s.entries k z).map (·.key)↔q=k ∨ q∈s.entries.map (·.key):=by
  intro q;rw[Qg,Qg]
  constructor
  ·rintro⟨y,g,rfl⟩;rcases putEnts_mem.1 g with rfl|⟨g,-⟩
   ·exact .inl l
   exact .inr ⟨y,g,rfl⟩
  rintro(rfl|⟨y,g,rfl⟩)
  ·exact⟨z,putEnts_mem.2 (.inl rfl),l⟩
  by_cases c:y.key=k
  ·exact⟨z,putEnts_mem.2 (.inl rfl),l.trans c.symm⟩
  exact⟨y,putEnts_mem.2 (.inr ⟨g,c⟩),rfl⟩
 refine⟨zft _ _ _,f.pruned,zro f.rise l,fun y g=>?_,fun q=>?_,?_⟩
 ·rw[v];rcases putEnts_mem.1 g with rfl|⟨g,hne⟩
  ·rw[l];exact⟨u.2,C.2⟩
  refine⟨?_,(f.each y g).2⟩;refine IsE.other (e:=newE E (vecS s) k n o tx p) ?_ fun _ c=>hne c.symm
  exact(f.each y g).1.congr fun e d _=>(zbo h d).symm
 ·rw[v];simp only;rw[O,f.has]
  constructor
  ·rintro(rfl|⟨e,d,h1,h2⟩)
   ·exact⟨newE E (vecS s) q n o tx p,Vt _ (Qi.2 rfl),zd4,rfl⟩
   exact⟨e,Yi _ d,by rw[zbo h d];exact h1,h2⟩
  rintro⟨e,d,h1,h2⟩;rcases Qm.1 d with d|d
  ·exact .inr ⟨e,d,by rw[<- zbo h d];exact h1,h2⟩
  simp only[Qi]at d;subst d;exact .inl h2.symm
 rw[v];intro i j a b ha hb B D;rcases zcu hb with⟨hb,L⟩|⟨L,rfl⟩
 ·rcases zcu ha with⟨ha,hi⟩|⟨hi,rfl⟩
  ·rw[zbo h (Qa ha)];rw[zbo h (Qa hb)]at B;exact f.closed i j a b ha hb B D
  exact zd4
 obtain⟨I,A,M⟩:=znk D;have:I=a:=by rw[zoh A]at ha;exact Yk ha
 subst this;rw[zbo h (Qa A)];exact M
theorem yki {E:List Ev}{d:List Str}{s:State}(b:IsS E d s)(k:Str):IsE E (vecS s) k (atE s.entries k):=by
 unfold atE
 by_cases h1:k∈s.entries.map (·.key)
 ·obtain⟨x,a,rfl⟩:=zfj h1;rw[zrp b.rise a];exact(b.each x a).1
 have:za4 s.entries k=none:=by
  unfold za4;exact Yx.2 fun x a c=>h1 (Qg.2 ⟨x,a,by simpa using c⟩)
 rw[this];exact IsE.none (znj b h1)
def sumM (V:Vec)(E:List Ev):Int:=(E.map fun e=>if zao V e=true/\e.op=1 then e.n else 0).sum
theorem ykj {E:List Ev}(c:HistOk E)(V:Vec):(E.map (netK V keyN)).sum=sumM V E:=by
 unfold sumM
 congr 1
 refine Yc fun e d=>?_
 have f:keyN≠keyA/\keyN≠keyC:=by decide
 unfold netK
 by_cases a:zao V e=true/\e.op=1
 ·have:e.key=keyN:=by
   rcases(c.ok e d).kind with⟨h1,_⟩|⟨_,h1⟩|⟨_,h1⟩
   ·exact h1
   ·omega
   omega
  rw[zP a,zP ⟨a.1,this,a.2⟩]
 rw[zN a,zN fun b=>a ⟨b.1,b.2.2⟩]
def Gone (E:List Ev)(V:Vec)(i:Nat)(tx:Str):Prop:=∃x∈E,zao V x=true/\x.key=keyA/\x.tx=tx/\x.kn[i]? = some true
def yg2 (E:List Ev)(V:Vec)(t:Str):Prop:=∃(i:Nat) (e:Ev),E[i]? = some e/\zao V e=true/\e.op=2/\e.tx=t/\¬Gone E V i e.tx
theorem zoi {l:List Item}{t:Str}:t∈zdo l↔∃q∈zab l,q.1=t:=by
 unfold zdo
 constructor
 ·intro e;obtain⟨it,a,rfl⟩:=Qg.1 e;have h:=zf8 (zco (ltOf cmpP) (setL (zab l))) (zhz (zdm _));obtain⟨g,-⟩:=h.2 it a
  cases c:it.2 with
  | nil=>exact absurd c g
  | cons d i=>have:=ze4 a (d:=d) (by rw[c];simp);have b:=itemsL_places.1 this;rw[mem_setL]at b;exact⟨_,b,rfl⟩
 rintro⟨q,hq,rfl⟩;have:q∈zab (za7 (setL (zab l))):=by rw[itemsL_places,mem_setL];exact hq
 obtain⟨it,a,f⟩:=Va.1 this;obtain⟨d,-,rfl⟩:=Qg.1 f;exact Qg.2 ⟨it,a,rfl⟩
theorem zm2 (l:List Item):RiseS (zdo l):=by
 unfold zdo RiseS;rw[Qq];exact(zf8 (zco (ltOf cmpP) (setL (zab l))) (zhz (zdm _))).1
theorem yj4 {E:List Ev}(s:HistOk E){V:Vec}{x:Entry}(r:IsE E V keyA x)(t:Str):t∈zdo x.items↔yg2 E V t:=by
 have u:keyN≠keyA/\keyN≠keyC:=by decide
 rw[zoi]
 constructor
 ·rintro⟨q,hq,rfl⟩;obtain⟨i,e,h1,b,m,c,rfl,d⟩:=(r.items q).1 hq;exact⟨i,e,h1,b,c,rfl,fun⟨y,f,g,h,j,l⟩=>d y f g h j l⟩
 rintro⟨i,e,h1,b,c,rfl,d⟩
 have m:e.key=keyA:=by
  rcases(s.ok e (Qa h1)).kind with⟨_,a⟩|⟨a,_⟩|⟨_,a⟩
  ·omega
  ·exact a
  omega
 exact⟨_,(r.items _).2 ⟨i,e,h1,b,m,c,rfl,fun y f g h j l=>d ⟨y,f,g,h,j,l⟩⟩,rfl⟩
def ygt (a b:Bool):List Str:=(if a then[[97]]else[])++(if b then[[98]]else[])
theorem yjl {E:List Ev}(d:HistOk E){V:Vec}{x:Entry}(l:IsE E V keyA x){a b:Bool}(ha:a=true↔yg2 E V [97])(hb:b=true↔yg2 E V [98]):zdo x.items=ygt a b:=by
 refine zrq (zm2 _) ?_ fun t=>?_
 ·unfold ygt RiseS;cases a<;>cases b<;>simp<;>rfl
 rw[yj4 d l];have j:t∈ygt a b↔(a=true/\t = [97]) ∨ (b=true/\t = [98]):=by unfold ygt;cases a<;>cases b<;>simp
 rw[j,ha,hb]
 constructor
 ·intro c;obtain⟨i,e,h1,f,g,rfl,h⟩:=c;rcases(d.ok e (Qa h1)).text with c|c
  ·exact .inl ⟨by rw[<- c];exact⟨i,e,h1,f,g,rfl,h⟩,c⟩
  exact .inr ⟨by rw[<- c];exact⟨i,e,h1,f,g,rfl,h⟩,c⟩
 rintro(⟨c,rfl⟩|⟨c,rfl⟩)
 ·exact c
 exact c
def ygw (E:List Ev)(V:Vec)(m:Nat)(j:Option Nat):Prop :=
 match j with
 | none=>∀(i:Nat) (e:Ev),i<m->E[i]? = some e->zao V e=true->e.op≠4
 | some j=>∃f,E[j]? = some f/\zao V f=true/\f.op=4/\∀(i:Nat) (e:Ev),i<m->E[i]? = some e->zao V e=true->e.op=4->ltOf cmpC (zc6 E j,f.tx,false) (zc6 E i,e.tx,false)=false
def yhr (E:List Ev):Option Nat->Str×Bool
 | none=>([],false)
 | some j=>(((E[j]?).map (·.tx)).getD [],true)
theorem ykk {E:List Ev}(m:HistOk E){V:Vec}{x:Entry}(h:IsE E V keyC x){j:Option Nat}(a:ygw E V E.length j):zio x.cell=yhr E j:=by
 have hk:∀(i:Nat) (e:Ev),E[i]? = some e->e.op=4->e.key=keyC:=fun i e q t=>by
  rcases(m.ok e (Qa q)).kind with⟨_,a⟩|⟨_,a⟩|⟨a,_⟩
  ·omega
  ·omega
  exact a
 cases j
 case none=>
  have g:IsCell E V keyC zgd:=⟨fun i e h1 b _ d=>absurd d (a i e (Qb.1 h1).1 h1 b),.inl rfl⟩
  rw[h.cell.uniq g]
  rfl
 rename_i j
 obtain⟨f,h1,b,c,d⟩:=a;have g:IsCell E V keyC (zc6 E j,f.tx,false):=⟨fun i e l r _ s=>d i e (Qb.1 l).1 l r s,.inr ⟨j,f,h1,b,hk j f h1 c,c,rfl⟩⟩
 rw[h.cell.uniq g];have:=cell_zero h1 c;unfold zio yhr;simp only[h1];simp only[Bool.false_eq_true,or_false,Yp,Vk];rw[zN (by omega)]
structure Rep where
 s:State
 knew:List Bool
 asked:List Mark
def rep0:Rep:=⟨za1,[],[]⟩
def zac (k:Nat):Str:=[49,46,UInt8.ofNat (49+k)]
theorem zp4 {i j:Nat}(hi:i<16)(b:j<16)(a:zac i=zac j):i=j:=by
 unfold zac at a;simp only[Yu,true_and,and_true]at a;have h1:=congrArg UInt8.toNat a;simp only[UInt8.toNat_ofNat',Nat.reducePow]at h1;omega
theorem zfz (k:Nat):zac k≠[]:=by simp[zac]
def zf9 (n:Nat):List Str:=(List.range n).map zac
structure RepOkB (m:Nat) (E:List Ev) (n:Nat) (r:Rep):Prop where
 is:IsS E [] r.s
 paths:∀p,ofM r.s.all p≠0->p∈zf9 n
 most:∀p,ofM r.s.all p<=E.length+m
 knew:r.knew=E.map (zao (vecS r.s))
 asked:∀p,ofM r.asked p<=ofM r.s.all p
 askedG:GoodM r.asked
structure RepsOkB (m:Nat) (E:List Ev) (n:Nat) (rs:List Rep):Prop where
 hist:HistOk E
 len:rs.length=n
 few:n<=4
 each:∀(k:Nat) (r:Rep),rs[k]? = some r->RepOkB m E n r
 own:∀(k:Nat) (r:Rep),rs[k]? = some r->∀e∈E,e.path=zac k->zao (vecS r.s) e=true
 top:∀(k:Nat) (r:Rep) (j:Nat) (q:Rep),rs[k]? = some r->rs[j]? = some q->ofM q.s.all (zac k)<=ofM r.s.all (zac k)
abbrev yku:=RepOkB 0
abbrev RepsOk:=RepsOkB 0
theorem RepOkB.vec {m:Nat}{E:List Ev}{n:Nat}{r:Rep}(a:RepOkB m E n r)(d:n<=4)(b:E.length<=200)(c:m<=1000:=by decide):VecOk (zf9 n) r.s :=
 ⟨a.paths,by simp[zf9];omega,fun p=>by have:=a.most p;omega⟩
theorem RepsOk.zero {m n:Nat}(a:n<=4):RepsOkB m [] n (List.replicate n rep0) where
 hist:=yaa
 len:=by simp
 few:=a
 each k r h:=by have:=Yy (Qa h);subst this;exact⟨IsS.nil,fun p b=>absurd (zff p) b,fun p=>Qc (Ve (zff p)) (Qx _),rfl,fun p=>Qj _,zln⟩
 own k r h e he:=by cases he
 top k r j q h1 h2:=by have:=Yy (Qa h1);subst this;have:=Yy (Qa h2);subst this;exact Qj _
theorem zcv {α:Type}{l:List α}{k i:Nat}{x y:α}(a:(l.set k x)[i]? = some y):(i=k/\y=x/\k<l.length) ∨ (i≠k/\l[i]? = some y):=by
 rw[Vj]at a
 by_cases b:k=i
 ·rw[zP b]at a
  by_cases c:k<l.length
  ·rw[zP (by omega)]at a;exact .inl ⟨b.symm,(Yk a).symm,c⟩
  rw[zN (by omega)]at a;cases a
 rw[zN b]at a;exact .inr ⟨fun e=>b e.symm,a⟩
def askR (rs:List Rep)(k:Nat):List Rep:=match rs[k]? with|some r=>rs.set k { r with asked:=r.s.all }|none=>rs
theorem RepsOkB.ask {m:Nat}{E:List Ev}{n:Nat}{rs:List Rep}(a:RepsOkB m E n rs)(k:Nat):RepsOkB m E n (askR rs k):=by
 unfold askR
 cases hk:rs[k]?
 case none=>exact a
 rename_i r
 have b:=a.each k r hk;refine⟨a.hist,by simp[a.len],a.few,fun i q hi=>?_,fun i q hi=>?_,fun i q j t hi g=>?_⟩
 ·rcases zcv hi with⟨-,rfl,-⟩|⟨-,hi⟩
  ·exact⟨b.is,b.paths,b.most,b.knew,fun p=>Qj _,b.is.all⟩
  exact a.each i q hi
 ·rcases zcv hi with⟨rfl,rfl,-⟩|⟨-,hi⟩
  ·exact a.own i r hk
  exact a.own i q hi
 have old:∀ {i:Nat} {q:Rep},(rs.set k { r with asked:=r.s.all })[i]? = some q->∃c,rs[i]? = some c/\c.s=q.s:=fun {i q} hi=>by
  rcases zcv hi with⟨rfl,rfl,-⟩|⟨-,hi⟩
  ·exact⟨r,hk,rfl⟩
  exact⟨q,hi,rfl⟩
 obtain⟨c,h1,d⟩:=old hi;obtain⟨h,f,e⟩:=old g;rw[<- d,<- e];exact a.top i c j h h1 f
def orL (a b:List Bool):List Bool:=List.zipWith (fun x y=>x||y) a b
def zmi (rs:List Rep)(k o:Nat):List Rep:=match rs[k]?,rs[o]? with|some r,some q=>rs.set k { r with s:=zb9 r.s q.s,knew:=orL r.knew q.knew }|_,_=>rs
theorem zm3:Lib.compact (zbw (([]:List Str)++[])) = []:=by unfold zbw;simp[Lib.compact];rfl
theorem RepsOkB.join {m:Nat}{E:List Ev}{n:Nat}{rs:List Rep}(a:RepsOkB m E n rs)(k o:Nat):RepsOkB m E n (zmi rs k o):=by
 unfold zmi
 cases hk:rs[k]?
 case none=>exact a
 rename_i r
 cases l:rs[o]?
 case none=>exact a
 rename_i q
 have d:=a.each k r hk;have f:=a.each o q l;have u:=zgy r.s q.s;have b:∀p,ofM (zb9 r.s q.s).all p=max (ofM r.s.all p) (ofM q.s.all p):=fun p=>zfs _ _ p
 refine⟨a.hist,by simp[a.len],a.few,fun i x hi=>?_,fun i x hi=>?_,fun i x j t hi c=>?_⟩
 ·rcases zcv hi with⟨-,rfl,-⟩|⟨-,hi⟩
  ·refine⟨d.is.join a.hist.toHist f.is zm3,fun p h=>?_,fun p=>?_,?_,fun p=>?_,d.askedG⟩
   ·simp only[b]at h
    by_cases h1:ofM r.s.all p=0
    ·exact f.paths p (by omega)
    exact d.paths p h1
   ·simp only[b];have:=d.most p;have:=f.most p;omega
   ·simp only;rw[u,d.knew,f.knew];unfold orL;refine List.ext_getElem? fun m=>?_
    simp only[List.getElem?_zipWith,Qs]
    cases E[m]? with
    | none=>rfl
    | some e=>simp[zba]
   simp only[b];have:=d.asked p;omega
  exact a.each i x hi
 ·rcases zcv hi with⟨rfl,rfl,-⟩|⟨-,hi⟩
  ·intro e v h;simp only;rw[u,zba,a.own i r hk e v h,Yw]
  exact a.own i x hi
 rcases zcv hi with⟨rfl,rfl,-⟩|⟨-,g⟩
 ·simp only[b];rcases zcv c with⟨rfl,rfl,-⟩|⟨-,c⟩
  ·simp only[b];exact Qj _
  have:=a.top i r j t hk c;omega
 rcases zcv c with⟨rfl,rfl,-⟩|⟨-,c⟩
 ·simp only[b];have:=a.top i x _ r g hk;have:=a.top i x o q g l;omega
 exact a.top i x j t g c
def updR (E:List Ev)(rs:List Rep)(k:Nat)(key:Str)(o:Nat)(n:Int)(tx:Str):List Ev×List Rep :=
 match rs[k]? with
 | some r=>(E++[newE E (vecS r.s) key n o tx (zac k)],(rs.mapIdx fun i q=>if i=k then { q with s:=(updS r.s (zac k) (o,key,n,tx)).1,knew:=q.knew++[true] } else { q with knew:=q.knew++[false] }))
 | none=>(E,rs)
theorem RepsOkB.upd {b:Nat}{E:List Ev}{n:Nat}{rs:List Rep}(a:RepsOkB b E n rs){k:Nat}(hk:k<n)(K:E.length<200){key tx:Str}{o:Nat}{m:Int}(F:OpOk key o m tx)(hb:b<=1000:=by decide) :
  (∃r,rs[k]? = some r/\(updS r.s (zac k) (o,key,m,tx)).2=0)/\RepsOkB b (updR E rs k key o m tx).1 n (updR E rs k key o m tx).2:=by
 have d:k<rs.length:=by rw[a.len];exact hk
 have d:rs[k]? = some rs[k]:=Qp d;generalize rs[k]=r at d;have l:=a.each k r d;have O:=a.few;have P:=l.most (zac k);obtain⟨M,N,B⟩:=l.is.upd a.hist (l.vec a.few a.hist.most hb) (by intro p h;cases h) .nil F (zfz k) (a.own k r d) (by omega);refine⟨⟨r,d,M⟩,?_⟩
 have H:updR E rs k key o m tx=(E++[newE E (vecS r.s) key m o tx (zac k)],(rs.mapIdx fun i q=>if i=k then { q with s:=(updS r.s (zac k) (o,key,m,tx)).1,knew:=q.knew++[true] } else { q with knew:=q.knew++[false] })):=by unfold updR;rw[d]
 rw[H];have I:=a.hist.next l.is.closed F (zfz k) (a.own k r d) K;generalize (updS r.s (zac k) (o,key,m,tx)).1=y at *;have w:∀p,ofM y.all p=zcy (vecS r.s) (zac k) p:=fun p=>congrFun B p
 have D:∀j q,j≠k->rs[j]? = some q->zao (vecS q.s) (newE E (vecS r.s) key m o tx (zac k))=false:=fun j q C f=>by have:=a.top k r j q d f;unfold zao newE;simp only[decide_eq_false_iff_not,vecS];omega
 have at_:∀ {i:Nat} {x:Rep},(rs.mapIdx fun i q=>if i=k then { q with s:=y,knew:=q.knew++[true] } else { q with knew:=q.knew++[false] })[i]? = some x->(i=k/\x = { r with s:=y,knew:=r.knew++[true] }) ∨ (i≠k/\∃q,rs[i]? = some q/\x = { q with knew:=q.knew++[false] }):=by
  intro i x g;rw[List.getElem?_mapIdx]at g
  by_cases hi:i=k
  ·subst hi;rw[d]at g;simp only[Yp,if_true,Ym]at g;exact .inl ⟨rfl,g.symm⟩
  cases f:rs[i]? with
  | none=>rw[f]at g;cases g
  | some q=>rw[f]at g;simp only[Yp,zN hi,Ym]at g;exact .inr ⟨hi,q,rfl,g.symm⟩
 refine⟨I,by simp[a.len],a.few,fun i x g=>?_,fun i x g=>?_,fun i x j t g G=>?_⟩
 ·rcases at_ g with⟨rfl,rfl⟩|⟨hi,q,f,rfl⟩
  ·refine⟨N,fun p h=>?_,fun p=>?_,?_,fun p=>?_,l.askedG⟩
   ·simp only[w]at h;unfold zcy at h
    by_cases u:p=zac i
    ·subst u;exact Qg.2 ⟨i,List.mem_range.2 hk,rfl⟩
    rw[zN u]at h;exact l.paths p h
   ·simp only[w,Qu,Qr,Qy];unfold zcy;have:=l.most p;have:=l.most (zac i);simp only[vecS]
    split<;>omega
   ·simp only;rw[B,l.knew,Vp,Ql,Yv,zd4]
    congr 1
    exact Yc fun e c=>(zbo (a.own i r d) c).symm
   simp only[w];unfold zcy;have:=l.asked p;simp only[vecS]
   split
   ·rename_i u;subst u;omega
   exact this
  have v:=a.each i q f;refine⟨v.is.other a.hist.toHist (D i q hi f),v.paths,fun p=>?_,?_,v.asked,v.askedG⟩
  ·simp only[Qu,Qr,Qy];have:=v.most p;omega
  simp only;rw[v.knew,Vp,Ql,Yv,D i q hi f]
 ·intro e c h;rcases at_ g with⟨rfl,rfl⟩|⟨hi,q,f,rfl⟩
  ·simp only;rw[B];rcases Qm.1 c with c|c
   ·rw[zbo (a.own i r d) c];exact a.own i r d e c h
   simp only[Qi]at c;subst c;exact zd4
  rcases Qm.1 c with c|c
  ·exact a.own i q f e c h
  simp only[Qi]at c;subst c;have J:i<n:=(by have:=(Qb.1 f).1;rwa[a.len]at this);exact absurd (zp4 (by omega) (by omega) h).symm hi
 have L:∀p,ofM r.s.all p<=ofM y.all p:=fun p=>by
  rw[w];unfold zcy;simp only[vecS];split
  ·rename_i u;subst u;omega
  exact Qj _
 rcases at_ g with⟨rfl,rfl⟩|⟨hi,q,f,rfl⟩
 ·rcases at_ G with⟨rfl,rfl⟩|⟨C,A,z,rfl⟩
  ·exact Qj _
  have:=a.top i r j A d z;have:=L (zac i);simp only;omega
 have J:i<n:=(by have:=(Qb.1 f).1;rwa[a.len]at this);rcases at_ G with⟨rfl,rfl⟩|⟨C,A,z,rfl⟩
 ·have:=a.top i q j r f d;simp only;rw[w];unfold zcy;rw[zN fun e=>hi (zp4 (by omega) (by omega) e)];exact this
 exact a.top i q j A f z
def zdf (b:Bool):List Xg:=[Xc b]
abbrev zvd:Shape Bool:=flat 1 zdf (fun _=>rfl) (fun _ u hu=>by simp[zdf]at hu;rcases hu with rfl;rfl)
def evT:Shape Ev where
 k:=5
 rd w S x vs:=∃v,vs = [St x.key,I x.n,K8 x.op,St x.tx,v]/\Sl zvd w S v x.kn
 len h:=by obtain⟨_,rfl,-⟩:=h;rfl
 one h:=by
  obtain⟨v,rfl,h⟩:=h;intro u hu;simp at hu;rcases hu with rfl|rfl|rfl|rfl|rfl
  ·rfl
  ·rfl
  ·rfl
  ·rfl
  exact h.one
 keep h hs:=by obtain⟨v,rfl,h⟩:=h;exact⟨v,rfl,h.keep (by decide) hs⟩
 mono h hs:=by obtain⟨v,rfl,h⟩:=h;exact⟨v,rfl,h.mono (by decide) hs⟩
structure RepV where
 s1:Xg
 s2:Xg
 s3:Xg
 kn:Xg
 ask:Xg
def RepV.cells (v:RepV):List Xg:=[v.s1,v.s2,v.s3,v.kn,v.ask]
def ygq (X:Nat->Prop)(R:Nat)(vs:List RepV)(va:Xg)(b:Nat):Prop:=b≠R/\(∀v∈vs,¬zad v.kn b)/\¬zad va b/\¬X b
abbrev Free (R:Nat)(vs:List RepV)(va:Xg)(b:Nat):Prop:=ygq (fun _=>False) R vs va b
structure RepAt (W:Xf) (base:Nat) (F:Nat->Prop) (v:RepV) (r:Rep):Prop where
 st:StAt W F r.s v.s1 v.s2 v.s3
 kn:Own W base 4 1 v.kn r.knew.length (r.knew.flatMap zdf)
 ask:Sl markT W F v.ask r.asked
structure MemX (X:Nat->Prop) (W:Xf) (base R:Nat) (vs:List RepV) (rs:List Rep) (va:Xg) (E:List Ev):Prop where
 row:RowIs W R 75 (vs.flatMap RepV.cells) []
 len:vs.length=rs.length
 lo:base<=R
 rep:∀(k:Nat) (v:RepV) (r:Rep),vs[k]? = some v->rs[k]? = some r->RepAt W base (ygq X R vs va) v r
 noR:∀v∈vs,¬zad v.kn R
 apart:∀(i j:Nat) (v u:RepV) (b:Nat),i≠j->vs[i]? = some v->vs[j]? = some u->zad v.kn b->¬zad u.kn b
 noEv:∀v∈vs,∀b,zad v.kn b->¬zad va b
 evR:¬zad va R
 ev:OwnL evT 179 W base (ygq X R vs va) va E
 ltX:∀b,X b->b<W.heap.size
 xA:∀b,X b->b≠R/\(∀v∈vs,¬zad v.kn b)/\¬zad va b
abbrev Mem (W:Xf)(base R:Nat)(vs:List RepV)(rs:List Rep)(va:Xg)(E:List Ev):Prop:=MemX (fun _=>False) W base R vs rs va E
section
variable {X:Nat->Prop} {W W':Xf} {base R:Nat} {vs:List RepV} {rs:List Rep} {va:Xg} {E:List Ev}
theorem RepAt.ext {F:Nat->Prop}{v:RepV}{r:Rep}(a:RepAt W base F v r)(b:Ext W W'):RepAt W' base F v r:=⟨a.st.ext b,a.kn.ext b,a.ask.ext (by decide) b⟩
theorem RepAt.mono {F F':Nat->Prop}{v:RepV}{r:Rep}(a:RepAt W base F v r)(c:∀b,b<W.heap.size->F b->F' b):RepAt W base F' v r:=⟨a.st.mono c,a.kn,a.ask.mono (by decide) c⟩
theorem RepAt.keep {F:Nat->Prop}{v:RepV}{r:Rep}(a:RepAt W base F v r)(c:∀b,F b->b<W.heap.size->W'.heap[b]? = W.heap[b]?)(hk:∀b,zad v.kn b->b<W.heap.size->W'.heap[b]? = W.heap[b]?):RepAt W' base F v r:=⟨a.st.keep c,a.kn.keep hk,a.ask.keep (by decide) c⟩
theorem RepAt.move {F F':Nat->Prop}{v:RepV}{r:Rep}(c:RepAt W base F v r)(a:∀b,F b->b<W.heap.size->W'.heap[b]? = W.heap[b]?/\F' b)(hk:∀b,zad v.kn b->b<W.heap.size->W'.heap[b]? = W.heap[b]?):RepAt W' base F' v r :=
 (((c.mono (F':=fun b=>F b/\b<W.heap.size) fun b hb d=>⟨d,hb⟩).keep (fun b hb e=>(a b hb.1 e).1) hk)).mono fun b _ hb=>(a b hb.1 hb.2).2
theorem OwnL.move {α:Type}{T:Shape α}{c:Nat}{S S':Nat->Prop}{v:Xg}{l:List α}(d:OwnL T c W base S v l)(a:∀b,S b->b<W.heap.size->W'.heap[b]? = W.heap[b]?/\S' b)(g:∀b,zad v b->b<W.heap.size->W'.heap[b]? = W.heap[b]?):OwnL T c W' base S' v l :=
 (((d.mono (S':=fun b=>S b/\b<W.heap.size) fun b hb e=>⟨e,hb⟩).keep (fun b hb f=>(a b hb.1 f).1) g)).mono fun b _ hb=>(a b hb.1 hb.2).2
theorem MemX.ext (a:MemX X W base R vs rs va E)(c:Ext W W'):MemX X W' base R vs rs va E :=
 ⟨a.row.ext c,a.len,a.lo,fun k v r e d=>(a.rep k v r e d).ext c,a.noR,a.apart,a.noEv,a.evR,a.ev.ext c,fun b hb=>Yr (a.ltX b hb) c.size,a.xA⟩
theorem MemX.loX (h:MemX X W base R vs rs va E):base<=R/\∀b,X b->b≠R:=⟨h.lo,fun b hb=>(h.xA b hb).1⟩
theorem MemX.bl (h:MemX X W base R vs rs va E):base<=W.heap.size:=Qc h.lo (Nat.le_of_lt h.row.lt)
theorem MemX.lt_kn (a:MemX X W base R vs rs va E){v:RepV}(e:v∈vs){b:Nat}(hb:zad v.kn b):b<W.heap.size:=by
 obtain⟨k,hk⟩:=Yt.1 e;have c:=(Qb.1 hk).1;obtain⟨r,d⟩:∃r,rs[k]? = some r:=⟨_,Qp (by rw[<- a.len];exact c)⟩
 exact((a.rep k v r hk d).kn.base_le hb).2
theorem MemX.free_new (a:MemX X W base R vs rs va E){b:Nat}(hb:W.heap.size<=b):ygq X R vs va b :=
 ⟨fun e=>by have:=a.row.lt;omega,fun v d c=>by have:=a.lt_kn d c;omega,fun c=>by have:=(a.ev.base_le c).2;omega,fun f=>by have:=a.ltX b f;omega⟩
theorem MemX.get (a:MemX X W base R vs rs va E){k:Nat}{r:Rep}(b:rs[k]? = some r):∃v,vs[k]? = some v/\RepAt W base (ygq X R vs va) v r:=by
 have hk:=(Qb.1 b).1;have c:vs[k]? = some (vs[k]'(by rw[a.len];exact hk)):=Qp _;exact⟨_,c,a.rep k _ r c b⟩
theorem zkf:∀(vs:List RepV) (k j:Nat) (v:RepV) (u:Xg),vs[k]? = some v->v.cells[j]? = some u->(vs.flatMap RepV.cells)[k * 5+j]? = some u
 | [],k,j,v,u,h,_=>by simp at h
 | a::r,0,j,v,u,h,hj=>by simp at h;subst h;have b:=(Qb.1 hj).1;rw[Qt,Nat.zero_mul,Ys,Qo b];exact hj
 | a::r,k+1,j,v,u,h,hj=>by rw[Qt,Qw (by simp[RepV.cells];omega),show(k+1) * 5+j-a.cells.length=k * 5+j by simp[RepV.cells];omega];exact zkf r k j v u (by simpa using h) hj
theorem zhs:∀(vs:List RepV) (k j:Nat) (v v':RepV) (u:Xg),vs[k]? = some v->j<5->v'.cells=v.cells.set j u->(vs.flatMap RepV.cells).set (k * 5+j) u=(vs.set k v').flatMap RepV.cells
 | [],k,j,v,v',u,h,_,_=>by simp at h
 | a::r,0,j,v,v',u,h,hj,he=>by simp at h;subst h;rw[Qt,Nat.zero_mul,Ys,List.set_append_left _ _ (by simpa[RepV.cells]using hj),Yb,Qt,he]
 | a::r,k+1,j,v,v',u,h,hj,he=>by
  rw[Qt,List.set_append_right _ _ (by simp[RepV.cells];omega),show(k+1) * 5+j-a.cells.length=k * 5+j by simp[RepV.cells];omega,zhs r k j v v' u (by simpa using h) hj he]
  rfl
theorem MemX.cell (a:MemX X W base R vs rs va E){k j:Nat}{v:RepV}{u:Xg}(c:vs[k]? = some v)(b:v.cells[j]? = some u):W.cell? ⟨R,k * 5+j,none⟩=some u:=a.row.cell (zkf vs k j v u c b)
theorem MemX.bound (c:MemX X W base R vs rs va E){k j:Nat}{v:RepV}(b:vs[k]? = some v)(a:j<5):k * 5+j<(vs.flatMap RepV.cells).length:=by
 have:=zkf vs k j v (v.cells[j]'(by simpa[RepV.cells]using a)) b (Qp _);exact(Qb.1 this).1
theorem zmj {α:Type}{l:List α}{k:Nat}{x y:α}(h:y∈l.set k x):y=x ∨ y∈l:=by
 rcases List.mem_or_eq_of_mem_set h with h|h
 ·exact .inr h
 exact .inl h
theorem MemX.write (c:MemX X W base R vs rs va E){k:Nat}{v v':RepV}{r':Rep}(A:vs[k]? = some v)(r:v'.kn=v.kn)(l:(rs[k]?).map (·.knew)=some r'.knew)(H:StAt W (ygq X R vs va) r'.s v'.s1 v'.s2 v'.s3)(has:Sl markT W (ygq X R vs va) v'.ask r'.asked)(f:∀b,b≠R->W'.heap[b]? = W.heap[b]?)(J:W.heap.size<=W'.heap.size)(G:RowIs W' R 75 ((vs.set k v').flatMap RepV.cells) []):MemX X W' base R (vs.set k v') (rs.set k r') va E:=by
 have C:v∈vs:=Qa A
 have m:∀y∈vs.set k v',∀b,zad y.kn b->∃d∈vs,zad d.kn b:=fun y a b hb=>by
  rcases zmj a with rfl|a
  ·exact⟨v,C,by rw[<- r];exact hb⟩
  exact⟨y,a,hb⟩
 have at_:∀ {i:Nat} {y:RepV},(vs.set k v')[i]? = some y->∃d,vs[i]? = some d/\d.kn=y.kn:=fun {i y} a=>by
  rcases zcv a with⟨rfl,rfl,-⟩|⟨-,a⟩
  ·exact⟨v,A,r.symm⟩
  exact⟨y,a,rfl⟩
 have hF:∀b,ygq X R vs va b->ygq X R (vs.set k v') va b:=fun b hb=>⟨hb.1,fun y a w=>by obtain⟨d,h0,h1⟩:=m y a b w;exact hb.2.1 d h0 h1,hb.2.2⟩
 have M:∀b,ygq X R vs va b->b<W.heap.size->W'.heap[b]? = W.heap[b]?:=fun b hb _=>f b hb.1
 have B:∀y∈vs,∀b,zad y.kn b->b<W.heap.size->W'.heap[b]? = W.heap[b]?:=fun y a b hb _=>f b fun e=>c.noR y a (e▸hb)
 refine⟨G,by simp[c.len],c.lo,fun i y q a h=>?_,fun y a hb=>?_,fun i j y u b F a I hb=>?_,fun y a b hb=>?_,c.evR,?_,fun b hb=>Yr (c.ltX b hb) J,fun b hb=>⟨(c.xA b hb).1,fun y a w=>by obtain⟨d,h0,h1⟩:=m y a b w;exact(c.xA b hb).2.1 d h0 h1,(c.xA b hb).2.2⟩⟩
 ·rcases zcv a with⟨rfl,rfl,-⟩|⟨t,a⟩
  ·have x:q=r':=by
    rcases zcv h with⟨-,e,-⟩|⟨t,-⟩
    ·exact e
    exact absurd rfl t
   subst x;refine⟨(H.mono fun b _ hb=>hF b hb).keep fun b hb g=>?_,?_,(has.mono (by decide) fun b _ hb=>hF b hb).keep (by decide) fun b hb g=>?_⟩
   ·exact f b hb.1
   ·cases z:rs[i]?
    case none=>rw[z]at l;cases l
    rename_i K
    rw[z]at l;have:=(c.rep i v K A z).kn.keep fun b hb g=>B v C b hb g
    rw[r,<- Yk l];exact this
   exact f b hb.1
  have x:rs[i]? = some q:=by
   rcases zcv h with⟨e,-,-⟩|⟨-,h⟩
   ·exact absurd e t
   exact h
  exact((c.rep i y q a x).mono fun b _ hb=>hF b hb).keep (fun b hb _=>f b hb.1) fun b hb g=>B y (Qa a) b hb g
 ·obtain⟨d,h0,h1⟩:=m y a R hb;exact c.noR d h0 h1
 ·obtain⟨d,h0,e0⟩:=at_ a;obtain⟨L,h1,D⟩:=at_ I;rw[<- e0]at hb;rw[<- D];exact c.apart i j d L b F h0 h1 hb
 ·obtain⟨d,h0,h1⟩:=m y a b hb;exact c.noEv d h0 b h1
 exact(c.ev.mono fun b _ hb=>hF b hb).keep (fun b hb _=>f b hb.1) fun b hb _=>f b fun e=>c.evR (e▸hb)
theorem MemX.guard (a:MemX X W base R vs rs va E){q:Nat}(d:Ext W W')(h1:W.heap.size<=q)(h:q<W'.heap.size):MemX (fun b=>X b ∨ b=q) W' base R vs rs va E:=by
 have hF:∀b,b<W.heap.size->ygq X R vs va b->ygq (fun b=>X b ∨ b=q) R vs va b:=fun b hb c=>⟨c.1,c.2.1,c.2.2.1,fun d=>d.elim c.2.2.2 fun e=>by omega⟩
 exact⟨a.row.ext d,a.len,a.lo,fun k v r g f=>((a.rep k v r g f).mono hF).ext d,a.noR,a.apart,a.noEv,a.evR,(a.ev.mono hF).ext d,fun b hb=>hb.elim (fun hb=>Yr (a.ltX b hb) d.size) fun e=>by omega,fun b hb=>hb.elim (a.xA b) fun e=>by have c:=a.free_new (b:=b) (by omega);exact⟨c.1,c.2.1,c.2.2.1⟩⟩
theorem MemX.free {X':Nat->Prop}(a:MemX X W base R vs rs va E)(d:∀b,X' b->X b):MemX X' W base R vs rs va E:=by
 have hF:∀b,b<W.heap.size->ygq X R vs va b->ygq X' R vs va b:=fun b _ c=>⟨c.1,c.2.1,c.2.2.1,fun g=>c.2.2.2 (d b g)⟩
 exact⟨a.row,a.len,a.lo,fun k v r f e=>(a.rep k v r f e).mono hF,a.noR,a.apart,a.noEv,a.evR,a.ev.mono hF,fun b hb=>a.ltX b (d b hb),fun b hb=>a.xA b (d b hb)⟩
theorem MemX.beside (a:MemX X W base R vs rs va E){q j:Nat}(h:X q)(hR:q≠R)(hk:∀v∈vs,¬zad v.kn q)(f:¬zad va q)(u:Xg):MemX X (W.setCell ⟨q,j,none⟩ u) base R vs rs va E:=by
 have c:∀b,b≠q->(W.setCell ⟨q,j,none⟩ u).heap[b]? = W.heap[b]?:=fun b hb=>Qe _ _ _ b hb
 have hF:∀b,ygq X R vs va b->b<W.heap.size->(W.setCell ⟨q,j,none⟩ u).heap[b]? = W.heap[b]?:=fun b g _=>c b fun e=>g.2.2.2 (e▸h)
 exact⟨a.row.other hR u,a.len,a.lo,fun k v r d i=>(a.rep k v r d i).keep hF fun b hb _=>c b fun e=>hk v (Qa d) (e▸hb),a.noR,a.apart,a.noEv,a.evR,a.ev.keep hF fun b hb _=>c b fun e=>f (e▸hb),fun b hb=>by rw[Qv];exact a.ltX b hb,a.xA⟩
end
section
variable {X:Nat->Prop} {W W':Xf} {base R:Nat} {vs:List RepV} {rs:List Rep} {va:Xg} {E:List Ev}
theorem zx9 (l:List Bool)(i:Nat)(x:Bool):(l.flatMap zdf).set i (Xc x)=(l.set i x).flatMap zdf:=by
 induction l generalizing i with
 | nil=>rfl
 | cons b r a =>
  cases i with
  | zero=>rfl
  | succ i=>simp only[Qt,zdf,Yf,Yh,Yg,a]
theorem zid (l:List Bool):(l.flatMap zdf).length=l.length:=by induction l<;>simp_all [zdf]
theorem yac (l:List Bool){i:Nat}{b:Bool}(c:l[i]? = some b):(l.flatMap zdf)[i]? = some (Xc b):=by
 induction l generalizing i with
 | nil=>simp at c
 | cons a r d =>
  cases i with
  | zero=>simp at c;subst c;rfl
  | succ i=>simp only[Qt,zdf,Yf,Yh,List.getElem?_cons_succ];exact d (by simpa using c)
theorem RepAt.bit {F:Nat->Prop}{v:RepV}{r:Rep}(e:RepAt W base F v r){i:Nat}{b:Bool}(hi:r.knew[i]? = some b):∃g c,v.kn=Xa (some ⟨g,0,none⟩) r.knew.length c/\r.knew.length<=c/\c<=9223372036854775807/\W.cell? ⟨g,i,none⟩=some (Xc b)/\W.frozen? ⟨g,i,none⟩=false:=by
 have l:=(Qb.1 hi).1;obtain⟨g,d,tail,j,hb,a,f,h,-⟩:=e.kn.row (by omega);exact⟨g,d,j,f,h,a.cell (yac _ hi),a.frozen i⟩
theorem MemX.setKnew (a:MemX X W base R vs rs va E){k i g c:Nat}{v:RepV}{r:Rep}(h:vs[k]? = some v)(F:rs[k]? = some r)(hi:i<r.knew.length)(t:v.kn=Xa (some ⟨g,0,none⟩) r.knew.length c)(x:Bool) :
  MemX X (W.setCell ⟨g,i,none⟩ (Xc x)) base R vs (rs.set k { r with knew:=r.knew.set i x }) va E:=by
 have s:=a.rep k v r h F;obtain⟨I,H,tail,z,hb,G,A,C,B⟩:=s.kn.row (by omega);rw[t]at z;injection z with e1 e2 e3
 injection e1 with e1
 injection e1 with e1
 subst e1 e3;have f:zad v.kn g:=⟨g,_,c,t,by omega,rfl⟩
 have u:=Qa h;have other:∀b,b≠g->(W.setCell ⟨g,i,none⟩ (Xc x)).heap[b]? = W.heap[b]?:=fun b hb=>Qe W _ _ b hb
 have J:(W.setCell ⟨g,i,none⟩ (Xc x)).heap.size=W.heap.size:=Qv _ _ _;have l:∀b,ygq X R vs va b->b<W.heap.size->(W.setCell ⟨g,i,none⟩ (Xc x)).heap[b]? = W.heap[b]?:=fun b hb _=>other b fun e=>hb.2.1 v u (e▸f)
 refine⟨a.row.other (p:=⟨g,i,none⟩) (fun e=>a.noR v u (by rw[<- e];exact f)) _,by simp[a.len],a.lo,fun j y q d m=>?_,a.noR,a.apart,a.noEv,a.evR,a.ev.keep l fun b hb _=>other b fun e=>a.noEv v u g f (e▸hb),fun b hb=>by rw[Qv];exact a.ltX b hb,a.xA⟩;rcases zcv m with⟨rfl,rfl,-⟩|⟨D,m⟩
 ·rw[h]at d;injection d with d
  subst d;refine⟨s.st.keep l,?_,s.ask.keep (by decide) l⟩;simp only[Yl];have w:=G.set (j:=i) (by rw[zid];exact hi) (Xc x);rw[zx9]at w;rw[t];refine w.own hb A C ?_ ?_ ?_
  ·rw[<- B,Qu,Qu,zid,zid,Yl]
  ·rw[List.take_of_length_le];rw[zid,Yl];omega
  rw[zid,Yl];omega
 refine(a.rep j y q d m).keep l fun b hb _=>other b fun e=>?_
 exact a.apart k j v y g (fun e=>D e.symm) h d f (e▸hb)
theorem MemX.pushKnew {h:Xf}(a:MemX X W base R vs rs va E){k:Nat}{v:RepV}{r:Rep}{f:Xg}(t:vs[k]? = some v)(O:rs[k]? = some r){x:Bool}(A:Grew W h v.kn f)(d:Own h base 4 1 f (r.knew.length+1) (r.knew.flatMap zdf++[Xc x])) :
  MemX X (h.setCell ⟨R,k * 5+3,none⟩ f) base R (vs.set k { v with kn:=f }) (rs.set k { r with knew:=r.knew++[x] }) va E:=by
 have w:=Qa t;have K:=a.rep k v r t O;have G:∀b,b<W.heap.size->b≠R->¬zad v.kn b->(h.setCell ⟨R,k * 5+3,none⟩ f).heap[b]? = W.heap[b]?:=fun b hb h1 M=>(Qe h _ _ b h1).trans (A.same b hb M)
 have l:∀b,b<W.heap.size->zad f b->zad v.kn b:=fun b hb d=>(A.blk b d).resolve_right (by omega)
 have hF:∀b,b<W.heap.size->ygq X R vs va b->ygq X R (vs.set k { v with kn:=f }) va b:=fun b hb g=>⟨g.1,fun y c d=>by
  rcases zmj c with rfl|c
  ·exact g.2.1 v w (l b hb d)
  exact g.2.1 y c d,g.2.2⟩
 have mv:∀b,ygq X R vs va b->b<W.heap.size->(h.setCell ⟨R,k * 5+3,none⟩ f).heap[b]? = W.heap[b]?/\ygq X R (vs.set k { v with kn:=f }) va b:=fun b g hb=>⟨G b hb g.1 (g.2.1 v w),hF b hb g⟩
 have J:¬zad f R:=fun d=>a.noR v w (l R a.row.lt d)
 have P:RowIs h R 75 (vs.flatMap RepV.cells) []:=a.row.keep (A.same R a.row.lt (a.noR v w));have Q:∀b,b<W.heap.size->∀y,(y = { v with kn:=f })->zad y.kn b->zad v.kn b:=fun b hb y c d=>l b hb (by rw[c]at d;exact d)
 refine⟨?_,by simp[a.len],a.lo,fun i y q c C=>?_,fun y c hb=>?_,fun i j y u b B c s hb=>?_,fun y c b hb=>?_,a.evR,?_,fun b hb=>by rw[Qv];exact Yr (a.ltX b hb) A.size,fun b hb=>⟨(a.xA b hb).1,fun y c d=>(zmj c).elim (fun e=>(a.xA b hb).2.1 v w (l b (a.ltX b hb) (by rw[e]at d;exact d))) fun c=>(a.xA b hb).2.1 y c d,(a.xA b hb).2.2⟩⟩
 ·have:=P.set (j:=k * 5+3) (a.bound t (by decide)) f;rw[zhs vs k 3 v { v with kn:=f } f t (by decide) rfl]at this;exact this
 ·rcases zcv c with⟨rfl,rfl,-⟩|⟨z,c⟩
  ·have H:q = { r with knew:=r.knew++[x] }:=by
    rcases zcv C with⟨-,e,-⟩|⟨z,-⟩
    ·exact e
    exact absurd rfl z
   subst H
   refine⟨((K.st.mono (S':=fun b=>ygq X R vs va b/\b<W.heap.size) fun b hb g=>⟨g,hb⟩).keep fun b hb m=>(mv b hb.1 m).1).mono fun b _ hb=>(mv b hb.1 hb.2).2,?_,
    ((K.ask.mono (S':=fun b=>ygq X R vs va b/\b<W.heap.size) (by decide) fun b hb g=>⟨g,hb⟩).keep (by decide) fun b hb m=>(mv b hb.1 m).1).mono (by decide) fun b _ hb=>(mv b hb.1 hb.2).2⟩
   simp only[Qu,Qr,Qy,Vx,Qt,List.flatMap_nil,zdf,Yq];exact d.keep fun b hb _=>Qe h _ _ b fun e=>J (by have L:b=R:=e;rw[<- L];exact hb)
  have H:rs[i]? = some q:=by
   rcases zcv C with⟨e,-,-⟩|⟨-,C⟩
   ·exact absurd e z
   exact C
  exact(a.rep i y q c H).move mv fun b hb m=>G b m (fun e=>a.noR y (Qa c) (e▸hb)) fun d=>a.apart i k y v b z c t hb d
 ·rcases zmj c with rfl|c
  ·exact J hb
  exact a.noR y c hb
 ·intro D;rcases zcv c with⟨rfl,rfl,-⟩|⟨z,I⟩
  ·rcases zcv s with⟨rfl,-,-⟩|⟨N,s⟩
   ·exact B rfl
   exact a.apart i j v u b B t s (l b (a.lt_kn (Qa s) D) hb) D
  rcases zcv s with⟨rfl,rfl,-⟩|⟨N,s⟩
  ·exact a.apart i _ y v b B I t hb (l b (a.lt_kn (Qa I) hb) D)
  exact a.apart i j y u b B I s hb D
 ·intro F;rcases zmj c with rfl|c
  ·exact a.noEv v w b (l b (a.ev.base_le F).2 hb) F
  exact a.noEv y c b hb F
 exact a.ev.move mv fun b hb m=>G b m (fun e=>a.evR (e▸hb)) fun d=>a.noEv v w b d hb
theorem MemX.pushEv {j:Xf}{e:Ev}{h:Xg}(a:MemX X W base R vs rs va E)(f:Grew W j va h)(c:∀S':Nat->Prop,(∀b,ygq X R vs va b->b<W.heap.size->S' b)->OwnL evT 179 j base S' h (E++[e])) :
  MemX X j base R vs rs h (E++[e]):=by
 have l:∀b,b<W.heap.size->zad h b->zad va b:=fun b hb c=>(f.blk b c).resolve_right (by omega)
 have mv:∀b,ygq X R vs va b->b<W.heap.size->j.heap[b]? = W.heap[b]?/\ygq X R vs h b:=fun b d hb=>⟨f.same b hb d.2.2.1,d.1,d.2.1,fun c=>d.2.2.1 (l b hb c),d.2.2.2⟩
 refine⟨a.row.keep (f.same R a.row.lt a.evR),a.len,a.lo,fun i y q g s=>?_,a.noR,a.apart,fun y g b hb m=>?_,fun c=>a.evR (l R a.row.lt c),?_,fun b hb=>Yr (a.ltX b hb) f.size,fun b hb=>⟨(a.xA b hb).1,(a.xA b hb).2.1,fun c=>(a.xA b hb).2.2 (l b (a.ltX b hb) c)⟩⟩
 ·exact(a.rep i y q g s).move mv fun b hb r=>f.same b r (a.noEv y (Qa g) b hb)
 ·exact a.noEv y g b hb (l b (a.lt_kn g hb) m)
 exact c _ fun b d hb=>(mv b d hb).2
end
section
variable {X:Nat->Prop} {W W':Xf} {base R:Nat} {vs:List RepV} {rs:List Rep} {va:Xg} {E:List Ev}
theorem zrw {α:Type}{l:List α}{k:Nat}{x:α}(h:l[k]? = some x):l.set k x=l:=by
 obtain⟨hk,rfl⟩:=Qb.1 h;exact List.set_getElem_self hk
theorem MemX.putS (c:MemX X W base R vs rs va E){k:Nat}{v:RepV}{r:Rep}{s:State}{s1 s2 s3:Xg}(a:vs[k]? = some v)(e:rs[k]? = some r)(t:StAt W (ygq X R vs va) s s1 s2 s3) :
  MemX X (((W.setCell ⟨R,k * 5,none⟩ s1).setCell ⟨R,k * 5+1,none⟩ s2).setCell ⟨R,k * 5+2,none⟩ s3) base R (vs.set k { v with s1:=s1,s2:=s2,s3:=s3 }) (rs.set k { r with s:=s }) va E:=by
 have q:=c.rep k v r a e;have d:=(Qb.1 a).1;have g:=c.bound a (j:=0) (by decide);have h:=c.bound a (j:=1) (by decide);have i:=c.bound a (j:=2) (by decide);refine c.write (v:=v) (v':={ v with s1:=s1,s2:=s2,s3:=s3 }) (r':={ r with s:=s }) a rfl (by rw[e];rfl) t q.ask (fun b hb=>?_) ?_ ?_
 ·rw[Qe _ _ _ b hb,Qe _ _ _ b hb,Qe _ _ _ b hb]
 ·rw[Qv,Qv,Qv];exact Qj _
 have u:=c.row.set (j:=k * 5) g s1;have q1:=u.set (j:=k * 5+1) (by rw[Yl];exact h) s2;have f:=q1.set (j:=k * 5+2) (by rw[Yl,Yl];exact i) s3;have e0:=zhs vs k 0 v { v with s1:=s1 } s1 a (by decide) rfl;have l:=zhs (vs.set k { v with s1:=s1 }) k 1 { v with s1:=s1 } { v with s1:=s1,s2:=s2 } s2 (by simp[Vj,d]) (by decide) rfl;have m:=zhs ((vs.set k { v with s1:=s1 }).set k { v with s1:=s1,s2:=s2 }) k 2 { v with s1:=s1,s2:=s2 } { v with s1:=s1,s2:=s2,s3:=s3 } s3 (by simp[Vj,d]) (by decide) rfl;simp only[Nat.add_zero]at e0;rw[e0,l,m]at f
 simpa[List.set_set]using f
theorem MemX.putAsked (a:MemX X W base R vs rs va E){k:Nat}{v:RepV}{r:Rep}{m:List Mark}{u:Xg}(c:vs[k]? = some v)(d:rs[k]? = some r)(f:Sl markT W (ygq X R vs va) u m) :
  MemX X (W.setCell ⟨R,k * 5+4,none⟩ u) base R (vs.set k { v with ask:=u }) (rs.set k { r with asked:=m }) va E:=by
 have e:=a.rep k v r c d;refine a.write (v:=v) (v':={ v with ask:=u }) (r':={ r with asked:=m }) c rfl (by rw[d];rfl) e.st f (fun b hb=>Qe _ _ _ b hb) (by rw[Qv];exact Qj _) ?_;have g:=a.row.set (j:=k * 5+4) (a.bound c (by decide)) u
 rwa[zhs vs k 4 v { v with ask:=u } u c (by decide) rfl]at g
theorem Below.mem {w0 W:Xf}(a:Ext w0 W){p:Addr}(b:w0.heap.size<=p.block)(v:Xg):Ext w0 (W.setCell p v):=a.set b v
theorem MemX.drew (h:MemX X W base R vs rs va E):MemX X W.drew base R vs rs va E:=h.ext ((Ext.refl W).drew)
end
end
section
open Go.Sort
structure LimE (n:Nat) (e:Entry):Prop where
 seen:e.seen.length<=n
 counts:e.counts.length<=n
 items:e.items.length<=n
 dots:∀it∈e.items,it.2.length<=n
 places:(zab e.items).length<=n
structure LimS (n:Nat) (s:State):Prop where
 all:s.all.length<=n
 entries:s.entries.length<=n
 pruned:s.pruned.length<=n
 each:∀e∈s.entries,LimE n e
theorem LimE.small {n:Nat}{e:Entry}(a:LimE n e)(b:n<=549755813888):SmallE e :=
 ⟨Qc a.seen b,Qc a.counts b,Qc a.items b,fun it c=>Qc (a.dots it c) b,Qc a.places b⟩
theorem LimS.small {n:Nat}{s:State}(a:LimS n s)(b:n<=549755813888):SmallS s :=
 ⟨Qc a.all b,Qc a.entries b,Qc a.pruned b,fun e c=>(a.each e c).small b⟩
theorem LimE.mono {n m:Nat}{e:Entry}(a:LimE n e)(b:n<=m):LimE m e :=
 ⟨Qc a.seen b,Qc a.counts b,Qc a.items b,fun it c=>Qc (a.dots it c) b,Qc a.places b⟩
theorem zrx {l:List Item}{it:Item}(h:it∈l):it.2.length<=(zab l).length:=by
 obtain⟨a,b,rfl⟩:=List.append_of_mem h;simp only[zab,Vx,Qt,Qu,Qn];omega
theorem zya {a:List zan}{n:Nat}(b:a.length<=n):(za7 a).length<=n/\(∀it∈za7 a,it.2.length<=n)/\(zab (za7 a)).length<=n:=by
 have c:(zab (za7 a)).length<=n:=by unfold za7;rw[zdw,(zbq a).length_eq];exact b
 exact⟨Qc (zn2 a) b,fun it d=>Qc (zrx d) c,c⟩
theorem yad (l:List Mark)(p:Str)(n:Nat):(setM l p n).length<=l.length+1:=by
 have h1:(setM l p n).length<=(za3 (zbu (zau l p)) (zbu [(p,n)])).length:=by unfold setM za0;simp
 have b:=zkq (zbu (zau l p)) (zbu [(p,n)]);have c:=zeo (zau l p);have a:=zeo [(p,n)];have d:=zh4 l p;simp only[Qr,Qy]at a;omega
theorem zp5 (a b:List (Str×Nat)):(zdr a b).length<=a.length:=by
 have:=zlk a b (zbw (a.map Prod.fst));rw[zh2,Qn]at this;exact this
end
section
open Go.RowKit
theorem zve {E:List Ev}{V:Vec}{k:Str}{x:Entry}(b:IsE E V k x):(zab x.items).length<=E.length:=by
 have d:(zab x.items).Nodup:=by have a:=b.itG.2.2.2;rw[zcn]at a;unfold Vv at a ⊢;rw[Qq]at a;exact a.imp fun c e=>c (by rw[e])
 have a:=zdx (zab x.items) (E.map fun e=>((e.tx,e.path,e.num):zan)) d fun q f=>by obtain⟨i,e,h1,-,-,-,rfl,-⟩:=(b.items q).1 f;exact Qg.2 ⟨e,Qa h1,rfl⟩
 rwa[Qn]at a
theorem zyb {l:List Item}(a:∀it∈l,it.2≠[]):l.length<=(zab l).length:=by
 induction l with
 | nil=>exact Qx _
 | cons it r d =>
  have h1:=d fun x c=>a x (by simp[c])
  have b:=a it (by simp);have e:0<it.2.length:=List.length_pos_iff.2 b;simp only[zab,Qt,Qu,Qn,Qr]at h1 ⊢;omega
theorem IsE.lim {E:List Ev}(f:HistOk E){q ps:List Str}{s:State}(m:IsS E q s)(e:VecOk ps s){x:Entry}{k:Str}(a:IsE E (vecS s) k x):LimE 400 x:=by
 have g:=zhr m a;have u:=f.most;have t:=e.few;have d:=zve a;have h1:x.seen.length<=ps.length:=zd3 a.seenG fun p d=>e.paths p (by have:=g p;omega)
 have l:(x.counts.map (·.1)).Nodup:=by unfold Vv;rw[Qq];exact a.cntG.1.imp fun h=>zck h
 have i:=zdx (x.counts.map (·.1)) ps l fun p d=>by obtain⟨c,j,rfl⟩:=Qg.1 d;have:=(a.count_seen f.toHist j).2;exact e.paths c.1 (by have:=g c.1;omega)
 rw[Qn]at i;have r:=zyb fun it b=>(a.itG.2.1 it b).2.1
 exact⟨by omega,by omega,by omega,fun it b=>by have:=zrx b;omega,by omega⟩
theorem IsS.lim {E:List Ev}(c:HistOk E){ps:List Str}{s:State}(a:IsS E [] s)(b:VecOk ps s):LimS 400 s:=by
 have m:=c.most;have l:=b.few;have h1:=zd3 a.all b.paths;have i:(s.entries.map (·.key)).Nodup:=a.rise.imp fun d=>zck d
 have f:=zdx (s.entries.map (·.key)) (E.map (·.key)) i fun k hk=>by obtain⟨e,g,-,h⟩:=(a.has k).1 hk;exact Qg.2 ⟨e,g,h⟩
 rw[Qn,Qn]at f;exact⟨by omega,by omega,by rw[a.pruned];exact Qx _,fun x j=>((a.each x j).1).lim c a b⟩
end
end Go.Proofs.YtaabaflgeljbjaaGreat
