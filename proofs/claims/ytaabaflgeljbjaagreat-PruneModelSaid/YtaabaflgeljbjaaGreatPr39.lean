/- Laws. -/
import Derived.Test.YtaabaflgeljbjaaGreatPr36
import Derived.Test.YtaabaflgeljbjaaGreatPr26
import Derived.Test.YtaabaflgeljbjaaGreatPr24
import Derived.Test.YtaabaflgeljbjaaGreatPr31
import Derived.Test.YtaabaflgeljbjaaGreatPr05
import Derived.Test.YtaabaflgeljbjaaGreatPr30
import Derived.Test.YtaabaflgeljbjaaGreatPr37
import Derived.Test.YtaabaflgeljbjaaGreatPr11
import Derived.Test.YtaabaflgeljbjaaGreatPr38
import Derived.Test.YtaabaflgeljbjaaGreatPr25
import Derived.Test.YtaabaflgeljbjaaGreatPr32
set_option linter.unusedVariables false
set_option linter.unusedSimpArgs false
set_option maxRecDepth 100000
set_option maxHeartbeats 40000000
namespace Go.Proofs.YtaabaflgeljbjaaGreat
open Go.Value renaming slice→Xa,pointer→Xb,bool→Xc,tuple→Xd
open Go.Obj renaming cells→Xe
open Go.Ending renaming returned→Xf
open Go renaming World→Xg,Value→Xh
open Ext renaming refl→Xi
open Go renaming undef→Qa
open List renaming getElem?_eq_some_iff→Qd,length_take→Qe,getElem?_eq_getElem→Qg,getElem?_append_right→Qi,length_map→Qj,mem_map→Qk,filterMap_cons→Qm,mem_of_getElem?→Qn,mem_filter→Qo,set_cons_zero→Qp,filter_cons_of_neg→Qr,length_cons→Qs,map_congr_left→Qu,filter_cons_of_pos→Qv,mem_cons_of_mem→Qw,mem_of_mem_take→Qx,set_cons_succ→Yc,length_append→Yd,getElem?_take_of_lt→Ye,getElem?_replicate→Yf,getElem?_set→Yg,pairwise_map→Yj,take_of_length_le→Yl,all_eq_true→Ym,map_map→Yo,length_nil→Yq,take_append_of_le_length→Yr,mem_cons→Yt,map_cons→Yu,sum_cons→Yv,getElem?_append_left→Yw,lookup_cons→Yx,take_length→Yy,set_append→Yz,append_nil→Va,getElem_cons_drop→Vc,getElem?_set_self→Vd,getElem?_set_ne→Ve,pairwise_cons→Vj,take_add_one→Vk,foldl_append→Vm,ext_getElem?→Vn,nodup_cons→Vq,length_set→Vr,mem_append→Vs,foldl_cons→Vt,foldl_nil→Vu,replicate→Vv
open Nat renaming le_trans→Qc,reduceAdd→Qh,le_succ_of_le→Qq,lt_or_ge→Qt,min_eq_left→Qz,lt_of_lt_of_le→Yb,lt_succ_of_le→Yh,le_of_lt_succ→Yi,le_refl→Yk,sub_self→Yp,zero_le→Ys,le_succ→Vb,lt_of_le_of_lt→Vg,eq_zero_or_pos→Vh,le_of_lt→Vi,succ_le_succ→Vo,mod_lt→Vp
open Go.World renaming size_alloc→Ql,size_setCell→Ya
open Go.RowKit.Below renaming heap_setCell→Qb
open Bool renaming and_eq_true→Qf,true_and→Qy,and_true→Vf,not_eq_true'→Vl
open Option renaming some.inj→Yn
section
open Go.RowKit
structure Deed where
 key:Nat
 do_:Nat
 n:Nat
 by_:Int
 text:Nat
 other:Nat
 asks:Bool
structure DeedOk (d:Deed):Prop where
 key:d.key<256
 do_:d.do_<256
 n:d.n<256
 lo:-32768<=d.by_
 hi:d.by_<=32767
 text:d.text<256
 other:d.other<256
def keyD (d:Deed):Str:=if d.key % 3=0 then keyN else if d.key % 3=1 then keyA else keyC
def opD (d:Deed):Nat:=if d.key % 3=0 then 1 else if d.key % 3=1 then(if d.do_ % 3=1 then 3 else 2)else 4
def txD (d:Deed):Str:=[UInt8.ofNat (97+d.text % 2)]
theorem zry {d:Deed}(e:DeedOk d):OpOk (keyD d) (opD d) d.by_ (txD d) where
 kind:=by
  unfold keyD opD
  by_cases h0:d.key % 3=0
  ·rw[zP h0,zP h0];exact .inl ⟨rfl,rfl⟩
  rw[zN h0,zN h0]
  by_cases h1:d.key % 3=1
  ·rw[zP h1,zP h1];refine .inr (.inl ⟨rfl,?_⟩)
   by_cases f:d.do_ % 3=1
   ·rw[zP f];exact .inr rfl
   rw[zN f];exact .inl rfl
  rw[zN h1,zN h1];exact .inr (.inr ⟨rfl,rfl⟩)
 lo:=e.lo
 hi:=e.hi
 text:=by
  unfold txD;rcases Nat.mod_two_eq_zero_or_one d.text with e|e
  ·rw[e];exact .inl rfl
  rw[e];exact .inr rfl
theorem RepsOk.apply {E:List Ev}{n:Nat}{rs:List Rep}(d:RepsOk E n rs){k o:Nat}{r q:Rep}(hk:rs[k]? = some r)(e:rs[o]? = some q):zhe r.s (za0 r.asked []) (zic q.s r.asked)=(zb9 r.s q.s,0) :=
 zta d.hist.toHist (d.each k r hk).is (d.each o q e).is (d.each k r hk).asked
def zit (E:List Ev)(rs:List Rep)(d:Deed):List Ev×List Rep :=
 if 3<=d.do_ % 5 then(E,zmi (if d.asks then askR rs (d.n % rs.length)else rs) (d.n % rs.length) (d.other % rs.length))
 else updR E (if d.asks then askR rs (d.n % rs.length)else rs) (d.n % rs.length) (keyD d) (opD d) d.by_ (txD d)
theorem yj5 (rs:List Rep)(k:Nat):(askR rs k).length=rs.length:=by
 unfold askR
 split<;>simp
theorem RepsOkB.asks {m:Nat}{E:List Ev}{n:Nat}{rs:List Rep}(h:RepsOkB m E n rs)(b:Bool)(k:Nat):RepsOkB m E n (if b then askR rs k else rs):=by
 cases b with
 | true=>exact h.ask k
 | false=>exact h
theorem RepsOkB.does {m:Nat}{E:List Ev}{n:Nat}{rs:List Rep}(e:RepsOkB m E n rs)(j:0<n)(h:E.length<200){d:Deed}(f:DeedOk d)(i:m<=1000:=by decide):RepsOkB m (zit E rs d).1 n (zit E rs d).2:=by
 unfold zit
 split
 ·exact(e.asks _ _).join _ _
 exact((e.asks _ _).upd (k:=d.n % rs.length) (by rw[e.len];exact Vp _ j) h (zry f) i).2
theorem yae (E:List Ev)(rs:List Rep)(d:Deed):(zit E rs d).1.length<=E.length+1:=by
 unfold zit
 split
 ·exact Vb _
 unfold updR
 split
 ·simp
 exact Vb _
section
variable {E:List Ev} {a b c:State}
theorem IsS.join0 (H:Hist E)(ha:IsS E [] a)(hb:IsS E [] b):IsS E [] (zb9 a b):=ha.join H hb zm3
theorem zjk (a b:State)(p:Str):ofM (zb9 a b).all p=max (ofM a.all p) (ofM b.all p):=zfs _ _ p
theorem yh9 (H:Hist E)(ha:IsS E [] a)(hb:IsS E [] b):zb9 a b=zb9 b a :=
 (ha.join0 H hb).uniq (hb.join0 H ha) fun p=>by rw[zjk,zjk];omega
theorem yja (d:Hist E)(ha:IsS E [] a)(hb:IsS E [] b)(e:IsS E [] c):zb9 (zb9 a b) c=zb9 a (zb9 b c) :=
 ((ha.join0 d hb).join0 d e).uniq (ha.join0 d (hb.join0 d e)) fun p=>by rw[zjk,zjk,zjk,zjk];omega
theorem ykv (H:Hist E)(ha:IsS E [] a)(hb:IsS E [] b):zb9 (zb9 a b) a=zb9 a b :=
 ((ha.join0 H hb).join0 H ha).uniq (ha.join0 H hb) fun p=>by rw[zjk,zjk];omega
theorem ykw (f:Hist E)(ha:IsS E [] a)(b:State):(zic a (zb9 a b).all).entries = []:=by
 refine List.filter_eq_nil_iff.2 fun x e=>?_
 have d:zbm (zb9 a b).all x.seen=true:=coversM_iff.2 fun p=>by have:=zhr ha (ha.each x e).1 p;rw[zjk];omega
 unfold zde;rw[d];simp
theorem VecOk.join {ps:List Str}(ha:VecOk ps a)(hb:VecOk ps b):VecOk ps (zb9 a b) :=
 ⟨fun p e=>by
  rw[zjk]at e
  by_cases d:ofM a.all p=0
  ·exact hb.paths p (by omega)
  exact ha.paths p d,ha.few,fun p=>by rw[zjk];have:=ha.most p;have:=hb.most p;omega⟩
end
end
section
open Go.RowKit Go.Shelf
theorem zrz {w:Xg}{q T:Nat}{e0 e:Entry}{a1 a2 a3 v1 v2 v3:Xh}(h:RowIs w q T (entL e0 a1 a2 a3) []):RowIs (put7 w q e v1 v2 v3) q T (entL e v1 v2 v3) []:=by
 have:=RowIs.set7 (X1:=[]) (X2:=[]) (o:=0) (by simpa using h) rfl (St e.key) v1 v2 v3 (U e.cell.1) (St e.cell.2.1) (Xc e.cell.2.2)
 simpa using this
theorem zp6 (w:Xg)(q:Nat)(e:Entry)(v1 v2 v3:Xh):(put7 w q e v1 v2 v3).heap.size=w.heap.size:=by simp[Ya]
theorem znl {S:Nat->Prop}{s:State}{v1 v2 v3:Xh}{w:Xg}(p:Str)(o:OpD)(ga:-9223372036854775808<=o.2.2.1)(gb:o.2.2.1<=9223372036854775807)(J:StAt w S s v1 v2 v3)(ff:SmallS s) :
  Calls Tryz.prog 36 #[stV v1 v2 v3,St p,opV o] w fun r w'=>∃fg fh fi,r=Xf (Xd #[stV fg fh fi,I (updS s p o).2])/\StAt w' (fun b=>w.heap.size<=b) (updS s p o).1 fg fh fi/\Ext w w':=by
 have bq:=zH (show updS s p o=if p = [] ∨ mayS s=false then(za1,2)else if 281474976710656<=ofM s.all p then(za1,9)else if za4 s.entries o.2.1=none/\256<=s.entries.length then(za1,6)else
  if(updE ((za4 s.entries o.2.1).getD zak) o (p,ofM s.all p+1)).2=0 then(⟨setM s.all p (ofM s.all p+1),zcg s.entries o.2.1 (updE ((za4 s.entries o.2.1).getD zak) o (p,ofM s.all p+1)).1,s.pruned⟩,0)
  else(za1,(updE ((za4 s.entries o.2.1).getD zak) o (p,ofM s.all p+1)).2)from rfl)
 have b5:=zH ff;have ft:=zH (fun bf:mayS s=true=>(mayS_iff.1 bf).rise);obtain⟨h,f,t⟩:=s;obtain⟨A,k,n,tx⟩:=o;simp only at ga gb;obtain⟨V,aa,W,ab,X,ac,rfl,rfl,rfl⟩:=J.fm;have bt:Ext w (((w.alloc (Xe #[Xa V h.length aa,Xa W f.length ab,Xa X t.length ac] 26)).alloc (Xe #[K8 A,St k,I n,St tx] 99)).alloc (Xe #[Xa none 0 0,Xa none 0 0,Xa none 0 0] 26)):=(((Xi w).alloc _).alloc _).alloc _;have e6:RowIs (((w.alloc (Xe #[Xa V h.length aa,Xa W f.length ab,Xa X t.length ac] 26)).alloc (Xe #[K8 A,St k,I n,St tx] 99)).alloc (Xe #[Xa none 0 0,Xa none 0 0,Xa none 0 0] 26)) w.heap.size 26 [Xa V h.length aa,Xa W f.length ab,Xa X t.length ac] []:=((zaf w _ _).alloc _).alloc _;have e7:RowIs (((w.alloc (Xe #[Xa V h.length aa,Xa W f.length ab,Xa X t.length ac] 26)).alloc (Xe #[K8 A,St k,I n,St tx] 99)).alloc (Xe #[Xa none 0 0,Xa none 0 0,Xa none 0 0] 26)) (w.heap.size+1) 99 [K8 A,St k,I n,St tx] []:=by have J:=zaf (w.alloc (Xe #[Xa V h.length aa,Xa W f.length ab,Xa X t.length ac] 26)) 99 [K8 A,St k,I n,St tx];simp only[Ql]at J;exact J.alloc _
 have e9:RowIs (((w.alloc (Xe #[Xa V h.length aa,Xa W f.length ab,Xa X t.length ac] 26)).alloc (Xe #[K8 A,St k,I n,St tx] 99)).alloc (Xe #[Xa none 0 0,Xa none 0 0,Xa none 0 0] 26)) (w.heap.size+1+1) 26 [Xa none 0 0,Xa none 0 0,Xa none 0 0] []:=by have J:=zaf ((w.alloc (Xe #[Xa V h.length aa,Xa W f.length ab,Xa X t.length ac] 26)).alloc (Xe #[K8 A,St k,I n,St tx] 99)) 26 [Xa none 0 0,Xa none 0 0,Xa none 0 0];simp only[Ql]at J;exact J
 have gj:w.heap.size+3<=(((w.alloc (Xe #[Xa V h.length aa,Xa W f.length ab,Xa X t.length ac] 26)).alloc (Xe #[K8 A,St k,I n,St tx] 99)).alloc (Xe #[Xa none 0 0,Xa none 0 0,Xa none 0 0] 26)).heap.size:=by simp
 have f5:=J.mono (S':=fun b=>b<w.heap.size) (fun b hb _=>hb);have b2:=zH (f5.ext bt);have d8:=zH (zng (J.ext bt) ff);clear f5;clear J ff
 by_cases ca:p = []
 ·subst ca;have M:=zH (show updS ⟨h,f,t⟩ [] (A,k,n,tx)=(za1,2) by rw[bq.out,zP (.inl rfl)]);have af:=zH bt;clear bt e6 e9 e7 b2 d8 bq;go_enter Tryz.func36,Tryz.ntmps36;go_wp2_with fail
  (try simp only[Exit.inBlock,Exit.then])
  refine bodyPost_ret (v:=Xd #[stV (Xa none 0 0) (Xa none 0 0) (Xa none 0 0),I 2]) (by simp[results,Tryz.f36,go_sem]) rfl ?_;refine⟨Xa none 0 0,Xa none 0 0,Xa none 0 0,by(rw[M.out];try rfl),?_⟩;rw[M.out];exact⟨StAt.none _ _ _ _ _,af.out⟩
 have kx:(p==[])=false:=by simpa using ca
 go_enter Tryz.func36,Tryz.ntmps36;go_wp2_with fail;generalize (((w.alloc (Xe #[Xa V h.length aa,Xa W f.length ab,Xa X t.length ac] 26)).alloc (Xe #[K8 A,St k,I n,St tx] 99)).alloc (Xe #[Xa none 0 0,Xa none 0 0,Xa none 0 0] 26))=j8 at *;refine d8.out.mono ?_;rintro r j9⟨rfl,ap⟩;have d2:=bt.trans ap;have d3:=e6.ext ap;have e8:=e7.ext ap;have cl:=e9.ext ap;have gl:=Qc gj ap.size;clear bt e6 e9 e7 gj d8
 cases bf:mayS ⟨h,f,t⟩
 case false=>
  have M:=zH (show updS ⟨h,f,t⟩ p (A,k,n,tx)=(za1,2) by rw[bq.out,zP (.inr bf)]);obtain⟨r0,r1,ar⟩:=cl.p3;obtain⟨f0,f1,dx⟩:=cl.q3;have af:=zH d2;clear d2 ap d3 cl e8 b2 bq bf ca;go_wp2_with fail
  (try simp only[Exit.inBlock,Exit.then])
  refine bodyPost_ret (v:=Xd #[stV (Xa none 0 0) (Xa none 0 0) (Xa none 0 0),I 2]) (by simp[results,Tryz.f36,go_sem,r0,r1,ar]) rfl ?_;have Y:=zbn (q:=w.heap.size+1+1) af.out (by omega) (Xa none 0 0) (Xa none 0 0) (Xa none 0 0);refine⟨Xa none 0 0,Xa none 0 0,Xa none 0 0,by(rw[M.out];try rfl),?_⟩;rw[M.out];exact⟨StAt.none _ _ _ _ _,Y⟩
 have e1:=zH (show RiseS (f.map (·.key))from ft.out bf)
 have b3:=zH (show updS ⟨h,f,t⟩ p (A,k,n,tx)=if 281474976710656<=ofM h p then(za1,9)else if za4 f k=none/\256<=f.length then(za1,6)else
  if(updE ((za4 f k).getD zak) (A,k,n,tx) (p,ofM h p+1)).2=0 then(⟨setM h p (ofM h p+1),zcg f k (updE ((za4 f k).getD zak) (A,k,n,tx) (p,ofM h p+1)).1,t⟩,0)
  else(za1,(updE ((za4 f k).getD zak) (A,k,n,tx) (p,ofM h p+1)).2) by rw[bq.out,zN (by simp[ca,bf])])
 have bp:=zH (ze1 p (b2.out.all.ext (by decide) ap));have h9:=d3.cell (j:=0) rfl;have fy:=zH ap;clear bf ca bq ft ap;go_wp2_with fail;refine bp.out.mono ?_;rintro r ka⟨rfl,bg⟩;have cd:=d2.trans bg;have cf:=d3.ext bg;have ck:=e8.ext bg;have b1:=cl.ext bg;have gm:=Qc gl bg.size;have ds:=zH ((b2.out.ext fy.out).ext bg);clear d2 d3 cl e8 bp bg gl h9 fy b2;obtain⟨z,e5⟩:∃z,ofM h p=z:=⟨_,rfl⟩
 rw[e5]at b3;rw[e5];clear e5
 by_cases d1:281474976710656<=z
 ·have M:=zH (show updS ⟨h,f,t⟩ p (A,k,n,tx)=(za1,9) by rw[b3.out,zP d1]);have ev:(z:Int)≥281474976710656:=(by omega);obtain⟨r0,r1,ar⟩:=b1.p3;obtain⟨f0,f1,dx⟩:=b1.q3;have af:=zH cd;clear cd cf b1 ck ds b3 d1;go_wp2_with fail
  (try simp only[Exit.inBlock,Exit.then])
  refine bodyPost_ret (v:=Xd #[stV (Xa none 0 0) (Xa none 0 0) (Xa none 0 0),I 9]) (by simp[results,Tryz.f36,go_sem,r0,r1,ar]) rfl ?_;have Y:=zbn (q:=w.heap.size+1+1) af.out (by omega) (Xa none 0 0) (Xa none 0 0) (Xa none 0 0);refine⟨Xa none 0 0,Xa none 0 0,Xa none 0 0,by(rw[M.out];try rfl),?_⟩;rw[M.out];exact⟨StAt.none _ _ _ _ _,Y⟩
 have ev:¬(z:Int)≥281474976710656:=by omega
 have dv:=zH (show updS ⟨h,f,t⟩ p (A,k,n,tx)=if za4 f k=none/\256<=f.length then(za1,6)else
  if(updE ((za4 f k).getD zak) (A,k,n,tx) (p,z+1)).2=0 then(⟨setM h p (z+1),zcg f k (updE ((za4 f k).getD zak) (A,k,n,tx) (p,z+1)).1,t⟩,0)
  else(za1,(updE ((za4 f k).getD zak) (A,k,n,tx) (p,z+1)).2) by rw[b3.out,zN d1])
 have fx:=zH (show IntKind.u64.wrap ((z:Int)+1)=((z+1:Nat):Int) by rw[zca];omega);have dt:=znf k (ds.out.entries);simp only at dt;obtain⟨e,d0⟩:∃e,(za4 f k).getD zak=e:=⟨_,rfl⟩
 obtain⟨is,ew⟩:∃is,(za4 f k).isSome=is:=⟨_,rfl⟩
 rw[d0,ew]at dt;have HF:=zH dt;have fk:=zH d0;have ee:=zH ew;rw[d0]at dv;clear dt d0 ew;have ia:=cf.cell (j:=1) rfl;have jt:=ck.cell (j:=1) rfl;clear b3 d1;have jg:((z:Int)≥281474976710656)=False:=eq_false ev;have k3:z<281474976710656:=(by omega);clear ev;go_wp2_with fail;clear jg;refine HF.out.mono ?_;rintro r x⟨a1,a2,a3,rfl,eq,bh⟩;have jm:SmallE e:=(by rw[<- fk.out];exact zn8 (l:=f) b5.out.each k);obtain⟨dp,c1,dq,c2,dr,dw,rfl,rfl,rfl⟩:=eq.fm;have ci:=zaf x 46 (entL e (Xa dp e.seen.length c1) (Xa dq e.counts.length c2) (Xa dr e.items.length dw));have bx:=(Xi x).alloc (Xe (entL e (Xa dp e.seen.length c1) (Xa dq e.counts.length c2) (Xa dr e.items.length dw)).toArray 46);have bu:=bh.trans bx;have e3:=cd.trans bh;have gq:=cf.ext bh;have gt:=ck.ext bh;have jy:=b1.ext bh;have ih:=gq.cell (j:=1) rfl;have e2:=cd.trans bu;have cg:=cf.ext bu;have bk:=ck.ext bu;have d6:=b1.ext bu;have jq:=Qc gm bh.size;have ja:=ci.lt;have d9:=zH (ds.out.ext bu);have ei:=zH (zzw (A,k,n,tx) (p,z+1) (eq.ext bx) jm ga gb);have ib:=cg.cell (j:=1) rfl;have ju:=bk.cell (j:=1) rfl;clear cd cf b1 ck ds HF bh ia jt gm eq bu;have kq:w.heap.size<x.heap.size:=(by omega);have kw:w.heap.size+1<x.heap.size:=by omega
 by_cases be:za4 f k=none/\256<=f.length
 ·have M:=zH (show updS ⟨h,f,t⟩ p (A,k,n,tx)=(za1,6) by rw[dv.out,zP be]);have f9:(f.length:Int)≥256:=(by have:=be.2;omega);have jk:w.heap.size+1+1<x.heap.size:=(by omega);obtain rfl:is=false:=by rw[<- ee.out,be.1];rfl
  have kd:=(show RowIs x w.heap.size 26 [Xa V h.length aa,Xa W f.length ab,Xa X t.length ac] []from by have:=cg;unfold RowIs at this ⊢;rw[<- this];symm;exact bx.block _ (by omega)).cell (j:=1) rfl
  have fb:=(show RowIs x (w.heap.size+1+1) 26 [Xa none 0 0,Xa none 0 0,Xa none 0 0] []from by have:=d6;unfold RowIs at this ⊢;rw[<- this];symm;exact bx.block _ (by omega))
  obtain⟨r0,r1,ar⟩:=fb.p3;obtain⟨f0,f1,dx⟩:=fb.q3;have af:=zH e3;clear e3 e2 cg d6 bk d9 dv be bx ci fb ei;go_wp2_with fail
  (try simp only[Exit.inBlock,Exit.then])
  refine bodyPost_ret (v:=Xd #[stV (Xa none 0 0) (Xa none 0 0) (Xa none 0 0),I 6]) (by simp[results,Tryz.f36,go_sem,r0,r1,ar,jk]) rfl ?_;have Y:=(zbn (q:=w.heap.size+1+1) af.out (by omega) (Xa none 0 0) (Xa none 0 0) (Xa none 0 0)).alloc (Xe (entL e (Xa dp e.seen.length c1) (Xa dq e.counts.length c2) (Xa dr e.items.length dw)).toArray 46);refine⟨Xa none 0 0,Xa none 0 0,Xa none 0 0,by(rw[M.out];try rfl),?_⟩;rw[M.out];exact⟨StAt.none _ _ _ _ _,Y⟩
 have b4:=zH (show updS ⟨h,f,t⟩ p (A,k,n,tx)=if(updE e (A,k,n,tx) (p,z+1)).2=0 then(⟨setM h p (z+1),zcg f k (updE e (A,k,n,tx) (p,z+1)).1,t⟩,0)else(za1,(updE e (A,k,n,tx) (p,z+1)).2) by rw[dv.out,zN be]);obtain⟨e0,eo,bd,ep,ij,it,iu⟩:=ci.p7;have js:=bk.cell (j:=0) rfl;have jv:=bk.cell (j:=2) rfl;have jw:=bk.cell (j:=3) rfl;obtain⟨q,Y⟩:∃q,updE e (A,k,n,tx) (p,z+1)=q:=⟨_,rfl⟩
 have ej:=ei.out;rw[Y]at ej b4;have fw:=zH ej;obtain⟨d,err⟩:=q;clear ei ej Y;have jc:¬(w.heap.size=x.heap.size):=(by omega);have ji:¬(w.heap.size+1=x.heap.size):=(by omega);have jl:¬(w.heap.size+1+1=x.heap.size):=by omega
 have gf:(is=true/\∃m,za4 f k=some m) ∨ (is=false/\¬(f.length:Int)≥256/\za4 f k=none):=by
  have dy:=ee.out
  cases eu:za4 f k with
  | none=>rw[eu]at dy;exact .inr ⟨dy.symm,fun J=>be ⟨eu,by omega⟩,rfl⟩
  | some m=>rw[eu]at dy;exact .inl ⟨dy.symm,m,rfl⟩
 have eh:=zH gf;clear gf be ee fk;obtain⟨w0,w1,w2,j5⟩:=gt.p4;have jo:=fx.out;dsimp only;rename_i br b7 ek b6;have am:=zH b7;clear b7;refine b6 _ _ ?_;clear b6 ek;go_wp;refine am.out _ _ ?_;clear am br;refine wpH ?_;intro br am
 have f2:∀ ⦃co cp cq cr cs ct cu cv cw cx cy cz c0 c3 c5 c6 c8 c9 da db dc de df dg dh di dj dk dl dm dn:Xh⦄,br ⟨#[stV (Xa V h.length aa) (Xa W f.length ab) (Xa X t.length ac),St p,opV (A,k,n,tx),Xb (some ⟨w.heap.size,0,none⟩),Qa,Xb (some ⟨w.heap.size+1,0,none⟩),Xb (some ⟨w.heap.size+1+1,0,none⟩),I 0,U z,Xb (some ⟨x.heap.size,0,none⟩),Xc is,Qa,Qa,Qa,Qa,co,cp,cq,cr,cs,ct,cu,cv,cw,cx,cy,cz,c0,c3,c5,c6,c8,c9,da,db,dc,de,df,dg,dh,di,dj,dk,dl,dm,dn,Qa,Qa,Qa,Qa,Qa,Qa,Qa,Qa,Qa,Qa,Qa,Qa,Qa,Qa,Qa,Qa,Qa,Qa,Qa,Qa,Qa,Qa,Qa,Qa,Qa,Qa,Qa,Qa,Qa,Qa,Qa,Qa,Qa,Qa,Qa,Qa,Qa,Qa,Qa,Qa,Qa,Qa,Qa,Qa,Qa,Qa],[]⟩ (x.alloc (Xe (entL e (Xa dp e.seen.length c1) (Xa dq e.counts.length c2) (Xa dr e.items.length dw)).toArray 46)):=by
  intro co cp cq cr cs ct cu cv cw cx cy cz c0 c3 c5 c6 c8 c9 da db dc de df dg dh di dj dk dl dm dn;refine am.out _ _ ?_;clear am br;go_wp2_with fail;refine fw.out.mono ?_;rintro r L⟨j6,j7,lp,rfl,dz,az⟩;rename_i br b7 ek b6;have am:=zH b7;clear b7;simp only at dz ⊢;obtain⟨B,F,C,G,D,H,rfl,rfl,rfl⟩:=dz.fm;have kz:=az.size;have gp:=cg.ext az;have gs:=bk.ext az;have gu:=d6.ext az;have d4:=ci.ext az;have ai:=zgw L x.heap.size d (Xa B d.seen.length F) (Xa C d.counts.length G) (Xa D d.items.length H);have et:L.heap.size<=(put7 L x.heap.size d (Xa B d.seen.length F) (Xa C d.counts.length G) (Xa D d.items.length H)).heap.size/\(put7 L x.heap.size d (Xa B d.seen.length F) (Xa C d.counts.length G) (Xa D d.items.length H)).heap.size<=L.heap.size:=(by have:=zp6 L x.heap.size d (Xa B d.seen.length F) (Xa C d.counts.length G) (Xa D d.items.length H);omega);have ch:RowIs (put7 L x.heap.size d (Xa B d.seen.length F) (Xa C d.counts.length G) (Xa D d.items.length H)) _ _ _ _:=gp.keep (ai _ jc);have b0:RowIs (put7 L x.heap.size d (Xa B d.seen.length F) (Xa C d.counts.length G) (Xa D d.items.length H)) _ _ _ _:=gs.keep (ai _ ji);have a5:RowIs (put7 L x.heap.size d (Xa B d.seen.length F) (Xa C d.counts.length G) (Xa D d.items.length H)) _ _ _ _:=gu.keep (ai _ jl);have bz:RowIs (put7 L x.heap.size d (Xa B d.seen.length F) (Xa C d.counts.length G) (Xa D d.items.length H)) _ _ _ _:=zrz (e:=d) (v1:=Xa B d.seen.length F) (v2:=Xa C d.counts.length G) (v3:=Xa D d.items.length H) d4;have bi:Ext w (put7 L x.heap.size d (Xa B d.seen.length F) (Xa C d.counts.length G) (Xa D d.items.length H)):=zeb (e2.trans az) (by omega) d _ _ _;have kn:x.heap.size<L.heap.size:=(by omega);have eb:Hid (EntAt (put7 L x.heap.size d (Xa B d.seen.length F) (Xa C d.counts.length G) (Xa D d.items.length H)) (fun b=>x.heap.size<b/\b<L.heap.size) d _ _ _):=zH ((dz.mono (S':=fun b=>x.heap.size<b/\b<L.heap.size) (fun b hb J=>⟨by omega,hb⟩)).keep fun b hb _=>ai b (by omega));have ea:Hid (StAt (put7 L x.heap.size d (Xa B d.seen.length F) (Xa C d.counts.length G) (Xa D d.items.length H)) (fun b=>b<w.heap.size) ⟨h,f,t⟩ _ _ _):=zH ((d9.out.ext az).keep fun b hb _=>ai b (by omega));obtain⟨ik,il,im,io,ip,iq,ir⟩:=d4.p7;obtain⟨iv,iw,ix,iy,iz,i0,i1⟩:=d4.q7;have fs:=zH (show _/\_/\_/\_/\_/\_ from⟨ch,b0,a5,bz,bi,et⟩);clear dz az ai fw gp d4 gs gu ch b0 a5 bz bi et cg bk d6 ci gq gt jy e2 d9 e3 bx jq ja;clear e0 eo bd ep ij it iu js jv jw ju ib w0 w1 w2 j5 ih jo
  refine b6 _ _ ?_;clear b6 ek;go_wp;refine am.out _ (put7 L x.heap.size d (Xa B d.seen.length F) (Xa C d.counts.length G) (Xa D d.items.length H)) ?_;clear am br ik il im io ip iq ir iv iw ix iy iz i0 i1;generalize (put7 L x.heap.size d (Xa B d.seen.length F) (Xa C d.counts.length G) (Xa D d.items.length H))=av at *;obtain⟨ch,b0,a5,bz,bi,et⟩:=fs.out;clear fs;obtain⟨ic,ie,ig⟩:=ch.p3
  by_cases f8:err=0
  ·subst f8;have M:=zH (show updS ⟨h,f,t⟩ p (A,k,n,tx)=(⟨setM h p (z+1),zcg f k d,t⟩,0)from b4.out);have fj:=zH (zjx ea.out b5.out);clear b4;refine wpH ?_;intro h5 fn;go_wp;refine fn.out _ _ ?_;clear fn h5;refine wpH ?_;intro h6 fo;go_wp;refine fj.out.mono ?_;rintro r y⟨fg,fh,fi,rfl,aj,e4⟩;obtain⟨ak,aq,ad,Z,Q,R,rfl,rfl,rfl⟩:=aj.fm;clear fj ic ie ig;have k0:=e4.size;have d7:=zaf y 26 [Xa ak h.length aq,Xa ad f.length Z,Xa Q t.length R];have bw:=(Xi y).alloc (Xe #[Xa ak h.length aq,Xa ad f.length Z,Xa Q t.length R] 26);have kv:w.heap.size+1<y.heap.size:=(by omega);have bv:=e4.trans bw;have jx:=(b0.ext bv).cell (j:=1) rfl;have j2:=d7.cell (j:=1) rfl;have gr:=bz.ext bv;have gv:=a5.ext bv;have gi:=bi.trans bv;have bn:=zH (eb.out.ext bv);have du:=zH ((aj.at.mono (S':=fun b=>av.heap.size<=b/\b<y.heap.size) (fun b hb J=>⟨J,hb⟩)).ext bw);have bo:=zH (OwnL.ext (OwnL.mono aj.entries (S':=fun b=>(av.heap.size<=b/\¬zad (Xa ad f.length Z) b)/\b<y.heap.size) (fun b hb J=>⟨J,hb⟩)) bw);have an:∀b,zad (Xa ad f.length Z) b->av.heap.size<=b/\b<y.heap.size:=fun b hb=>aj.entries.base_le hb
   have fv:=zH (zm4 k du.out.entries e1.out (Qc b5.out.entries (by decide)));have ko:=d7.lt
   have ae:=zH (show Own (y.alloc (Xe #[Xa ak h.length aq,Xa ad f.length Z,Xa Q t.length R] 26)) av.heap.size 97 2 (Xa ak h.length aq) h.length (h.flatMap zaj)/\Own (y.alloc (Xe #[Xa ak h.length aq,Xa ad f.length Z,Xa Q t.length R] 26)) av.heap.size 9 1 (Xa Q t.length R) t.length (t.flatMap strC)/\(∀b,zad (Xa ak h.length aq) b->¬zad (Xa ad f.length Z) b)/\(∀b,zad (Xa Q t.length R) b->¬zad (Xa ad f.length Z) b)from by obtain⟨ln,gc⟩:=aj.entries.own;exact⟨aj.all.ext bw,aj.pruned.ext bw,aj.all.apart2 gc (by decide),aj.pruned.apart2 gc (by decide)⟩)
   clear aj e4 bw bv bz a5 bi eb ea b0;rename_i K hK;refine hK _ _ ?_;clear hK K;go_wp;refine fo.out _ _ ?_;clear fo h6;generalize y.alloc (Xe #[Xa ak h.length aq,Xa ad f.length Z,Xa Q t.length R] 26)=kb at *;refine wpH ?_;intro h7 fp;go_wp;refine fv.out.mono ?_;rintro r T⟨i,k4,rfl,hF,O⟩;have a7:=d7.ext O;have cj:=gr.ext O;have cm:=gv.ext O;have ce:=gi.trans O;have k1:=O.size;clear d7 gr gv gi fv jx j2;rename_i K hK;refine hK _ _ ?_;clear hK K;go_wp;refine fp.out _ _ ?_;clear fp h7;refine wpH ?_;intro fz ef
   have f3:∀ ⦃gy gz co cp cq cr cs ct cu cv cw cx cy cz c0 c3 c5 c6 c8 c9 da db dc de df dg dh di dj dk dl dm dn g0 g1 g2 g3 g4 g5 g6 g7 g8 g9 ha hc hd he hf hg hh hi hj hk hl hm hn ho hp hq hr hs ht hu hv hw hx hy hz h0 h2 h3:Xh⦄ (a9:Option Addr) (bj bb:Nat) (P:Xg),RowIs P y.heap.size 26 [Xa ak h.length aq,Xa a9 bj bb,Xa Q t.length R] []->RowIs P (w.heap.size+1+1) 26 [Xa none 0 0,Xa none 0 0,Xa none 0 0] []->Own P av.heap.size 97 2 (Xa ak h.length aq) h.length (h.flatMap zaj)->Own P av.heap.size 9 1 (Xa Q t.length R) t.length (t.flatMap strC)->Sl entryT P (fun b=>x.heap.size<b/\b≠y.heap.size) (Xa a9 bj bb) (zcg f k d)->Ext w P->fz ⟨#[stV (Xa V h.length aa) (Xa W f.length ab) (Xa X t.length ac),St p,opV (A,k,n,tx),Xb (some ⟨w.heap.size,0,none⟩),Qa,Xb (some ⟨w.heap.size+1,0,none⟩),Xb (some ⟨w.heap.size+1+1,0,none⟩),I 0,U z,Xb (some ⟨x.heap.size,0,none⟩),Xc is,I 0,Xb (some ⟨y.heap.size,0,none⟩),gy,gz,co,cp,cq,cr,cs,ct,cu,cv,cw,cx,cy,cz,c0,c3,c5,c6,c8,c9,da,db,dc,de,df,dg,dh,di,dj,dk,dl,dm,dn,g0,g1,g2,g3,g4,g5,g6,g7,g8,g9,ha,hc,hd,he,hf,hg,hh,hi,hj,hk,hl,hm,hn,ho,hp,hq,hr,hs,ht,hu,hv,hw,hx,hy,hz,h0,h2,h3,Qa,Qa,Qa,Qa,Qa,Qa,Qa,Qa],[]⟩ P:=by
    intro gy gz co cp cq cr cs ct cu cv cw cx cy cz c0 c3 c5 c6 c8 c9 da db dc de df dg dh di dj dk dl dm dn g0 g1 g2 g3 g4 g5 g6 g7 g8 g9 ha hc hd he hf hg hh hi hj hk hl hm hn ho hp hq hr hs ht hu hv hw hx hy hz h0 h2 h3 a9 bj bb P ag a6 aw ao f7 a0;have al:=zH f7;have fu:=zH (zj9 p (z+1) (zbb aw) (Qc b5.out.all (by decide)));have gn:=ag.lt;clear f7 bo bn du a7 cj cm ce O ae hF eh;refine ef.out _ _ ?_;clear ef fz;have j3:=ag.cell (j:=0) rfl;have jp:=fx.out;refine wpH ?_;intro h8 fq;go_wp;clear j3 jp;refine fu.out.mono ?_;rintro r f4⟨u,rfl,N,ay⟩;obtain⟨au,a8,rfl,-,-⟩:=N.form;have ky:=ay.size;have cn:=ag.ext ay;have d5:=a6.ext ay;obtain⟨lo,j6,j7⟩:=cn.p3;have lq:=cn.frozen 0;have fd:=cn.set (j:=0) (by simp) (Xa au (setM h p (z+1)).length a8);simp only[Qp]at fd;obtain⟨lr,ls,lu⟩:=fd.p3;obtain⟨jz,j0,j1⟩:=d5.p3;obtain⟨kk,kl,km⟩:=d5.q3;have fa:=d5.other (p:=⟨y.heap.size,0,none⟩) (by simp;omega) (Xa au (setM h p (z+1)).length a8);obtain⟨r0,r1,ar⟩:=fa.p3;obtain⟨f0,f1,dx⟩:=fa.q3;have af:=zH ((a0.trans ay).set (p:=⟨y.heap.size,0,none⟩) (by simp;omega) (Xa au (setM h p (z+1)).length a8));have bp:=zH N;have h4:=zH (al.out.ext (by decide) ay);have fr:=zH (ao.ext ay);have jb:∀b,zad (Xa Q t.length R) b->b≠y.heap.size:=fun b hb e=>(ao.ext ay).apart cn (by decide) (by rw[<- e];exact hb)
    clear N ag a6 cn d5 fd fa a0 ay fu al aw ao;rename_i K hK;refine hK _ _ ?_;clear hK K;go_wp;refine fq.out _ _ ?_;clear fq h8;go_wp2_with fail
    (try simp only[Exit.inBlock,Exit.then])
    refine bodyPost_ret (v:=Xd #[stV (Xa au (setM h p (z+1)).length a8) (Xa a9 bj bb) (Xa Q t.length R),I 0]) (by simp[results,Tryz.f36,go_sem,r0,r1,ar,jz,j0,j1]) rfl ?_;have Y:=zbn (q:=w.heap.size+1+1) af.out (by omega) (Xa au (setM h p (z+1)).length a8) (Xa a9 bj bb) (Xa Q t.length R);refine⟨(Xa au (setM h p (z+1)).length a8),(Xa a9 bj bb),Xa Q t.length R,by(rw[M.out];try rfl),?_⟩;rw[M.out];refine⟨?_,Y⟩;have ai:∀b,b≠y.heap.size->b≠w.heap.size+1+1->(put3 (f4.setCell ⟨y.heap.size,0,none⟩ (Xa au (setM h p (z+1)).length a8)) (w.heap.size+1+1) (Xa au (setM h p (z+1)).length a8) (Xa a9 bj bb) (Xa Q t.length R)).heap[b]? = f4.heap[b]?:=fun b h1 i9=>(zda _ _ _ _ _ b i9).trans (Qb _ _ _ _ h1)
    refine⟨?_,?_,?_⟩
    ·exact(zbb (bp.out.keep fun b hb _=>ai b (by have:=(bp.out.base_le hb).1;omega) (by have:=(bp.out.base_le hb).1;omega))).mono (by decide) fun b _ J=>by omega
    ·exact(h4.out.keep (by decide) fun b hb _=>ai b (by omega) (by omega)).mono (by decide) fun b _ hb=>by omega
    exact((OwnL.flat_iff (S:=fun b=>av.heap.size<=b)).2 (fr.out.keep fun b hb _=>ai b (jb b hb) (by have:=(fr.out.base_le hb).1;omega))).sl (by decide) (fun b _ J=>by omega) (fun b J _=>by omega)
   clear ef;rcases eh.out with⟨rfl,jr,cc⟩|⟨rfl,f9,cc⟩
   ·obtain⟨b9,cb⟩:=zx2 (e:=d) e1.out hF cc;obtain⟨g,ii,X1,X2,lm,ke,kf,kg,kh,c4,ki,kj,ge,je,ah,f6,b8⟩:=zz0 (S:=fun b=>x.heap.size<b/\b<L.heap.size) (Sx:=fun b=>x.heap.size<b/\b<y.heap.size) (OwnL.ext bo.out O) b9 (bn.out.ext O) (fun b hb=>⟨fun N=>by have:=an b N;omega,by omega⟩) (fun b hb=>⟨hb.1.2,by have:=hb.1.1;have:=hb.2;omega⟩) (fun b hb=>by have:=an b hb;omega);obtain⟨eo,bd⟩:ad=some ⟨g,0,none⟩/\Z=ii:=by injection ge with a b c;exact⟨a,c⟩
    subst eo;subst bd;clear ge;have ey:0<Z:=by obtain⟨_,c,e,h1,_⟩:=bo.out.form;injection e with _ _ ep;subst ep;exact Yb (Vg (Ys i) b9) h1
    have jd:=an g ⟨g,_,_,rfl,ey,rfl⟩;obtain⟨k5,k6,k7,k8,k9,la,lb⟩:=zn9 ah f6;have lc:=ah.frozen (i * 7);have ld:=ah.frozen (i * 7+1);have le:=ah.frozen (i * 7+2);have lf:=ah.frozen (i * 7+3);have lg:=ah.frozen (i * 7+4);have lh:=ah.frozen (i * 7+5);have li:=ah.frozen (i * 7+6);have ks:(i:Int)<(f.length:Int):=(by omega);have s1:=a7.cell (j:=1) rfl;have s0:=a7.cell (j:=0) rfl;obtain⟨i2,i3,i4,i5,i6,i7,i8⟩:=cj.p7;have jf:¬(y.heap.size=g):=(by omega);have kr:¬(g=y.heap.size):=(by omega);have bs:∀b,b≠g->(((((((T.setCell ⟨g,i * 7,none⟩ (St d.key)).setCell ⟨g,i * 7+1,none⟩ (Xa B d.seen.length F)).setCell ⟨g,i * 7+2,none⟩ (Xa C d.counts.length G)).setCell ⟨g,i * 7+3,none⟩ (Xa D d.items.length H)).setCell ⟨g,i * 7+4,none⟩ (U d.cell.1)).setCell ⟨g,i * 7+5,none⟩ (St d.cell.2.1)).setCell ⟨g,i * 7+6,none⟩ (Xc d.cell.2.2)).heap[b]? = T.heap[b]?:=fun b hb=>((((((Qb _ _ _ b hb).trans (Qb _ _ _ b hb)).trans (Qb _ _ _ b hb)).trans (Qb _ _ _ b hb)).trans (Qb _ _ _ b hb)).trans (Qb _ _ _ b hb)).trans (Qb _ _ _ b hb)
    have al:=zH (b8 (((((((T.setCell ⟨g,i * 7,none⟩ (St d.key)).setCell ⟨g,i * 7+1,none⟩ (Xa B d.seen.length F)).setCell ⟨g,i * 7+2,none⟩ (Xa C d.counts.length G)).setCell ⟨g,i * 7+3,none⟩ (Xa D d.items.length H)).setCell ⟨g,i * 7+4,none⟩ (U d.cell.1)).setCell ⟨g,i * 7+5,none⟩ (St d.cell.2.1)).setCell ⟨g,i * 7+6,none⟩ (Xc d.cell.2.2)) (RowIs.set7 ah f6 _ _ _ _ _ _ _) (fun b hb _=>bs b hb));have ag:RowIs (((((((T.setCell ⟨g,i * 7,none⟩ (St d.key)).setCell ⟨g,i * 7+1,none⟩ (Xa B d.seen.length F)).setCell ⟨g,i * 7+2,none⟩ (Xa C d.counts.length G)).setCell ⟨g,i * 7+3,none⟩ (Xa D d.items.length H)).setCell ⟨g,i * 7+4,none⟩ (U d.cell.1)).setCell ⟨g,i * 7+5,none⟩ (St d.cell.2.1)).setCell ⟨g,i * 7+6,none⟩ (Xc d.cell.2.2)) _ _ _ _:=a7.keep (bs _ jf);have a6:RowIs (((((((T.setCell ⟨g,i * 7,none⟩ (St d.key)).setCell ⟨g,i * 7+1,none⟩ (Xa B d.seen.length F)).setCell ⟨g,i * 7+2,none⟩ (Xa C d.counts.length G)).setCell ⟨g,i * 7+3,none⟩ (Xa D d.items.length H)).setCell ⟨g,i * 7+4,none⟩ (U d.cell.1)).setCell ⟨g,i * 7+5,none⟩ (St d.cell.2.1)).setCell ⟨g,i * 7+6,none⟩ (Xc d.cell.2.2)) _ _ _ _:=cm.keep (bs _ (by omega));rw[cb]at al;have aw:=(ae.out.1.ext O).keep (w':=(((((((T.setCell ⟨g,i * 7,none⟩ (St d.key)).setCell ⟨g,i * 7+1,none⟩ (Xa B d.seen.length F)).setCell ⟨g,i * 7+2,none⟩ (Xa C d.counts.length G)).setCell ⟨g,i * 7+3,none⟩ (Xa D d.items.length H)).setCell ⟨g,i * 7+4,none⟩ (U d.cell.1)).setCell ⟨g,i * 7+5,none⟩ (St d.cell.2.1)).setCell ⟨g,i * 7+6,none⟩ (Xc d.cell.2.2))) fun b hb _=>bs b (fun e=>by subst e;exact ae.out.2.2.1 _ hb ⟨_,_,_,rfl,ey,rfl⟩)
    have ao:=(ae.out.2.1.ext O).keep (w':=(((((((T.setCell ⟨g,i * 7,none⟩ (St d.key)).setCell ⟨g,i * 7+1,none⟩ (Xa B d.seen.length F)).setCell ⟨g,i * 7+2,none⟩ (Xa C d.counts.length G)).setCell ⟨g,i * 7+3,none⟩ (Xa D d.items.length H)).setCell ⟨g,i * 7+4,none⟩ (U d.cell.1)).setCell ⟨g,i * 7+5,none⟩ (St d.cell.2.1)).setCell ⟨g,i * 7+6,none⟩ (Xc d.cell.2.2))) fun b hb _=>bs b (fun e=>by subst e;exact ae.out.2.2.2 _ hb ⟨_,_,_,rfl,ey,rfl⟩)
    have a0:Ext w (((((((T.setCell ⟨g,i * 7,none⟩ (St d.key)).setCell ⟨g,i * 7+1,none⟩ (Xa B d.seen.length F)).setCell ⟨g,i * 7+2,none⟩ (Xa C d.counts.length G)).setCell ⟨g,i * 7+3,none⟩ (Xa D d.items.length H)).setCell ⟨g,i * 7+4,none⟩ (U d.cell.1)).setCell ⟨g,i * 7+5,none⟩ (St d.cell.2.1)).setCell ⟨g,i * 7+6,none⟩ (Xc d.cell.2.2)):=((((((ce.set (p:=⟨g,i * 7,none⟩) (by simp;omega) _).set (p:=⟨g,i * 7+1,none⟩) (by simp;omega) _).set (p:=⟨g,i * 7+2,none⟩) (by simp;omega) _).set (p:=⟨g,i * 7+3,none⟩) (by simp;omega) _).set (p:=⟨g,i * 7+4,none⟩) (by simp;omega) _).set (p:=⟨g,i * 7+5,none⟩) (by simp;omega) _).set (p:=⟨g,i * 7+6,none⟩) (by simp;omega) _;have gn:(((((((T.setCell ⟨g,i * 7,none⟩ (St d.key)).setCell ⟨g,i * 7+1,none⟩ (Xa B d.seen.length F)).setCell ⟨g,i * 7+2,none⟩ (Xa C d.counts.length G)).setCell ⟨g,i * 7+3,none⟩ (Xa D d.items.length H)).setCell ⟨g,i * 7+4,none⟩ (U d.cell.1)).setCell ⟨g,i * 7+5,none⟩ (St d.cell.2.1)).setCell ⟨g,i * 7+6,none⟩ (Xc d.cell.2.2)).heap.size=T.heap.size:=(by simp only[Ya]);have ed:=zH (show _/\_/\_/\_/\_/\_ from⟨ag,a6,aw,ao,al.out.mono (S':=fun b=>x.heap.size<b/\b≠y.heap.size) (by decide) (fun b _ J=>⟨J.1,Nat.ne_of_lt J.2⟩),a0⟩);clear bo bn du b8 ah bs a7 cj cm ce O ae jd je hF cb ag a6 aw ao al a0;go_wp;obtain⟨a1,a2,a3,el,em,en⟩:=ed.out;exact f3 _ _ _ _ a1 a2 a3 el em en
   obtain⟨b9,cb⟩:=yba (e:=d) e1.out hF cc;have a4:=(Xi T).alloc (Xe (entL d (Xa B d.seen.length F) (Xa C d.counts.length G) (Xa D d.items.length H)).toArray 46);have gx:=zaf T 46 (entL d (Xa B d.seen.length F) (Xa C d.counts.length G) (Xa D d.items.length H));have kp:=gx.lt;obtain⟨xs,gd,jj,b8⟩:=zs4 (S:=fun b=>x.heap.size<b/\b<L.heap.size) (Sx:=fun b=>x.heap.size<b/\b≠y.heap.size) (OwnL.ext bo.out (O.trans a4)) b9 (bn.out.ext (O.trans a4)) (fun b hb=>⟨fun N=>by have:=an b N;omega,by omega,by omega⟩) (fun b hb=>⟨hb.1.2,by have:=hb.1.1;have:=hb.2;omega,by have:=hb.2;omega⟩) (fun b hb=>by have:=an b hb;omega) (by omega);have jh:=zgm ((bn.out.ext (O.trans a4)).rd (S':=fun _=>True) (fun _ _ _=>trivial));have fl:=zH (zs3 gd gx rfl jh jj b9 b5.out.entries (by omega) (fun N=>by have:=an _ N;omega));obtain⟨i2,i3,i4,i5,i6,i7,i8⟩:=cj.p7;have s1:=a7.cell (j:=1) rfl;have jn:∀b,zad (Xa ad f.length Z) b->b≠y.heap.size:=fun b hb=>by have:=an b hb;omega
   have fe:=a7.ext a4;have fc:=cm.ext a4;have gg:=ce.trans a4;have eg:=zH ((⟨ae.out.1.ext (O.trans a4),ae.out.2.1.ext (O.trans a4)⟩:_/\_));clear bo bn du cj cm ce a7 hF;go_wp;generalize T.alloc (Xe (entL d (Xa B d.seen.length F) (Xa C d.counts.length G) (Xa D d.items.length H)).toArray 46)=kc at *;refine fl.out.mono ?_;rintro r P⟨j4,rfl,ez,ax⟩;have ec:=b8 P j4 ez ax;rw[cb]at ec;have kt:(zcg f k d).length=f.length+1:=(by rw[<- cb];simp;omega);obtain⟨ba,bc,rfl,-,-⟩:=ez.form;have bm:=fe.keep (ax.same _ fe.lt (fun N=>jn _ N rfl));have gw:=fc.keep (ax.same _ fc.lt (fun N=>by have:=an _ N;omega));have er:=eg.out.1.keep fun b hb ex=>ax.same b ex (fun N=>ae.out.2.2.1 b hb N)
   have es:=eg.out.2.keep fun b hb ex=>ax.same b ex (fun N=>ae.out.2.2.2 b hb N)
   have gh:=gg.grew ax (fun b hb=>by have:=an b hb;omega);have lj:=bm.cell (j:=0) rfl;have lk:=bm.cell (j:=1) rfl;have ll:=bm.frozen 1;have ag:=bm.set (j:=1) (by simp) (Xa ba (f.length+1) bc);simp only[Yc,Qp]at ag;have a6:=gw.other (p:=⟨y.heap.size,1,none⟩) (by simp;omega) (Xa ba (f.length+1) bc);have aw:=er.keep (w':=P.setCell ⟨y.heap.size,1,none⟩ (Xa ba (f.length+1) bc)) fun b hb _=>Qb _ _ _ _ (fun e=>er.apart bm (by decide) (by have bd:b=y.heap.size:=e;rw[<- bd];exact hb))
   have ao:=es.keep (w':=P.setCell ⟨y.heap.size,1,none⟩ (Xa ba (f.length+1) bc)) fun b hb _=>Qb _ _ _ _ (fun e=>es.apart bm (by decide) (by have bd:b=y.heap.size:=e;rw[<- bd];exact hb))
   have al:=zH (ec.keep (w':=P.setCell ⟨y.heap.size,1,none⟩ (Xa ba (f.length+1) bc)) (by decide) fun b hb _=>Qb _ _ _ _ (fun e=>hb.2 e));have a0:=gh.set (p:=⟨y.heap.size,1,none⟩) (by simp;omega) (Xa ba (f.length+1) bc);have gn:(P.setCell ⟨y.heap.size,1,none⟩ (Xa ba (f.length+1) bc)).heap.size=P.heap.size:=Ya _ _ _;have k2:=ax.size;have ed:=zH (show _/\_/\_/\_/\_/\_ from⟨ag,a6,aw,ao,al.out,a0⟩);clear fe fc gg er es gh ec ez ax b8 gd fl bm gw O ae eg ag a6 aw ao al a0;rename_i K hK;refine hK _ _ ?_;clear hK K;go_wp;obtain⟨a1,a2,a3,el,em,en⟩:=ed.out;exact f3 _ _ _ _ a1 a2 a3 el em en
  have M:=zH (show updS ⟨h,f,t⟩ p (A,k,n,tx)=(za1,err) by rw[b4.out];exact zN f8);have ku:((err:Int)==0)=false:=neI (by omega);obtain⟨r0,r1,ar⟩:=a5.p3;obtain⟨f0,f1,dx⟩:=a5.q3;have af:=zH bi;clear bi ch a5 b0 bz eb ea b4;go_wp2_with fail
  (try simp only[Exit.inBlock,Exit.then])
  refine bodyPost_ret (v:=Xd #[stV (Xa none 0 0) (Xa none 0 0) (Xa none 0 0),I err]) (by simp[results,Tryz.f36,go_sem,r0,r1,ar]) rfl ?_;have Y:=zbn (q:=w.heap.size+1+1) af.out (by omega) (Xa none 0 0) (Xa none 0 0) (Xa none 0 0);refine⟨Xa none 0 0,Xa none 0 0,Xa none 0 0,by(rw[M.out];try rfl),?_⟩;rw[M.out];exact⟨StAt.none _ _ _ _ _,Y⟩
 clear am;rcases eh.out with⟨rfl,jr,cc⟩|⟨rfl,f9,cc⟩
 ·go_wp2_with fail
  apply f2
 go_wp2_with fail
 apply f2
end
section
end
section
open Go.RowKit Go.Shelf
end
section
open Go.RowKit
theorem LimS.mono {n m:Nat}{s:State}(d:LimS n s)(f:n<=m):LimS m s:=⟨Qc d.all f,Qc d.entries f,Qc d.pruned f,fun e h=>(d.each e h).mono f⟩
structure DoesOk (E:List Ev) (n:Nat) (rs:List Rep) (V:Vec) (d:Deed):Prop where
 len:rs.length=n
 few:n<=4
 most:E.length<200
 kn:∀(k:Nat) (r:Rep),rs[k]? = some r->r.knew.length=E.length
 lim:∀r:Rep,rs[d.n % n]? = some r ∨ rs[d.other % n]? = some r->LimS 402 r.s
 upd:¬ 3<=d.do_ % 5->∀r:Rep,rs[d.n % n]? = some r->(updS r.s (zac (d.n % n)) (opD d,keyD d,d.by_,txD d)).2=0/\r.knew=E.map (zao V)
 app:3<=d.do_ % 5->∀r q:Rep,rs[d.n % n]? = some r->rs[d.other % n]? = some q->r.asked.length<=402/\zhe r.s (za0 r.asked []) (zic q.s r.asked)=(zb9 r.s q.s,0)
def updV (E:List Ev)(V:Vec)(rs:List Rep)(k:Nat)(key:Str)(o:Nat)(n:Int)(tx:Str):List Ev×List Rep :=
 match rs[k]? with
 | some r=>(E++[newE E V key n o tx (zac k)],(rs.mapIdx fun i q=>if i=k then { q with s:=(updS r.s (zac k) (o,key,n,tx)).1,knew:=q.knew++[true] } else { q with knew:=q.knew++[false] }))
 | none=>(E,rs)
def askI (rs:List Rep)(d:Deed):List Rep:=if d.asks then askR rs (d.n % rs.length)else rs
def yg3 (E:List Ev)(V:Vec)(rs:List Rep)(d:Deed):List Ev×List Rep :=
 if 3<=d.do_ % 5 then(E,zmi (askI rs d) (d.n % rs.length) (d.other % rs.length))else updV E V (askI rs d) (d.n % rs.length) (keyD d) (opD d) d.by_ (txD d)
theorem yj6 {rs:List Rep}{k:Nat}{h:Rep}(d:rs[k]? = some h)(i:Nat):(askR rs k)[i]? = (rs[i]?).map fun r=>if i=k then { r with asked:=r.s.all } else r:=by
 unfold askR;rw[d];simp only;rw[Yg]
 by_cases e:k=i
 ·subst e;have f:=(Qd.1 d).1;rw[zP rfl,zP f,d];simp
 rw[zN e]
 cases rs[i]? with
 | none=>rfl
 | some r=>simp[Ne.symm e]
theorem yha {rs:List Rep}{k o:Nat}{l f:Rep}(d:rs[k]? = some l)(h:rs[o]? = some f)(i:Nat):(zmi rs k o)[i]? = (rs[i]?).map fun r=>if i=k then { r with s:=zb9 r.s f.s,knew:=orL r.knew f.knew } else r:=by
 unfold zmi;rw[d,h];simp only;rw[Yg]
 by_cases e:k=i
 ·subst e;have j:=(Qd.1 d).1;rw[zP rfl,zP j,d];simp
 rw[zN e]
 cases rs[i]? with
 | none=>rfl
 | some r=>simp[Ne.symm e]
theorem yhg {E:List Ev}{V:Vec}{rs:List Rep}{k:Nat}{d:Rep}(e:rs[k]? = some d){key tx:Str}{o:Nat}{n:Int}(i:Nat):(updV E V rs k key o n tx).2[i]? = (rs[i]?).map fun q=>if i=k then { q with s:=(updS d.s (zac k) (o,key,n,tx)).1,knew:=q.knew++[true] } else { q with knew:=q.knew++[false] }:=by
 unfold updV;rw[e];simp only;rw[List.getElem?_mapIdx]
theorem yi8 {E:List Ev}{rs:List Rep}{k:Nat}{d:Rep}(e:rs[k]? = some d)(key tx:Str)(o:Nat)(n:Int):updR E rs k key o n tx=updV E (vecS d.s) rs k key o n tx:=by
 unfold updR updV;rw[e]
theorem ykl {rs:List Rep}{d:Deed}{i:Nat}{r:Rep}(h:rs[i]? = some r)(hk:d.n % rs.length<rs.length):(askI rs d)[i]? = some (if d.asks=true/\i=d.n % rs.length then { r with asked:=r.s.all } else r):=by
 unfold askI
 by_cases ha:d.asks=true
 ·rw[zP ha,yj6 (Qg hk),h];simp[ha]
 rw[zN ha,h,zN fun k=>ha k.1]
theorem yj7 (rs:List Rep)(d:Deed):(askI rs d).length=rs.length:=by
 unfold askI
 split
 ·exact yj5 _ _
 rfl
theorem RepsOk.doesOk {E:List Ev}{n:Nat}{rs:List Rep}(j:RepsOk E n rs)(u:0<n)(t:E.length<200){d:Deed}(v:DeedOk d){h:Rep}(hk:rs[d.n % n]? = some h):DoesOk E n (askI rs d) (vecS h.s) d/\zit E rs d=yg3 E (vecS h.s) rs d:=by
 have l:=j.len;have x:d.n % rs.length<rs.length:=by rw[l];exact Vp _ u
 have h1:RepsOk E n (askI rs d):=by unfold askI;exact j.asks _ _
 have lim:∀(i:Nat) (r:Rep),(askI rs d)[i]? = some r->LimS 402 r.s:=fun i r f=>by have:=(h1.each i r f).is.lim h1.hist ((h1.each i r f).vec h1.few h1.hist.most);exact this.mono (by decide)
 have p:(askI rs d)[d.n % n]? = some (if d.asks=true/\d.n % n=d.n % rs.length then { h with asked:=h.s.all } else h):=ykl hk x
 have y:∀r,(askI rs d)[d.n % n]? = some r->r.s=h.s/\r.knew=h.knew:=fun r f=>by
  rw[p]at f;rw[<- Yn f]
  split<;>exact⟨rfl,rfl⟩
 refine⟨⟨by rw[yj7,l],j.few,t,fun i r f=>?_,fun r f=>?_,fun _ r f=>⟨?_,?_⟩,fun _ r q f z=>⟨?_,h1.apply f z⟩⟩,?_⟩
 ·rw[(h1.each i r f).knew,Qj]
 ·rcases f with f|f<;>exact lim _ r f
 ·obtain⟨⟨D,m,o⟩,-⟩:=h1.upd (k:=d.n % n) (Vp _ u) t (zry v);rw[f]at m;rw[Yn m];exact o
 ·obtain⟨m,o⟩:=y r f;rw[o,(j.each _ h hk).knew]
 ·have g:=h1.each _ r f;have A:=zd3 g.askedG (ps:=zf9 n) fun s C=>g.paths s (by have:=g.asked s;omega)
  have B:(zf9 n).length=n:=by simp[zf9]
  have:=j.few;omega
 unfold zit yg3
 split
 ·rfl
 have e:(askI rs d)[d.n % rs.length]? = some (if d.asks=true/\d.n % n=d.n % rs.length then { h with asked:=h.s.all } else h):=by rw[l];rw[l]at p;exact p
 show updR E (askI rs d) _ _ _ _ _=_
 rw[yi8 e]
 congr 1
 split<;>rfl
end
section
open Go.RowKit Go.Shelf
def zc3 (all:List Mark)(p:PrD):Bool:=decide (ofM all p.1=p.2.1)&&decide (p.2.2.2+p.2.1<=ofM all p.2.2.1)
theorem zk6 {S:Nat->Prop}{s:State}{a1 a2 a3:Xh}{w:Xg}(p:PrD)(ae:mayP p=true)(Z:StAt w S s a1 a2 a3) :
  Calls Tryz.prog 13 #[stV a1 a2 a3,prV p] w fun e w'=>e=Xf (Xc (zc3 s.all p))/\Ext w w':=by
 obtain⟨m,K,L⟩:=s;obtain⟨b,c,o,n⟩:=p
 have ah:n+c<=281474976710656:=by simp only[mayP,Qf,decide_eq_true_eq]at ae;omega
 obtain⟨y,z,G,I,H,J,rfl,rfl,rfl⟩:=Z.fm;have V:=zH Z;have O:=zH (show Ext w ((w.alloc (Xe #[Xa y m.length z,Xa G K.length I,Xa H L.length J] 26)).alloc (Xe #[St b,U c,St o,U n] 29))from((Xi w).alloc _).alloc _);have N:RowIs ((w.alloc (Xe #[Xa y m.length z,Xa G K.length I,Xa H L.length J] 26)).alloc (Xe #[St b,U c,St o,U n] 29)) w.heap.size 26 [Xa y m.length z,Xa G K.length I,Xa H L.length J] []:=(zaf w 26 [Xa y m.length z,Xa G K.length I,Xa H L.length J]).alloc _;have q:RowIs ((w.alloc (Xe #[Xa y m.length z,Xa G K.length I,Xa H L.length J] 26)).alloc (Xe #[St b,U c,St o,U n] 29)) (w.heap.size+1) 29 [St b,U c,St o,U n] []:=by have h:=zaf (w.alloc (Xe #[Xa y m.length z,Xa G K.length I,Xa H L.length J] 26)) 29 [St b,U c,St o,U n];simp only[Ql]at h;exact h
 obtain⟨l,aa⟩:∃u,ofM m b=u:=⟨_,rfl⟩
 obtain⟨D,ab⟩:∃u,ofM m o=u:=⟨_,rfl⟩
 have ac:=zH aa;have af:=zH ab;have Q:=zH (show zc3 m (b,c,o,n)=(decide (l=c)&&decide (n+c<=D)) by unfold zc3;rw[aa,ab]);clear Z aa ab ae;go_enter Tryz.func13,Tryz.ntmps13;go_wp2_with fail;generalize ((w.alloc (Xe #[Xa y m.length z,Xa G K.length I,Xa H L.length J] 26)).alloc (Xe #[St b,U c,St o,U n] 29))=ag at *
 by_cases t:l=c
 ·subst t;have T:=zH (show zc3 m (b,l,o,n)=decide (n+l<=D) by rw[Q.out];simp);clear Q
  refine zat [fun v _=>v=Xb (some ⟨w.heap.size,0,none⟩),fun v _=>v=Xa y m.length z,fun v _=>v=Xb (some ⟨w.heap.size+1,0,none⟩),fun v _=>v=St b,fun v _=>v=U l,fun v _=>v=Xb (some ⟨w.heap.size+1,1,none⟩),fun v _=>v=U l,fun v _=>v=Xc true,fun v _=>v=Xc true,fun v _=>v=Xb (some ⟨w.heap.size,0,none⟩),fun v _=>v=Xa y m.length z,fun v _=>v=Xb (some ⟨w.heap.size+1,2,none⟩),fun v _=>v=St o,fun v _=>v=U D,fun v _=>v=Xb (some ⟨w.heap.size+1,3,none⟩),fun v _=>v=U n,fun v _=>v=Xb (some ⟨w.heap.size+1,1,none⟩),fun v _=>v=U l,fun v _=>v=U (n+l),fun v _=>v=Xc (decide (n+l<=D)),fun v _=>v=Xc (decide (n+l<=D))] rfl (by kernel_rfl) ?hR ?hstep ?hend
  case hR=>simp only[zM];exact⟨kP,kP,kP,kP,kP,kP,kP,kP,kP,kP,kP,kP,kP,kP,kP,kP,kP,kP,kP,kP,kP⟩
  case hstep =>
   simp only[zS,zD,Qh,zbj]
   and_intros<;>intro x W d f
   ·have h:x 2=Xb (some ⟨w.heap.size,0,none⟩):=f.1;have k:=N.ext d;obtain⟨A,B,C⟩:=k.p3;go_wp;exact sQ
   ·have h:_=_:=f.1;have t:=(N.ext d).cell (j:=0) rfl;go_wp;exact sQ
   ·have h:x 3=Xb (some ⟨w.heap.size+1,0,none⟩):=f.1;have k:=q.ext d;obtain⟨A,B,C,M⟩:=k.p4;go_wp;exact sQ
   ·have h:_=_:=f.1;have t:=(q.ext d).cell (j:=0) rfl;go_wp;exact sQ
   ·have h:_=_:=f.1;have R:_=_:=f.2.1;have F:=zH (ze1 b (V.out.all.ext (by decide) (O.out.trans d)));rw[ac.out]at F;go_wp;refine F.out.mono ?_;rintro r ad⟨rfl,P⟩;dsimp only;go_wp;exact zaa (v:=U l) rfl P
   ·have h:x 3=Xb (some ⟨w.heap.size+1,0,none⟩):=f.1;have k:=q.ext d;obtain⟨A,B,C,M⟩:=k.p4;go_wp;exact sQ
   ·have h:_=_:=f.1;have t:=(q.ext d).cell (j:=1) rfl;go_wp;exact sQ
   ·have h0:_=_:=f.1;have h1:_=_:=f.2.1;go_wp;exact sQ
   ·have h0:_=_:=f.1;go_wp;exact sQ
   ·have h:x 2=Xb (some ⟨w.heap.size,0,none⟩):=f.1;have i:_=_:=f.2.1;have k:=N.ext d;obtain⟨A,B,C⟩:=k.p3;go_wp;exact sQ
   ·have h:_=_:=f.1;have i:_=_:=f.2.1;have t:=(N.ext d).cell (j:=0) rfl;go_wp;exact sQ
   ·have h:x 3=Xb (some ⟨w.heap.size+1,0,none⟩):=f.1;have i:_=_:=f.2.1;have k:=q.ext d;obtain⟨A,B,C,M⟩:=k.p4;go_wp;exact sQ
   ·have h:_=_:=f.1;have i:_=_:=f.2.1;have t:=(q.ext d).cell (j:=2) rfl;go_wp;exact sQ
   ·have h:_=_:=f.1;have R:_=_:=f.2.1;have i:_=_:=f.2.2.1;have F:=zH (ze1 o (V.out.all.ext (by decide) (O.out.trans d)));rw[af.out]at F;go_wp;refine F.out.mono ?_;rintro r ad⟨rfl,P⟩;dsimp only;go_wp;exact zaa (v:=U D) rfl P
   ·have h:x 3=Xb (some ⟨w.heap.size+1,0,none⟩):=f.1;have i:_=_:=f.2.1;have k:=q.ext d;obtain⟨A,B,C,M⟩:=k.p4;go_wp;exact sQ
   ·have h:_=_:=f.1;have i:_=_:=f.2.1;have t:=(q.ext d).cell (j:=3) rfl;go_wp;exact sQ
   ·have h:x 3=Xb (some ⟨w.heap.size+1,0,none⟩):=f.1;have i:_=_:=f.2.1;have k:=q.ext d;obtain⟨A,B,C,M⟩:=k.p4;go_wp;exact sQ
   ·have h:_=_:=f.1;have i:_=_:=f.2.1;have t:=(q.ext d).cell (j:=1) rfl;go_wp;exact sQ
   ·have h0:_=_:=f.1;have h1:_=_:=f.2.1;have R:_=_:=f.2.2.1;go_wp;exact sQ
   ·have h:_=_:=f.1;have R:_=_:=f.2.1;have aj:decide ((n:Int)+(l:Int)<=(D:Int))=decide (n+l<=D):=(by rw[decide_eq_decide];omega);have i:_=_:=f.2.2.1;go_wp;exact sQ
   have h0:_=_:=f.1;have h1:_=_:=f.2.1;go_wp;exact sQ
  case hend=>intro x W d f;have Y:x 25=Xc (decide (n+l<=D)):=f.2.2.2.2.2.2.2.2.2.2.2.2.2.2.2.2.2.2.2.2.1;clear f;simp only[zS,zD,zU,Qh,Qm,zav,Act.put,Y];have X:=zH (O.out.trans d);clear d;go_wp2_with fail;go_ret;exact⟨by rw[T.out];rfl,X.out⟩
 have T:=zH (show zc3 m (b,c,o,n)=false by rw[Q.out];simp[t]);have ai:((l:Int)==(c:Int))=false:=by simp;omega
 clear Q
 refine zat [fun v _=>v=Xb (some ⟨w.heap.size,0,none⟩),fun v _=>v=Xa y m.length z,fun v _=>v=Xb (some ⟨w.heap.size+1,0,none⟩),fun v _=>v=St b,fun v _=>v=U l,fun v _=>v=Xb (some ⟨w.heap.size+1,1,none⟩),fun v _=>v=U c,fun v _=>v=Xc false,fun v _=>v=Xc false,
  fun _ _=>True,
  fun _ _=>True,
  fun _ _=>True,
  fun _ _=>True,
  fun _ _=>True,
  fun _ _=>True,
  fun _ _=>True,
  fun _ _=>True,
  fun _ _=>True,
  fun _ _=>True,
  fun _ _=>True,fun v _=>v=Xc false] rfl (by kernel_rfl) ?hR ?hstep ?hend
 case hR=>simp only[zM];exact⟨kP,kP,kP,kP,kP,kP,kP,kP,kP,kP,kP,kP,kP,kP,kP,kP,kP,kP,kP,kP,kP⟩
 case hstep =>
  simp only[zS,zD,Qh,zbj]
  and_intros<;>intro x W d f
  ·have h:_=_:=f.1;have k:=N.ext d;obtain⟨A,B,C⟩:=k.p3;go_wp;exact sQ
  ·have h:_=_:=f.1;have t:=(N.ext d).cell (j:=0) rfl;go_wp;exact sQ
  ·have h:_=_:=f.1;have k:=q.ext d;obtain⟨A,B,C,M⟩:=k.p4;go_wp;exact sQ
  ·have h:_=_:=f.1;have t:=(q.ext d).cell (j:=0) rfl;go_wp;exact sQ
  ·have h:_=_:=f.1;have R:_=_:=f.2.1;have F:=zH (ze1 b (V.out.all.ext (by decide) (O.out.trans d)));rw[ac.out]at F;go_wp;refine F.out.mono ?_;rintro r ad⟨rfl,P⟩;dsimp only;go_wp;exact zaa (v:=U l) rfl P
  ·have h:_=_:=f.1;have k:=q.ext d;obtain⟨A,B,C,M⟩:=k.p4;go_wp;exact sQ
  ·have h:_=_:=f.1;have t:=(q.ext d).cell (j:=1) rfl;go_wp;exact sQ
  ·have h0:_=_:=f.1;have h1:_=_:=f.2.1;go_wp;exact sQ
  ·have h0:_=_:=f.1;go_wp;exact sQ
  ·have i:_=_:=f.2.1;go_wp;exact zaa trivial (Xi _)
  ·have i:_=_:=f.2.1;go_wp;exact zaa trivial (Xi _)
  ·have i:_=_:=f.2.1;go_wp;exact zaa trivial (Xi _)
  ·have i:_=_:=f.2.1;go_wp;exact zaa trivial (Xi _)
  ·have i:_=_:=f.2.2.1;go_wp;exact zaa trivial (Xi _)
  ·have i:_=_:=f.2.1;go_wp;exact zaa trivial (Xi _)
  ·have i:_=_:=f.2.1;go_wp;exact zaa trivial (Xi _)
  ·have i:_=_:=f.2.1;go_wp;exact zaa trivial (Xi _)
  ·have i:_=_:=f.2.1;go_wp;exact zaa trivial (Xi _)
  ·have i:_=_:=f.2.2.1;go_wp;exact zaa trivial (Xi _)
  ·have i:_=_:=f.2.2.1;go_wp;exact zaa trivial (Xi _)
  have h0:_=_:=f.1;go_wp;exact sQ
 case hend=>intro x W d f;have Y:x 25=Xc false:=f.2.2.2.2.2.2.2.2.2.2.2.2.2.2.2.2.2.2.2.2.1;clear f;simp only[zS,zD,zU,Qh,Qm,zav,Act.put,Y];have X:=zH (O.out.trans d);clear d;go_wp2_with fail;go_ret;exact⟨by rw[T.out];rfl,X.out⟩
end
section
def RiseB (l:List Item):Prop:=(l.Pairwise fun a b=>ltS a.1 b.1=true)/\∀it∈l,it.2≠[]/\it.2.Pairwise fun a b=>ltOf cmpD a b=true
theorem zp9:RiseB []:=⟨.nil,by simp⟩
theorem GoodB.rise {l:List Item}(d:GoodB l):RiseB l:=⟨d.1,fun it e=>(d.2.1 it e).2⟩
theorem RiseB.nodup {l:List Item}(d:RiseB l):(zab l).Nodup:=(zl4 d.1 fun it h=>(d.2 it h).2).imp fun {a b} f e=>by subst e;rw[zj1]at f;cases f
theorem RiseB.ext {a b:List Item}(ha:RiseB a)(hb:RiseB b)(h:∀q,q∈zab a↔q∈zab b):a=b:=by
 rw[<- zj6 ha.1 ha.2,<- zj6 hb.1 hb.2];exact zfe (zdl ha.nodup hb.nodup h)
theorem zvn {d:List zan}(e:d.Nodup):RiseB (za7 d):=zf8 _ (zhz e)
end
section
open Go.RowKit
theorem zvo {κ ν:Type}[DecidableEq κ](L:List (κ×ν))(k s:κ):(delL L k).lookup s=if s=k then none else L.lookup s:=by
 induction L with
 | nil=>simp[delL]
 | cons p r e =>
  obtain⟨a,v⟩:=p;unfold delL at e ⊢
  by_cases ha:a=k
  ·subst ha;rw[Qr (by simp),e,Yx]
   by_cases d:s=a
   ·simp[d]
   rw[zN d,zN d,zia d]
  rw[Qv (by simpa using ha),Yx,Yx,e]
  by_cases d:s=a
  ·subst d;rw[zN ha];simp[ha]
  rw[zia d]
theorem yaj {κ ν:Type}[DecidableEq κ](z:ν)(L:List (κ×ν))(k s:κ):getL z (delL L k) s=if s=k then z else getL z L s:=by
 unfold getL;rw[zvo]
 split<;>rfl
theorem yak {κ ν:Type}[DecidableEq κ]{L:List (κ×ν)}{k s:κ}:s∈(delL L k).map Prod.fst↔s≠k/\s∈L.map Prod.fst:=by
 unfold delL;rw[Qk,Qk]
 constructor
 ·rintro⟨p,hp,rfl⟩;obtain⟨h1,d⟩:=Qo.1 hp;exact⟨by simpa using d,p,h1,rfl⟩
 rintro⟨h,p,hp,rfl⟩;exact⟨p,Qo.2 ⟨hp,by simpa using h⟩,rfl⟩
theorem zqa {L:List (Str×Nat)}{s:Str}(k:Str):getL 0 (zei L s) k=if k=s then 0 else if k = []then addU (getL 0 L []) (getL 0 L s)else getL 0 L k:=by
 unfold zei;rw[yaj,zji]
theorem foldP_key {L:List (Str×Nat)}{s k:Str}:k∈(zei L s).map Prod.fst↔k≠s/\(k = [] ∨ k∈L.map Prod.fst):=by
 unfold zei;rw[yak,zkz]
theorem zm5 {L:List (Str×Nat)}(h:(L.map Prod.fst).Nodup)(s:Str):((zei L s).map Prod.fst).Nodup:=(zij h _ _).sublist ((List.filter_sublist (l:=putL L _ _)).map _)
theorem znm (l:List zag){s:Str}(h:s≠[]):zbc l s=zdr (zei (zax l) s) (zei (zaz l) s):=by simp[zbc,h]
theorem zhh (l:List zag)(s:Str):GoodC (zbc l s):=by
 unfold zbc
 split
 ·exact zhb (zcd l)
 exact zhb (zm5 (zcd l) s)
theorem zbk (l:List zag){s:Str}(h:s≠[])(k:Str):zbr (zbc l s) k=(if k=s then 0 else if k = []then addU (zbr l []) (zbr l s)else zbr l k)/\zbf (zbc l s) k=(if k=s then 0 else if k = []then addU (zbf l []) (zbf l s)else zbf l k):=by
 rw[znm l h]
 have:=zlv (Lp:=zei (zax l) s) (Lm:=zei (zaz l) s) (fun k hk=>by rw[foldP_key]at hk ⊢;refine⟨hk.1,hk.2.imp id fun h=>?_⟩;rw[minusOf_key]at h;rw[plusOf_key];exact h) (zm5 (zcd l) s) k
 rw[zqa,zqa]at this;exact this
theorem zon {l:List zag}{s:Str}(e:s≠[]){c:zag}(d:c∈zbc l s):c.1≠s:=by
 rw[znm l e]at d;exact(foldP_key.1 (listL_mem.1 d).1).1
theorem zk7 {l:List zag}{s:Str}(i:s≠[])(j:GoodC l)(hb:∀c∈l,c.2.1<18446744073709551616/\c.2.2<18446744073709551616)(h:∀c∈l,c.1≠s):zbc l s=l:=by
 have n:∀k,zbr l k<18446744073709551616:=fun k=>Yh (plusC_le.2 fun c d _=>Yi (hb c d).1)
 have m:∀k,zbf l k<18446744073709551616:=fun k=>Yh (minusC_le.2 fun c d _=>Yi (hb c d).2)
 have h1:=zf4 h;have f:=zfi h;refine(zhh l s).ext j fun k=>?_
 obtain⟨a,b⟩:=zbk l i k;rw[a,b]
 by_cases hk:k=s
 ·subst hk;simp[h1,f]
 rw[zN hk,zN hk]
 by_cases e:k = []
 ·subst e;have a1:=n [];have a2:=m [];rw[zP rfl,zP rfl,h1,f];unfold addU;omega
 rw[zN e,zN e];exact⟨rfl,rfl⟩
theorem yal {a b:List Int}(d:a.Perm b):a.sum=b.sum:=by
 induction d with
 | nil=>rfl
 | cons x _ e=>simp[e]
 | swap x y l=>simp;omega
 | trans _ _ ih1 ih2=>exact ih1.trans ih2
theorem znn (f:Str->Int):∀U:List Str,(U.map f).sum=((U.filter fun k=>decide (f k≠0)).map f).sum
 | []=>rfl
 | k::r=>by
  have e:=znn f r
  by_cases d:f k=0
  ·rw[Qr (by simpa using d),<- e];simp[d]
  rw[Qv (by simpa using d)];simp[e]
theorem zyh {f:Str->Int}{U K:List Str}(e:U.Nodup)(hK:K.Nodup)(d:∀k,f k≠0->(k∈U↔k∈K)):(U.map f).sum=(K.map f).sum:=by
 rw[znn f U,znn f K];refine yal ((zdl (e.filter _) (hK.filter _) fun k=>?_).map f);rw[Qo,Qo]
 constructor
 ·rintro⟨h1,h2⟩;exact⟨(d k (by simpa using h2)).1 h1,h2⟩
 rintro⟨h1,h2⟩;exact⟨(d k (by simpa using h2)).2 h1,h2⟩
def netC (l:List zag)(k:Str):Int:=((zbr l k:Nat):Int)-(zbf l k:Nat)
theorem zvp (l:List zag):zgf l=(((zax l).map Prod.fst).map (netC l)).sum:=by
 have d:=zcd l;unfold zgf;rw[Yo]
 congr 1
 refine Qu fun p e=>?_
 simp only[Function.comp,netC];rw[show zbr l p.1=p.2 from zlf d e]
 rfl
theorem zoo {l:List zag}{U:List Str}(h:U.Nodup)(f:∀k,netC l k≠0->k∈U):zgf l=(U.map (netC l)).sum:=by
 rw[zvp];refine zyh (zcd l) h fun k hk=>⟨fun _=>f k hk,fun _=>?_⟩
 refine Classical.byContradiction fun d=>hk ?_
 rw[plusOf_key]at d;have h1:∀c∈l,c.1≠k:=fun c i e=>d ⟨c,i,e⟩
 unfold netC;rw[zf4 h1,zfi h1]
 rfl
theorem zop (l:List zag):zb7 l=wrap64 (zgf l):=by
 have h:=zrt (zax l) (zaz l) 0;unfold zb7 wrap64 sumL;have e:zgf l=((zax l).map fun p=>(p.2:Int)-((getL (0:Nat) (zaz l) p.1:Nat):Int)).sum:=rfl;rw[<- e]at h;omega
theorem zr6 {x y:Int}(h:x % 18446744073709551616=y % 18446744073709551616):wrap64 x=wrap64 y:=by
 unfold wrap64;omega
theorem zqr {f g:Str->Int}{U:List Str}(h:∀k∈U,f k=g k):(U.map f).sum=(U.map g).sum:=by
 congr 1
 exact Qu h
theorem ztf (l:List zag){s:Str}(f:s≠[]):zb7 (zbc l s)=zb7 l:=by
 rw[zop,zop];refine zr6 ?_;obtain⟨R,hR⟩:∃R,(((zax l).map Prod.fst).filter fun k=>decide (k≠[]/\k≠s))=R:=⟨_,rfl⟩
 have p:R.Nodup:=hR▸(zcd l).filter _;have h:∀k,k∈R↔k∈(zax l).map Prod.fst/\k≠[]/\k≠s:=fun k=>by rw[<- hR,Qo];simp
 have j:([]::s::R).Nodup:=by
  rw[Vq,Vq];refine⟨fun i=>?_,fun i=>((h s).1 i).2.2 rfl,p⟩;rcases Yt.1 i with e|i
  ·exact f e.symm
  exact((h []).1 i).2.1 rfl
 have n:∀k,netC l k≠0->k∈[]::s::R:=fun k hk=>by
  by_cases h0:k = []
  ·simp[h0]
  by_cases h1:k=s
  ·simp[h1]
  refine Qw _ (Qw _ ((h k).2 ⟨?_,h0,h1⟩));refine Classical.byContradiction fun o=>hk ?_
  rw[plusOf_key]at o;have h1:∀c∈l,c.1≠k:=fun c q e=>o ⟨c,q,e⟩
  unfold netC;rw[zf4 h1,zfi h1]
  rfl
 have m:∀k,k≠[]->k≠s->netC (zbc l s) k=netC l k:=fun k h0 h1=>by obtain⟨a,b⟩:=zbk l f k;rw[zN h1,zN h0]at a b;unfold netC;rw[a,b]
 rw[zoo j n,zoo (l:=zbc l s) j fun k hk=>by
  by_cases h0:k = []
  ·simp[h0]
  by_cases h1:k=s
  ·simp[h1]
  exact n k (by rw[<- m k h0 h1];exact hk)]
 rw[Yu,Yu,Yu,Yu,Yv,Yv,Yv,Yv,zqr fun k hk=>m k ((h k).1 hk).2.1 ((h k).1 hk).2.2];obtain⟨a,b⟩:=zbk l f [];obtain⟨c,d⟩:=zbk l f s;rw[zN (Ne.symm f),zP rfl]at a b;rw[zP rfl]at c d;unfold netC;rw[a,b,c,d];unfold addU;omega
theorem zk8 (l:List Item)(p:PrD):RiseB (zcr l p):=zvn (zdm _)
theorem zr7 {d:List zan}{q:zan}:q∈zab (za7 d)↔q∈d:=by
 unfold za7;rw[zdw,(zbq d).mem_iff]
theorem turnB_mem {l:List Item}{p:PrD}{q:zan}:q∈zab (zcr l p)↔∃x∈zab l,zci p x=q:=by
 unfold zcr;rw[zr7,mem_setL,Qk]
 constructor
 ·rintro⟨x,hx,e⟩;exact⟨x,mem_setL.1 hx,e⟩
 rintro⟨x,hx,e⟩;exact⟨x,mem_setL.2 hx,e⟩
theorem zoq (p:PrD)(q:zan):(zci p q).1=q.1:=by
 unfold zci
 split<;>rfl
theorem zvq {p:PrD}(h:p.2.2.1≠p.1)(q:zan):(zci p q).2.1≠p.1:=by
 unfold zci
 split
 ·exact h
 assumption
theorem zk9 {l:List Item}{p:PrD}(f:RiseB l)(d:∀q∈zab l,q.2.1≠p.1):zcr l p=l :=
 (zk8 l p).ext f fun q=>by
  rw[turnB_mem]
  constructor
  ·rintro⟨x,hx,rfl⟩;rw[zci,zN (d x hx)];exact hx
  intro e;exact⟨q,e,by rw[zci,zN (d q e)]⟩
theorem ztg (l:List Item)(p:PrD):zdo (zcr l p)=zdo l :=
 zrq (zm2 _) (zm2 _) fun t=>by
  rw[zoi,zoi]
  constructor
  ·rintro⟨q,hq,rfl⟩;obtain⟨x,d,rfl⟩:=turnB_mem.1 hq;exact⟨x,d,(zoq p x).symm⟩
  rintro⟨x,d,rfl⟩;exact⟨zci p x,turnB_mem.2 ⟨x,d,rfl⟩,zoq p x⟩
def zaq (p:PrD)(e:Entry):Entry:=⟨e.key,if 0<ofM e.seen p.1 then setM (zau e.seen p.1) p.2.2.1 (max (ofM e.seen p.2.2.1) (p.2.2.2+p.2.1))else e.seen,zbc e.counts p.1,zcr e.items p,e.cell⟩
def insP (l:List Str)(s:Str):List Str:=(l.filter fun x=>ltS x s)++s::(l.filter fun x=>ltS s x)
def zbh (s:State)(p:PrD):State×Nat :=
 if mayS s&&mayP p then
  if p.1∈s.pruned then(s,0)
  else if 0<ofM s.all p.1 then
   if zc3 s.all p then(⟨zau s.all p.1,s.entries.map (zaq p),insP s.pruned p.1⟩,0)else(za1,170)
  else(⟨s.all,s.entries,insP s.pruned p.1⟩,0)
 else(za1,2)
end
section
open Go.RowKit Go.Shelf
section
variable {w w1 w2:Xg} {g:Nat}
theorem Kept2.trans1 (d:Kept2 w w1 g g)(k:Kept2 w1 w2 g g):Kept2 w w2 g g :=
 ⟨k.os.trans d.os,k.tape.trans d.tape,k.output.trans d.output,Qc d.size k.size,fun j f h1 e=>(k.other j (Yb f d.size) h1 e).trans (d.other j f h1 e)⟩
theorem Kept2.ofExt (d:Ext w w1):Kept2 w w1 g g:=⟨d.os,d.tape,d.output,d.size,fun j e _ _=>d.block j e⟩
theorem Kept2.set (d:Kept2 w w1 g g)(j:Nat)(u:Xh):Kept2 w (w1.setCell ⟨g,j,none⟩ u) g g :=
 ⟨d.os,d.tape,d.output,by rw[Ya];exact d.size,fun b hb h1 e=>(Qb _ _ _ _ h1).trans (d.other b hb h1 e)⟩
end
theorem zqb {e base:Nat}{v:Xh}{l:List zag}{w:Xg}(d:Own w base e 3 v l.length (l.flatMap zbx)):Sl zcl w (fun b=>base<=b) v l :=
 (OwnL.flat_iff (S:=fun b=>base<=b).2 d).sl (by decide) (fun _ _ d=>d) (fun _ d _=>d)
theorem RowIs.set2 {w:Xg}{g T o:Nat}{X1 X2 tail:List Xh}{d c1 c2 h c4 e f:Xh}(i:RowIs w g T (X1++([d,c1,c2,h,c4,e,f]++X2)) tail)(k:X1.length=o)(u:Xh) :
  RowIs (w.setCell ⟨g,o+1,none⟩ u) g T (X1++([d,u,c2,h,c4,e,f]++X2)) tail/\RowIs (w.setCell ⟨g,o+2,none⟩ u) g T (X1++([d,c1,u,h,c4,e,f]++X2)) tail/\RowIs (w.setCell ⟨g,o+3,none⟩ u) g T (X1++([d,c1,c2,u,c4,e,f]++X2)) tail:=by
 subst k;refine⟨?_,?_,?_⟩
 ·have:=i.set (j:=X1.length+1) (by simp) u;simpa[Yz]using this
 ·have:=i.set (j:=X1.length+2) (by simp) u;simpa[Yz]using this
 have:=i.set (j:=X1.length+3) (by simp) u;simpa[Yz]using this
theorem RowIs.apart {w:Xg}{g B T d:Nat}{xs i l j:List Xh}(f:RowIs w g T xs i)(k:RowIs w B d l j)(h:T≠d):B≠g:=by
 rintro rfl;unfold RowIs at f k;rw[f]at k;injection k with e
 injection e with e1 e2 e3
 exact h e2
theorem zth {S:Nat->Prop}{p:PrD}{e:Entry}{v1 v2 v3:Xh}{w:Xg}{g B o:Nat}{X1 X2 tail:List Xh}(Q:RowIs w g 46 (X1++(entL e v1 v2 v3++X2)) tail)(P:X1.length=o)(bg:EntAt w S e v1 v2 v3)(ax:¬S g)(aw:RowIs w B 29 (prC p) [])(cw:p.2.2.2+p.2.1<18446744073709551616)(a4:SmallE e) :
  Calls Tryz.prog 91 #[Xb (some ⟨g,o,none⟩),Xb (some ⟨B,0,none⟩)] w fun r w'=>∃F G y,r=Xf (Xd #[])/\RowIs w' g 46 (X1++(entL (zaq p e) F G y++X2)) tail /\
   EntAt w' (fun b=>S b ∨ w.heap.size<=b) (zaq p e) F G y/\Kept2 w w' g g:=by
 obtain⟨k,es,s,t,cs,an,am⟩:=e;obtain⟨b,c,i,n⟩:=p;obtain⟨a5,bm,cf,cy,cg,cz,rfl,rfl,rfl⟩:=bg.fm;have ci:s.length<1099511627776:=Vg a4.counts (by decide);have cj:(zab t).length<=1099511627776:=Qc a4.places (by decide);have bu:es.length<=1099511627776:=Qc a4.seen (by decide);have ai:=zH (Q.apart aw (by decide));have b8:=Q.lt;have de:IntKind.u64.wrap ((n:Int)+(c:Int))=((n+c:Nat):Int):=by rw[zca];simp only at cw;omega
 obtain⟨F,b9⟩:∃u,ofM es b=u:=⟨_,rfl⟩
 obtain⟨G,ca⟩:∃u,ofM es i=u:=⟨_,rfl⟩
 have a8:=zH b9;have bv:=zH ca;clear a4 b9 ca;obtain⟨Z,ct⟩:∃Z,Z=w:=⟨_,rfl⟩
 subst ct;have a7:=zH bg;have c0:=zH Q;have a0:=aw;have b5:=zH aw;obtain⟨cl,c1,c2,cm,-,-,-⟩:=zn9 Q P;have ce:=Q.frozen (o+2);clear bg Q aw;go_enter Tryz.func91,Tryz.ntmps91;go_wp2_with fail;refine zat [fun v _=>v=Xb (some ⟨g,o,none⟩),fun v _=>v=Xb (some ⟨g,o,none⟩),fun v _=>v=Xb (some ⟨g,o,none⟩),fun v _=>v=Xb (some ⟨g,o+2,none⟩),fun v _=>v=Xa cf s.length cy,fun v _=>v=Xb (some ⟨B,0,none⟩),fun v _=>v=St b,fun v W=>Own W Z.heap.size 54 3 v (zbc s b).length ((zbc s b).flatMap zbx)] rfl (by kernel_rfl) ?hR ?hstep ?hend
 case hR=>simp only[zM];exact⟨kP,kP,kP,kP,kP,kP,kP,fun v _ _ l d=>l.ext d⟩
 case hstep =>
  simp only[zS,zD,Qh,zbj]
  and_intros<;>intro x W d f
  ·have h0:x 0=Xb (some ⟨g,o,none⟩):=f.1;go_wp;exact sQ
  ·have h0:x 0=Xb (some ⟨g,o,none⟩):=f.1;go_wp;exact sQ
  iterate 2 · have h0:_=_:=f.1;go_wp;exact sQ
  ·have h0:_=_:=f.1;have q:=d.cell c2;go_wp;exact sQ
  ·have h0:x 1=Xb (some ⟨B,0,none⟩):=f.1;go_wp;exact sQ
  ·have h0:_=_:=f.1;have bn:=(a0.ext d).cell (j:=0) rfl;go_wp;exact sQ
  have h0:_=_:=f.1;have h1:_=_:=f.2.1;have C:=d.size;have z:=zH (zyf b (a7.out.counts.ext (by decide) d) ci);go_wp;refine z.out.mono ?_;rintro r aa⟨v3,rfl,J,A⟩;dsimp only;go_wp;exact zaa (v:=v3) (J.lower C) A
 case hend =>
  intro x m h f;have b2:x 4=Xb (some ⟨g,o,none⟩):=f.1;have ab:Own m Z.heap.size 54 3 (x 11) (zbc s b).length ((zbc s b).flatMap zbx):=f.2.2.2.2.2.2.2.1;clear f;obtain⟨L,R,be,-,-⟩:=ab.form;rw[be]at ab;simp only[zS,zD,zU,Qh,Qm,zav,Act.put,b2,be];have az:=h.cell c2;have c3:m.frozen? ⟨g,o+2,none⟩=false:=(h.frozen b8).trans ce;go_wp2_with fail;obtain⟨O,cu⟩:∃H,m.setCell ⟨g,o+2,none⟩ (Xa L (zbc s b).length R)=H:=⟨_,rfl⟩
  have N:=(Kept2.ofExt (g:=g) h).set (o+2) (Xa L (zbc s b).length R);have ae:=((c0.out.ext h).set2 P (Xa L (zbc s b).length R)).2.1;have I:=ab.keep (w':=m.setCell ⟨g,o+2,none⟩ (Xa L (zbc s b).length R)) fun b hb bh=>Qb _ _ _ _ (by have:=(ab.base_le hb).1;show b≠g;omega)
  rw[cu]at N ae I ⊢;have bp:=zH (a7.out.kept N (fun b hb=>⟨fun e=>ax (e▸hb),fun e=>ax (e▸hb)⟩));have cb:=a0.keep (N.other B a0.lt ai.out ai.out);have ad:=N.size;obtain⟨-,d1,b0,ao,-,-,-⟩:=zn9 ae P;have cd:=ae.frozen (o+3);have bx:=zH ae;have a6:=zH I;have bw:=zH N;clear ab I ae N a0 h c3 ce cl c1 c2 cm az b2 be;refine zat [fun v _=>v=Xb (some ⟨g,o,none⟩),fun v _=>v=Xb (some ⟨g,o,none⟩),fun v _=>v=Xb (some ⟨g,o,none⟩),fun v _=>v=Xb (some ⟨g,o+3,none⟩),fun v _=>v=Xa cg t.length cz,fun v _=>v=prV (b,c,i,n),fun v W=>OwnL itemT 57 W O.heap.size (fun b=>O.heap.size<=b) v (zcr t (b,c,i,n))] rfl (by kernel_rfl) ?hR ?hstep ?hend
  case hR=>simp only[zM];exact⟨kP,kP,kP,kP,kP,kP,fun v _ _ l d=>l.ext d⟩
  case hstep =>
   simp only[zS,zD,Qh,zbj]
   and_intros<;>intro x W d f
   ·have h0:x 0=Xb (some ⟨g,o,none⟩):=f.1;go_wp;exact sQ
   ·have h0:x 0=Xb (some ⟨g,o,none⟩):=f.1;go_wp;exact sQ
   iterate 2 · have h0:_=_:=f.1;go_wp;exact sQ
   ·have h0:_=_:=f.1;have q:=d.cell ao;go_wp;exact sQ
   ·have h0:x 1=Xb (some ⟨B,0,none⟩):=f.1;obtain⟨bn,q1,az,q3⟩:=(cb.ext d).p4;go_wp;exact sQ
   have h0:_=_:=f.1;have h1:_=_:=f.2.1;have C:=d.size;have z:=zH (zyg (b,c,i,n) (bp.out.items.ext (by decide) d) cj);go_wp;refine z.out.mono ?_;rintro r aa⟨v3,rfl,J,A⟩;dsimp only;go_wp;exact zaa (v:=v3) ((J.lower C).mono fun b _ hb=>Qc C hb) A
  case hend =>
   intro x m h f;have b1:x 14=Xb (some ⟨g,o,none⟩):=f.1;have ac:OwnL itemT 57 m O.heap.size (fun b=>O.heap.size<=b) (x 20) (zcr t (b,c,i,n)):=f.2.2.2.2.2.2.1;clear f;obtain⟨M,T,bf,-,-⟩:=ac.form;rw[bf]at ac;simp only[zS,zD,zU,Qh,Qm,zav,Act.put,b1,bf];have q3:=h.cell ao;have c5:m.frozen? ⟨g,o+3,none⟩=false:=(h.frozen (Yb b8 ad)).trans cd;go_wp2_with fail;obtain⟨ba,cv⟩:∃H,m.setCell ⟨g,o+3,none⟩ (Xa M (zcr t (b,c,i,n)).length T)=H:=⟨_,rfl⟩
   have D:=(Kept2.ofExt (g:=g) h).set (o+3) (Xa M (zcr t (b,c,i,n)).length T);have af:=((bx.out.ext h).set2 P (Xa M (zcr t (b,c,i,n)).length T)).2.2;have I:=(a6.out.ext h).keep (w':=m.setCell ⟨g,o+3,none⟩ (Xa M (zcr t (b,c,i,n)).length T)) fun b hb bh=>Qb _ _ _ _ (by have:=(a6.out.base_le hb).1;show b≠g;omega)
   have ar:=ac.keep (w':=m.setCell ⟨g,o+3,none⟩ (Xa M (zcr t (b,c,i,n)).length T)) (fun b hb bh=>Qb _ _ _ _ (by show b≠g;omega)) fun b hb bh=>Qb _ _ _ _ (by have:=(ac.base_le hb).1;show b≠g;omega)
   rw[cv]at D af I ar ⊢;have D:=bw.out.trans1 D;have ah:=zH (a7.out.kept D (fun b hb=>⟨fun e=>ax (e▸hb),fun e=>ax (e▸hb)⟩));have cc:=b5.out.keep (D.other B b5.out.lt ai.out ai.out);have df:=D.size;obtain⟨bz,cr⟩:∃V,Value.slice M (zcr t (b,c,i,n)).length T=V:=⟨_,rfl⟩
   rw[cr]at ar af ⊢;obtain⟨-,d1,b0,ao,-,-,-⟩:=zn9 af P;have br:=zH (⟨I,ar⟩:Own ba Z.heap.size 54 3 (Xa L (zbc s b).length R) (zbc s b).length ((zbc s b).flatMap zbx)/\OwnL itemT 57 ba O.heap.size (fun b=>O.heap.size<=b) bz (zcr t (b,c,i,n)));have ak:=zH af;have a9:=zH D;clear ac I ar af D h q3 c5 cd b1 bf cb bp a6 bx bw;refine zat [fun v _=>v=Xb (some ⟨g,o,none⟩),fun v _=>v=Xb (some ⟨g,o,none⟩),fun v _=>v=Xb (some ⟨g,o+1,none⟩),fun v _=>v=Xa a5 es.length bm,fun v _=>v=Xb (some ⟨B,0,none⟩),fun v _=>v=St b,fun v _=>v=U F] rfl (by kernel_rfl) ?hR ?hstep ?hend
   case hR=>simp only[zM];exact⟨kP,kP,kP,kP,kP,kP,kP⟩
   case hstep =>
    simp only[zS,zD,Qh,zbj]
    and_intros<;>intro x W d f
    ·have h0:x 0=Xb (some ⟨g,o,none⟩):=f.1;go_wp;exact sQ
    iterate 2 · have h0:_=_:=f.1;go_wp;exact sQ
    ·have h0:_=_:=f.1;have q:=d.cell d1;go_wp;exact sQ
    ·have h0:x 1=Xb (some ⟨B,0,none⟩):=f.1;go_wp;exact sQ
    ·have h0:_=_:=f.1;have bn:=(cc.ext d).cell (j:=0) rfl;go_wp;exact sQ
    have h0:_=_:=f.1;have h1:_=_:=f.2.1;have C:=d.size;have z:=zH (ze1 b (ah.out.seen.ext (by decide) d));rw[a8.out]at z;go_wp;refine z.out.mono ?_;rintro r aa⟨rfl,A⟩;dsimp only;go_wp;exact zaa (v:=U F) rfl A
   case hend =>
    intro x m h f;have cp:x 29=U F:=f.2.2.2.2.2.2.1;clear f;simp only[zS,zD,zU,Qh,Qm,zav,Act.put,cp];rcases Vh F with h0|h0
    ·subst h0;have ch:=zH (a9.out.trans1 (Kept2.ofExt h));have Y:=zH (show zaq (b,c,i,n) ⟨k,es,s,t,cs,an,am⟩=⟨k,es,zbc s b,zcr t (b,c,i,n),cs,an,am⟩ by unfold zaq;simp only;rw[a8.out];rfl);have aj:=zH h;clear h;go_wp2_with fail
     go_end0
     obtain⟨au,av⟩:=br.out;refine⟨_,_,_,rfl,by rw[Y.out];exact ak.out.ext aj.out,?_,ch.out⟩;rw[Y.out];exact⟨((ah.out.ext aj.out).seen).mono (by decide) fun b _ l=>.inl l,((zqb au).ext (by decide) aj.out).mono (by decide) fun b _ l=>.inr l,((av.ext aj.out).sl (by decide) (fun b _ l=>.inr (Qc ad l)) (fun b l _=>.inr (Qc ad l)))⟩
    have h1:(F:Int)>0:=(by omega);have bj:=h;have bs:=zH (a9.out.trans1 (Kept2.ofExt h));have X:=cc.ext h;have ap:=h.cell d1;have bb:=h.cell b0;have bc:=h.cell ao;clear h;go_wp2_with fail;obtain⟨c9,b6⟩:∃H,m=H:=⟨_,rfl⟩
    rw[b6]at bj bs X ap bb bc ⊢;clear b6;refine zat [fun v _=>v=Xb (some ⟨g,o,none⟩),fun v _=>v=Xb (some ⟨g,o,none⟩),fun v _=>v=Xb (some ⟨g,o+1,none⟩),fun v _=>v=Xa a5 es.length bm,fun v _=>v=Xb (some ⟨B,2,none⟩),fun v _=>v=St i,fun v _=>v=U G,fun v _=>v=Xb (some ⟨B,3,none⟩),fun v _=>v=U n,fun v _=>v=Xb (some ⟨B,1,none⟩),fun v _=>v=U c,fun v _=>v=U (n+c),fun v _=>v=U (max G (n+c))] rfl (by kernel_rfl) ?hR ?hstep ?hend
    case hR=>simp only[zM];exact⟨kP,kP,kP,kP,kP,kP,kP,kP,kP,kP,kP,kP,kP⟩
    case hstep =>
     simp only[zS,zD,Qh,zbj]
     and_intros<;>intro x W d f
     ·have h0:x 0=Xb (some ⟨g,o,none⟩):=f.1;go_wp;exact sQ
     iterate 2 · have h0:_=_:=f.1;go_wp;exact sQ
     ·have h0:_=_:=f.1;have q:=d.cell ap;go_wp;exact sQ
     ·have h0:x 1=Xb (some ⟨B,0,none⟩):=f.1;go_wp;exact sQ
     ·have h0:_=_:=f.1;have az:=(X.ext d).cell (j:=2) rfl;go_wp;exact sQ
     ·have h0:_=_:=f.1;have h1:_=_:=f.2.1;have C:=d.size;have z:=zH (ze1 i (ah.out.seen.ext (by decide) (bj.trans d)));rw[bv.out]at z;go_wp;refine z.out.mono ?_;rintro r aa⟨rfl,A⟩;dsimp only;go_wp;exact zaa (v:=U G) rfl A
     ·have h0:x 1=Xb (some ⟨B,0,none⟩):=f.1;go_wp;exact sQ
     ·have h0:_=_:=f.1;have q3:=(X.ext d).cell (j:=3) rfl;go_wp;exact sQ
     ·have h0:x 1=Xb (some ⟨B,0,none⟩):=f.1;go_wp;exact sQ
     ·have h0:_=_:=f.1;have q1:=(X.ext d).cell (j:=1) rfl;go_wp;exact sQ
     ·have h0:_=_:=f.1;have h1:_=_:=f.2.1;go_wp;exact sQ
     have h0:_=_:=f.1;have h1:_=_:=f.2.1;go_wp;exact zaa (congrArg (Value.int .u64) (by omega)) (Xi _)
    case hend =>
     intro x m h f;have b3:x 43=U (max G (n+c)):=f.2.2.2.2.2.2.2.2.2.2.2.2.1;clear f;simp only[zS,zD,zU,Qh,Qm,zav,Act.put,b3];obtain⟨y,bi⟩:∃u,max G (n+c)=u:=⟨_,rfl⟩
     have ck:=zH bi;rw[bi];have K:=bj.trans h;have bo:=X.ext h;have bq:=zH (ah.out.ext K);have bd:=h.cell ap;have cn:=h.cell bb;have co:=h.cell bc;have bt:=zH (a9.out.trans1 (Kept2.ofExt K));clear bi h X ap bb bc b3 bs;go_wp2_with fail;obtain⟨al,b7⟩:∃H,m=H:=⟨_,rfl⟩
     rw[b7]at K bt bo bd cn co bq ⊢;clear b7;refine zat [fun v _=>v=Xb (some ⟨g,o,none⟩),fun v _=>v=Xb (some ⟨g,o,none⟩),fun v _=>v=Xb (some ⟨g,o,none⟩),fun v _=>v=Xb (some ⟨g,o+1,none⟩),fun v _=>v=Xa a5 es.length bm,fun v _=>v=Xb (some ⟨B,0,none⟩),fun v _=>v=St b,fun v W=>Own W al.heap.size 97 2 v (zau es b).length ((zau es b).flatMap zaj),fun v _=>v=Xb (some ⟨B,2,none⟩),fun v _=>v=St i,fun v _=>v=U y,fun v W=>Own W al.heap.size 97 2 v (setM (zau es b) i y).length ((setM (zau es b) i y).flatMap zaj)] rfl (by kernel_rfl) ?hR ?hstep ?hend
     case hR=>simp only[zM];exact⟨kP,kP,kP,kP,kP,kP,kP,fun v _ _ l d=>l.ext d,kP,kP,kP,fun v _ _ l d=>l.ext d⟩
     case hstep =>
      simp only[zS,zD,Qh,zbj]
      and_intros<;>intro x W d f
      ·have h0:x 0=Xb (some ⟨g,o,none⟩):=f.1;go_wp;exact sQ
      ·have h0:x 0=Xb (some ⟨g,o,none⟩):=f.1;go_wp;exact sQ
      iterate 2 · have h0:_=_:=f.1;go_wp;exact sQ
      ·have h0:_=_:=f.1;have q:=d.cell bd;go_wp;exact sQ
      ·have h0:x 1=Xb (some ⟨B,0,none⟩):=f.1;go_wp;exact sQ
      ·have h0:_=_:=f.1;have bn:=(bo.ext d).cell (j:=0) rfl;go_wp;exact sQ
      ·have h0:_=_:=f.1;have h1:_=_:=f.2.1;have C:=d.size;have z:=zH (zkr b (bq.out.seen.ext (by decide) d) bu);go_wp;refine z.out.mono ?_;rintro r aa⟨v3,rfl,J,A⟩;dsimp only;go_wp;exact zaa (v:=v3) (J.lower C) A
      ·have h0:x 1=Xb (some ⟨B,0,none⟩):=f.1;go_wp;exact sQ
      ·have h0:_=_:=f.1;have az:=(bo.ext d).cell (j:=2) rfl;go_wp;exact sQ
      ·have h0:x 3=U y:=f.1;go_wp;exact sQ
      have h0:Own W al.heap.size 97 2 (x 51) (zau es b).length ((zau es b).flatMap zaj):=f.1;obtain⟨c6,da,cx,-,-⟩:=h0.form;rw[cx]at h0;have h1:_=_:=f.2.1;have db:_=_:=f.2.2.1;have C:=d.size;have z:=zH (zj9 i y (zbb h0) (Qc (zh4 es b) bu));clear h0;go_wp;refine z.out.mono ?_;rintro r aa⟨v3,rfl,J,A⟩;dsimp only;go_wp;exact zaa (v:=v3) (J.lower C) A
     case hend =>
      intro x m h f;have cq:x 44=Xb (some ⟨g,o,none⟩):=f.1;have aq:Own m al.heap.size 97 2 (x 55) (setM (zau es b) i y).length ((setM (zau es b) i y).flatMap zaj):=f.2.2.2.2.2.2.2.2.2.2.2.1;clear f;obtain⟨ag,ay,b4,-,-⟩:=aq.form;rw[b4]at aq;simp only[zS,zD,zU,Qh,Qm,zav,Act.put,cq,b4];have c8:=zH K.size;have dg:=K.size;have q1:=h.cell bd;have dh:m.frozen? ⟨g,o+1,none⟩=false:=(ak.out.ext (K.trans h)).frozen (o+1);go_wp2_with fail
      go_end0
      obtain⟨au,av⟩:=br.out
      have Y:zaq (b,c,i,n) ⟨k,es,s,t,cs,an,am⟩=⟨k,setM (zau es b) i y,zbc s b,zcr t (b,c,i,n),cs,an,am⟩:=by unfold zaq;simp only;rw[zP (by rw[a8.out];exact h0),bv.out,ck.out]
      have bk:=K.trans h;have dc:g<ba.heap.size:=ak.out.lt;refine⟨Xa ag (setM (zau es b) i y).length ay,Xa L (zbc s b).length R,bz,rfl,?_,?_,(bt.out.trans1 (Kept2.ofExt h)).set (o+1) _⟩
      ·rw[Y];exact((ak.out.ext bk).set2 P _).1
      rw[Y];have a1:=aq.keep (w':=m.setCell ⟨g,o+1,none⟩ (Xa ag (setM (zau es b) i y).length ay)) fun b hb _=>Qb _ _ _ _ (by have:=(aq.base_le hb).1;show b≠g;omega)
      have a2:=(au.ext bk).keep (w':=m.setCell ⟨g,o+1,none⟩ (Xa ag (setM (zau es b) i y).length ay)) fun b hb _=>Qb _ _ _ _ (by have:=(au.base_le hb).1;show b≠g;omega)
      have a3:=(av.ext bk).keep (w':=m.setCell ⟨g,o+1,none⟩ (Xa ag (setM (zau es b) i y).length ay)) (fun b hb _=>Qb _ _ _ _ (by show b≠g;omega)) fun b hb _=>Qb _ _ _ _ (by have:=(av.base_le hb).1;show b≠g;omega)
      exact⟨(zbb a1).mono (by decide) fun b _ l=>.inr (by omega),(zqb a2).mono (by decide) fun b _ l=>.inr l,a3.sl (by decide) (fun b _ l=>.inr (Qc ad l)) (fun b l _=>.inr (Qc ad l))⟩
theorem RowE.turn {W:Xg}{m z:Nat}{v:Xh}{l:List Entry}{i:Nat}{e:Entry}(h:RowE W m z v l)(hi:l[i]? = some e):∃g s X1 X2 tail v1 v2 v3,v=Xa (some ⟨g,0,none⟩) l.length s/\m<=g/\RowIs W g 46 (X1++(entL e v1 v2 v3++X2)) tail/\X1.length=i * 7/\EntAt W (SE m z v) e v1 v2 v3/\¬SE m z v g /\
  ∀t f o p q,RowIs t g 46 (X1++(entL f o p q++X2)) tail->Kept2 W t g g->EntAt t (fun b=>SE m z v b ∨ W.heap.size<=b) f o p q->z<W.heap.size->RowE t m z v (l.set i f):=by
 obtain⟨vss,h1,u,Z⟩:=h;have ad:=(Qd.1 hi).1;obtain⟨g,s,tail,rfl,R,C,af,ac,I⟩:=Z.row (by omega);have y:i<vss.length:=by omega
 obtain⟨vs,T⟩:∃vs,vss[i]? = some vs:=⟨_,Qg y⟩
 have ah:=u i e vs hi T;have aj:vss[i]=vs:=(Qd.1 T).2;have S:vss=vss.take i++vs::vss.drop (i+1):=by rw[<- aj,Vc,List.take_append_drop]
 have J:vss.flatten=(vss.take i).flatten++(vs++(vss.drop (i+1)).flatten):=by conv=>lhs;rw[S];simp
 have O:∀L:List (List Xh),(∀x∈L,x.length=7)->L.flatten.length=L.length * 7:=by
  intro L
  induction L with
  | nil=>simp
  | cons a r ak=>intro H;simp only[List.flatten_cons,Yd,Qs];rw[ak fun x d=>H x (by simp[d]),H a (by simp)];omega
 have A:∀x∈vss,x.length=7:=fun x d=>by
  obtain⟨j,M⟩:=List.getElem?_of_mem d;have ae:j<l.length:=by rw[<- h1];exact(Qd.1 M).1
  exact entryT.len (u j _ x (Qg ae) M)
 have ab:(vss.take i).flatten.length=i * 7:=by rw[O _ fun x d=>A x (Qx d),Qe];congr 1;omega
 obtain⟨v1,v2,v3,rfl,V,X,Y⟩:=ah;have B:zad (Xa (some ⟨g,0,none⟩) l.length s) g:=⟨g,_,s,rfl,by omega,rfl⟩
 rw[J]at C;refine⟨g,s,_,_,tail,v1,v2,v3,rfl,R,C,ab,⟨V,X,Y⟩,fun ai=>ai.2.2 B,fun t f o p q ag hk ha aq=>?_⟩;have ap:=C.lt;have aa:∀b,W.heap.size<=b->SE m z (Xa (some ⟨g,0,none⟩) l.length s) b:=fun b hb=>⟨by omega,by omega,fun⟨an,ar,al,U,ao,am⟩=>by cases U;omega⟩
 refine⟨vss.take i++entL f o p q::vss.drop (i+1),by simp;omega,fun j x G d n=>?_,?_⟩
 ·by_cases N:j=i
  ·subst N
   have F:G=entL f o p q:=by rw[Qi (by simp;omega)]at n;simp only[Qe,Qz (Vi y),Yp,List.getElem?_cons_zero,Option.some.injEq]at n;exact n.symm
   have D:x=f:=by rw[Vd ad]at d;exact(Yn d).symm
   subst F D;exact entryT.mono (ha.rd (S':=fun b=>SE m z (Xa (some ⟨g,0,none⟩) l.length s) b ∨ W.heap.size<=b) fun b _ h=>h) fun b _ h=>h.elim (fun h=>by simpa using h) fun h=>by simpa using aa b h
  have D:l[j]? = some x:=by rwa[Ve (fun e=>N e.symm)]at d
  have F:vss[j]? = some G:=by
   rw[S]
   by_cases Q:j<i
   ·rw[Yw (by simp;omega)]at n ⊢;exact n
   rw[Qi (by simp;omega)]at n ⊢;rw[Qe,Qz (Vi y)]at n ⊢;obtain⟨k,hk⟩:∃k,j-i=k+1:=⟨j-i-1,by omega⟩
   rw[hk]at n ⊢;exact n
  have:=entryT.keep (w':=t) (u j x G D F) fun b hb Q=>hk.other b Q (fun e=>hb.2.2 (e▸B)) (fun e=>hb.2.2 (e▸B))
  simpa using this
 have K:(vss.take i++entL f o p q::vss.drop (i+1)).flatten=(vss.take i).flatten++(entL f o p q++(vss.drop (i+1)).flatten):=by simp
 rw[Vr,K]
 have P:((vss.take i).flatten++(entL f o p q++(vss.drop (i+1)).flatten)).length=l.length * 7:=by
  rw[<- K,O _ (fun x d=>?_)]
  ·simp;omega
  rcases Vs.1 d with d|d
  ·exact A x (Qx d)
  rcases Yt.1 d with rfl|d
  ·rfl
  exact A x (List.mem_of_mem_drop d)
 refine ag.own R af ac ?_ ?_ P
 ·rw[J]at I
  simpa using I
 rw[show l.length * entryT.k=l.length * 7 from rfl,<- P,Yy]
theorem zr9 (l:List Str):l.flatMap strC=l.map (fun s=>St s):=by
 induction l with
 | nil=>rfl
 | cons a r d=>simp[d,strC]
theorem zvr {l:List Str}{s:Str}{i:Nat}(hR:RiseS l)(hF:Found l s i false):i<=l.length/\l.take i++s::l.drop i=insP l s:=by
 have k:=hF.no hR
 have f:∀(j:Nat) (x:Str),i<=j->l[j]? = some x->ltS s x=true:=fun j x e d=>by
  rcases zcj s x with h|h|h
  ·exact h
  ·exact absurd (h▸Qn d) k
  rw[hF.2.1.2 j _ e d]at h;cases h
 refine⟨hF.1,?_⟩;unfold insP;rw[zj7 (i:=i) (fun j x e d=>hF.2.1.1 j _ e d) (fun j x e d=>hF.2.1.2 j _ e d),zj8 (i:=i) (fun j x e d=>zc8 (hF.2.1.1 j _ e d)) f]
theorem yap (l:List Str)(s:Str){i:Nat}(h:l.take i++s::l.drop i=insP l s)(hi:i<=l.length):(insP l s).length=l.length+1:=by
 rw[<- h];simp;omega
theorem zsa {w W:Xg}{z m q:Nat}{v1 v2 v3:Xh}{s:State}{k:List Xh}(h1:Own W w.heap.size 97 2 v1 s.all.length (s.all.flatMap zaj))(j:RowE W m z v2 s.entries)(f:Own W w.heap.size 9 1 v3 s.pruned.length (s.pruned.flatMap strC))(h:RowIs W q 26 k [])(n:q<m)(i:w.heap.size<=m):StAt (put3 W q v1 v2 v3) (fun b=>w.heap.size<=b) s v1 v2 v3:=by
 have hk:=zda W q v1 v2 v3;have a1:=h1.keep (w':=put3 W q v1 v2 v3) fun b hb _=>hk b (fun e=>h1.apart h (by decide) (e▸hb))
 have a3:=f.keep (w':=put3 W q v1 v2 v3) fun b hb _=>hk b (fun e=>f.apart h (by decide) (e▸hb))
 have a2:RowE (put3 W q v1 v2 v3) m z v2 s.entries:=j.keep fun b hb l _=>hk b (by omega)
 exact⟨zbb a1,OwnL.sl a2 (by decide) (fun b _ d=>Qc i d.1) (fun b d _=>Qc i d),zjq a3⟩
theorem zvs (b:Str)(c:Nat)(d:Str)(n:Nat)(w:Xg):Calls Tryz.prog 41 #[prV (b,c,d,n)] w fun e w'=>e=Xf (.func (.func 91) #[] #[Xb (some ⟨w.heap.size,0,none⟩)])/\w'=w.alloc (Xe #[St b,U c,St d,U n] 29):=by
 go_enter Tryz.func41,Tryz.ntmps41;go_wp2;go_ret;exact⟨rfl,rfl⟩
theorem yaq {α:Type}{T:α->α}{l:List α}{j:Nat}{e:α}(d:l[j]? = some e):((l.take j).map T++l.drop j)[j]? = some e/\((l.take j).map T++l.drop j).set j (T e)=(l.take (j+1)).map T++l.drop (j+1):=by
 have i:=(Qd.1 d).1;have f:l.drop j=e::l.drop (j+1):=by rw[<- (Qd.1 d).2,Vc]
 have h:((l.take j).map T).length=j:=by simp;omega
 constructor
 ·rw[Qi (by omega),h,Yp,f]
  rfl
 rw[List.set_append_right _ _ (by omega),h,Yp,f,Qp,Vk,d];simp
theorem ziv {S:Nat->Prop}{s:State}{v1 v2 v3:Xh}{w:Xg}(p:PrD)(L:StAt w S s v1 v2 v3)(eh:SmallS s) :
  Calls Tryz.prog 10 #[stV v1 v2 v3,prV p] w fun r w'=>∃ei ej ek,r=Xf (Xd #[stV ei ej ek,I (zbh s p).2])/\StAt w' (fun b=>w.heap.size<=b) (zbh s p).1 ei ej ek/\Ext w w':=by
 have aw:=zH (show zbh s p=if mayS s&&mayP p then(if p.1∈s.pruned then(s,0)else if 0<ofM s.all p.1 then(if zc3 s.all p then(⟨zau s.all p.1,s.entries.map (zaq p),insP s.pruned p.1⟩,0)else(za1,170))else(⟨s.all,s.entries,insP s.pruned p.1⟩,0))else(za1,2)from rfl);have dg:=zH (fun a2:mayS s=true=>(mayS_iff.1 a2).risep);have em:=zH (fun ar:mayP p=true=>(show p.2.2.2+p.2.1<18446744073709551616 by simp only[mayP,Qf,decide_eq_true_eq]at ar;omega));have ax:=zH eh;obtain⟨h,d,f⟩:=s;obtain⟨b,c,k,n⟩:=p;obtain⟨bm,b2,bn,b3,bo,b4,rfl,rfl,rfl⟩:=L.fm;obtain⟨br,a0⟩:∃ah,((w.alloc (Xe #[Xa bm h.length b2,Xa bn d.length b3,Xa bo f.length b4] 26)).alloc (Xe #[St b,U c,St k,U n] 29)).alloc (Xe #[Xa none 0 0,Xa none 0 0,Xa none 0 0] 26)=ah:=⟨_,rfl⟩
 have cw:Ext w br:=by rw[<- a0];exact(((Xi w).alloc _).alloc _).alloc _
 have d8:RowIs br w.heap.size 26 [Xa bm h.length b2,Xa bn d.length b3,Xa bo f.length b4] []:=by rw[<- a0];exact((zaf w _ _).alloc _).alloc _
 have fl:RowIs br (w.heap.size+1) 29 [St b,U c,St k,U n] []:=by rw[<- a0];have L:=zaf (w.alloc (Xe #[Xa bm h.length b2,Xa bn d.length b3,Xa bo f.length b4] 26)) 29 [St b,U c,St k,U n];simp only[Ql]at L;exact L.alloc _
 have fp:RowIs br (w.heap.size+2) 26 [Xa none 0 0,Xa none 0 0,Xa none 0 0] []:=by rw[<- a0];have L:=zaf ((w.alloc (Xe #[Xa bm h.length b2,Xa bn d.length b3,Xa bo f.length b4] 26)).alloc (Xe #[St b,U c,St k,U n] 29)) 26 [Xa none 0 0,Xa none 0 0,Xa none 0 0];simp only[Ql]at L;exact L
 have ff:w.heap.size+3<=br.heap.size:=by rw[<- a0];simp
 have hj:=zH ((L.mono (S':=fun b=>b<w.heap.size) (fun b hb _=>hb)).ext cw);have cb:=zH (zng (L.ext cw) eh);obtain⟨bs,bt,bu⟩:=d8.p3;clear L eh;go_enter Tryz.func10,Tryz.ntmps10;refine wpH ?_;intro K F;go_wp2_with fail
 (try rw[a0])
 clear a0;refine F.out _ _ ?_;clear F K;refine wpH ?_;intro K F;go_wp2_with fail;refine cb.out.mono ?_;rintro r hw⟨rfl,a4⟩;have dz:=cw.trans a4;have fi:=d8.ext a4;have ec:=fl.ext a4;have c8:=fp.ext a4;have fg:=Qc ff a4.size;have cb:=zH (hj.out.ext a4);clear cw d8 fl fp ff a4 bs bt bu
 cases a2:mayS ⟨h,d,f⟩
 case false=>
  have x:=zH (show zbh ⟨h,d,f⟩ (b,c,k,n)=(za1,2) by rw[aw.out,a2];rfl);clear aw dg a2;obtain⟨r0,r1,ap⟩:=c8.p3;obtain⟨f0,f1,cg⟩:=c8.q3;have ag:=zH dz;go_wp2_with fail
  (try simp only[Exit.inBlock,Exit.then])
  refine bodyPost_ret (v:=Xd #[stV (Xa none 0 0) (Xa none 0 0) (Xa none 0 0),I 2]) (by simp[results,Tryz.f10,go_sem,r0,r1,ap]) rfl ?_;have ak:=zbn (q:=w.heap.size+2) ag.out (by omega) (Xa none 0 0) (Xa none 0 0) (Xa none 0 0);refine⟨Xa none 0 0,Xa none 0 0,Xa none 0 0,by(rw[x.out];try rfl),?_⟩;rw[x.out];exact⟨StAt.none _ _ _ _ _,ak⟩
 have eo:=zH (zr5 (b,c,k,n) hw);obtain⟨Z,b5,b6,p3⟩:=ec.p4;have ce:=zH (dg.out a2);have ht:=aw;have cd:=zH a2;clear dg a2;go_wp2_with fail;refine eo.out.mono ?_;rintro r hx⟨rfl,a5⟩;have cx:=dz.trans a5;have d9:=fi.ext a5;have fn:=ec.ext a5;have c9:=c8.ext a5;have d3:=Qc fg a5.size;have da:=zH (cb.out.ext a5);clear fi ec c8 fg a5 Z b5 b6 p3 dz eo cb
 cases ar:mayP (b,c,k,n)
 case false=>
  have x:=zH (show zbh ⟨h,d,f⟩ (b,c,k,n)=(za1,2) by rw[aw.out,cd.out,ar];rfl);clear aw cd ar;obtain⟨r0,r1,ap⟩:=c9.p3;obtain⟨f0,f1,cg⟩:=c9.q3;have ag:=zH cx;go_wp2_with fail
  (try simp only[Exit.inBlock,Exit.then])
  refine bodyPost_ret (v:=Xd #[stV (Xa none 0 0) (Xa none 0 0) (Xa none 0 0),I 2]) (by simp[results,Tryz.f10,go_sem,r0,r1,ap]) rfl ?_;have ak:=zbn (q:=w.heap.size+2) ag.out (by omega) (Xa none 0 0) (Xa none 0 0) (Xa none 0 0);refine⟨Xa none 0 0,Xa none 0 0,Xa none 0 0,by(rw[x.out];try rfl),?_⟩;rw[x.out];exact⟨StAt.none _ _ _ _ _,ak⟩
 have h4:=em.out ar;have ep:=zH ar;have dh:=zH (show zbh ⟨h,d,f⟩ (b,c,k,n)=if b∈f then(⟨h,d,f⟩,0)else if 0<ofM h b then(if zc3 h (b,c,k,n)then(⟨zau h b,d.map (zaq (b,c,k,n)),insP f b⟩,0)else(za1,170))else(⟨h,d,insP f b⟩,0) by rw[aw.out,cd.out,ar];rfl);have hl:=zH (zk2 da.out ax.out);obtain⟨bs,bt,bu⟩:=d9.p3;clear aw cd ar em ht;go_wp2_with fail;refine F.out _ _ ?_;clear F K;refine wpH ?_;intro K F;go_wp2_with fail;refine hl.out.mono ?_;rintro r bb⟨ei,ej,ek,rfl,⟨cp,cr,m,e4,h7,h5,a3⟩,a6⟩;obtain⟨G,c1,rfl,-,-⟩:=cp.form;obtain⟨t,c2,rfl,-,-⟩:=a3.form;obtain⟨B,C,rfl,-,-⟩:=cr.form;simp only at cp cr a3 ⊢;have fc:=cx.trans a6;obtain⟨o,b0⟩:∃z,bb.heap.size=z:=⟨_,rfl⟩
 rw[b0]at h7;have ev:RowE bb m o (Xa t d.length c2) d:=OwnL.mono a3.toT fun b hb L=>⟨L.1,by omega,L.2⟩
 obtain⟨et,ci⟩:∃ah,bb.alloc (Xe #[Xa G h.length c1,Xa t d.length c2,Xa B f.length C] 26)=ah:=⟨_,rfl⟩
 have am:Ext bb et:=(by rw[<- ci];exact(Xi bb).alloc _);have d6:RowIs et o 26 [Xa G h.length c1,Xa t d.length c2,Xa B f.length C] []:=(by rw[<- ci,<- b0];exact zaf bb _ _);have fd:=fc.trans am;have iy:w.heap.size+3<=m:=Qc d3 e4;have e1:w.heap.size<=hx.heap.size:=cx.size;have e7:=(cp.ext am).lower e1;have du:=(cr.ext am).lower e1;have ew:=ev.ext am;have en:=zH (zti b (zjq du) ce.out (Qc ax.out.pruned (by decide)));have fj:=(d9.ext a6).ext am;have ed:=(fn.ext a6).ext am;have fq:=(c9.ext a6).ext am;have c3:=d6.cell (j:=2) rfl;have Z:=ed.cell (j:=0) rfl;have i3:w.heap.size+3<=o:=(by rw[<- b0];exact Qc d3 a6.size);have el:=zH ((da.out.ext a6).ext am);clear cp cr a3 ev a6 am fc cx e4 d9 fn c9 d3 bs bt bu da;go_wp2_with fail
 (try rw[b0])
 (try rw[ci])
 clear ci b0;refine F.out _ _ ?_;clear F K;refine wpH ?_;intro K F;go_wp2_with fail;refine en.out.mono ?_;rintro r it⟨i,is,rfl,hF,aa⟩;have d0:=fd.trans aa;have d7:=d6.ext aa;have dt:=e7.ext aa;have dv:=du.ext aa;have dn:=ew.ext aa;have ea:=fj.ext aa;have ee:=ed.ext aa;have b8:=fq.ext aa;have cc:=zH (el.out.ext aa);clear fd d6 e7 du ew fj ed fq aa c3 Z en el;go_wp2_with fail;refine F.out _ _ ?_;clear F K;refine wpH ?_;intro K F
 cases is
 case true=>
  have bw:b∈f:=Qn hF.yes;have x:=zH (show zbh ⟨h,d,f⟩ (b,c,k,n)=(⟨h,d,f⟩,0) by rw[dh.out,zP bw]);obtain⟨c0,q1,c3⟩:=d7.p3;obtain⟨r0,r1,ap⟩:=b8.p3;obtain⟨f0,f1,cg⟩:=b8.q3;have ag:=zH d0;clear bw hF;go_wp2_with fail
  (try simp only[Exit.inBlock,Exit.then])
  refine bodyPost_ret (v:=Xd #[stV (Xa G h.length c1) (Xa t d.length c2) (Xa B f.length C),I 0]) (by simp[results,Tryz.f10,go_sem,r0,r1,ap]) rfl ?_;have ak:=zbn (q:=w.heap.size+2) ag.out (by omega) (Xa G h.length c1) (Xa t d.length c2) (Xa B f.length C);have dr:=zsa (s:=⟨h,d,f⟩) dt dn dv b8 (by omega) (by omega);refine⟨_,_,_,by(rw[x.out];try rfl),?_⟩;rw[x.out];exact⟨dr,ak⟩
 have bw:=hF.no ce.out;have bp:=zH (show zbh ⟨h,d,f⟩ (b,c,k,n)=if 0<ofM h b then(if zc3 h (b,c,k,n)then(⟨zau h b,d.map (zaq (b,c,k,n)),insP f b⟩,0)else(za1,170))else(⟨h,d,insP f b⟩,0) by rw[dh.out,zN bw]);have de:=zH (zvr ce.out hF);have df:=zH (ze1 b (cc.out.all));have c0:=ea.cell (j:=0) rfl;have Z:=ee.cell (j:=0) rfl;clear bw dh hF;go_wp2_with fail;refine F.out _ _ ?_;clear F K;refine wp_seq_k ?_;intro K hK
 have es:∀ ⦃hg ft fu fv fw fx fy fz f2 f3 f4 f5 f6 f7 f8 f9 ga gb gc gd ge gf gg gh gi gj gl gm gn gp gq gr gs gt gu gv gw gx gy gz g0 g1 g2 g3 g4 g5 g6 g7 g8 g9 ha hc hd he hf:Xh⦄ (W:Xg) (ai:List Mark) (ay:List Entry) (N:Option Addr) (d1:Nat),ay.length=d.length ->
   RowIs W o 26 [Xa N ai.length d1,Xa t d.length c2,Xa B f.length C] []->RowIs W (w.heap.size+1) 29 [St b,U c,St k,U n] []->RowIs W (w.heap.size+2) 26 [Xa none 0 0,Xa none 0 0,Xa none 0 0] [] ->
   Own W w.heap.size 97 2 (Xa N ai.length d1) ai.length (ai.flatMap zaj)->RowE W m o (Xa t d.length c2) ay->Own W w.heap.size 9 1 (Xa B f.length C) f.length (f.flatMap strC)->Ext w W->zbh ⟨h,d,f⟩ (b,c,k,n)=(⟨ai,ay,insP f b⟩,0) ->
   K ⟨#[stV (Xa bm h.length b2) (Xa bn d.length b3) (Xa bo f.length b4),prV (b,c,k,n),Xb (some ⟨w.heap.size,0,none⟩),Xb (some ⟨w.heap.size+1,0,none⟩),Xb (some ⟨w.heap.size+1+1,0,none⟩),.int .i64 0,Xb (some ⟨o,0,none⟩),I i,Xc false,hg,ft,fu,fv,fw,fx,fy,fz,f2,f3,f4,f5,f6,f7,f8,f9,ga,gb,gc,gd,ge,gf,gg,gh,gi,gj,gl,gm,gn,gp,gq,gr,gs,gt,gu,gv,gw,gx,gy,gz,g0,g1,g2,g3,g4,g5,g6,g7,g8,g9,ha,hc,hd,he,hf,Qa,Qa,Qa,Qa,Qa,Qa,Qa,Qa,Qa],[]⟩ W:=by
  intro hg ft fu fv fw fx fy fz f2 f3 f4 f5 f6 f7 f8 f9 ga gb gc gd ge gf gg gh gi gj gl gm gn gp gq gr gs gt gu gv gw gx gy gz g0 g1 g2 g3 g4 g5 g6 g7 g8 g9 ha hc hd he hf W ai ay N d1 iz c5 fk eg h1 dm aq cv hR;have x:=zH hR;have hu:=zH ax.out.pruned;refine hK _ _ ?_;have c3:=c5.cell (j:=2) rfl;have Z:=fk.cell (j:=0) rfl;have e3:=de.out.1;clear hK K hR bp df c0 ce ax cc ep;obtain⟨il,fb⟩:∃z,W.heap.size=z:=⟨_,rfl⟩
  obtain⟨dj,ck⟩:∃ah,W.alloc (Xe #[St b] 9)=ah:=⟨_,rfl⟩
  have au:Ext W dj:=(by rw[<- ck];exact(Xi W).alloc _);have ik:RowIs dj il 9 [St b] []:=(by rw[<- ck,<- fb];exact zaf W _ _);have i2:=cv.size;have ib:=(cv.trans au).size;have eu:=aq.ext au;have ba:=zH (ztk (i:=i) eu ik rfl (by intro u bz;simp at bz;subst bz;rfl) (by intro u bz;rw[zr9]at bz;obtain⟨y,-,rfl⟩:=Qk.1 bz;rfl) e3 hu.out ib (fun bk=>by have:=(aq.base_le bk).2;omega));have hk:=zH (fun l (bk:zad (Xa B f.length C) l)=>(aq.base_le bk).1);have hr:=zH (aq.apart c5 (by decide));have hs:=zH (aq.apart eg (by decide));have hp:=zH (h1.apart2 aq (by decide));obtain⟨i4,a3⟩:=dm.own;have hq:=zH (a3.apart2 aq (by decide));have ii:=c5.ext au;have ij:=eg.ext au;have hz:=h1.ext au;have h3:=dm.ext au;have ic:=cv.trans au;clear c5 fk eg h1 dm aq cv au eu a3;go_wp2_with fail
  (try rw[fb])
  (try rw[ck])
  clear ck;refine ba.out.mono ?_;rintro r H⟨v',rfl,ct,e2⟩;have bj:=e2.moved (Xi dj);have M:=ii.mvR bj.mv hr.out;have a9:=ij.mvR bj.mv hs.out;have dl:=hz.mvR bj.mv hp.out;have az:RowE H m o (Xa t d.length c2) ay:=h3.keep fun l A co h8=>bj.mv.2 l co fun bk=>h8.elim (fun _=>by have:=h5 l (.inr bk);omega) fun h2=>hq.out l h2 bk
  have fe:=ic.moved bj hk.out
  have cu:Own H w.heap.size 9 1 v' (insP f b).length ((insP f b).flatMap strC):=by
   rw[yap f b de.out.2 e3,<- de.out.2];rw[zr9]at ct ⊢;rw[<- List.map_take,<- List.map_drop]at ct
   simpa using ct
  obtain⟨ca,cf,rfl,-,-⟩:=cu.form;have i6:=M.cell (j:=2) rfl;have iw:=M.frozen 2;have aj:=M.set (j:=2) (by simp) (Xa ca (insP f b).length cf);simp only[Yc,Qp]at aj;obtain⟨O,cj⟩:∃ah,H.setCell ⟨o,2,none⟩ (Xa ca (insP f b).length cf)=ah:=⟨_,rfl⟩
  have cn:∀l,l≠o->O.heap[l]? = H.heap[l]?:=fun l A=>by rw[<- cj];exact Qb _ _ _ _ A
  have hy:=dl.keep (w':=O) fun l A _=>cn l (fun e=>dl.apart M (by decide) (e▸A))
  have ia:=cu.keep (w':=O) fun l A _=>cn l (fun e=>cu.apart M (by decide) (e▸A))
  have ch:RowE O m o (Xa t d.length c2) ay:=(by rw[<- cj];exact az.set M (by decide));have av:=a9.keep (cn _ (by omega));have R:Ext w O:=(by rw[<- cj];exact fe.set (by simp;omega) _);rw[cj]at aj;obtain⟨c0,q1,c3⟩:=aj.p3;obtain⟨r0,r1,ap⟩:=av.p3;obtain⟨f0,f1,cg⟩:=av.q3;have ag:=zH R;clear ct e2 bj M a9 dl az fe cu aj cn R;go_wp2_with fail
  (try simp only[Exit.inBlock,Exit.then])
  refine bodyPost_ret (v:=Xd #[stV (Xa N ai.length d1) (Xa t d.length c2) (Xa ca (insP f b).length cf),I 0]) (by simp[results,Tryz.f10,go_sem,r0,r1,ap]) rfl ?_;have ak:=zbn (q:=w.heap.size+2) ag.out (by omega) (Xa N ai.length d1) (Xa t d.length c2) (Xa ca (insP f b).length cf);have dr:=zsa (s:=⟨ai,ay,insP f b⟩) hy ch ia av (by omega) (by omega);refine⟨_,_,_,by(rw[x.out];try rfl),?_⟩;rw[x.out];exact⟨dr,ak⟩
 have di:=zH es;clear es hK;go_wp2_with fail;refine df.out.mono ?_;rintro r H⟨rfl,ab⟩;have cy:=d0.trans ab;have M:=d7.ext ab;have cq:=dt.ext ab;have cs:=dv.ext ab;have az:=dn.ext ab;have eb:=ea.ext ab;have b7:=ee.ext ab;have a9:=b8.ext ab;have db:=zH (cc.out.ext ab);clear d0 d7 dt dv dn ea ee b8 ab c0 Z df cc;obtain⟨hi,d4⟩:∃z,ofM h b=z:=⟨_,rfl⟩
 rw[d4]at bp;rw[d4];rcases Vh hi with h0|h0
 ·subst h0;have x:=zH (show zbh ⟨h,d,f⟩ (b,c,k,n)=(⟨h,d,insP f b⟩,0) by rw[bp.out,zN (by omega)])
  have dc:=zH (⟨M,b7,a9,cq,az,cs,cy⟩:RowIs H o 26 [Xa G h.length c1,Xa t d.length c2,Xa B f.length C] []/\RowIs H (w.heap.size+1) 29 [St b,U c,St k,U n] []/\RowIs H (w.heap.size+2) 26 [Xa none 0 0,Xa none 0 0,Xa none 0 0] [] /\
   Own H w.heap.size 97 2 (Xa G h.length c1) h.length (h.flatMap zaj)/\RowE H m o (Xa t d.length c2) d/\Own H w.heap.size 9 1 (Xa B f.length C) f.length (f.flatMap strC)/\Ext w H)
  clear M eb b7 a9 cq cs az cy db;go_wp2_with fail;obtain⟨dk,bc,bd,be,bf,bg,bh⟩:=dc.out;exact di.out H h d G c1 rfl dk bc bd be bf bg bh x.out
 have h6:(hi:Int)>0:=(by omega);have bq:=zH (show zbh ⟨h,d,f⟩ (b,c,k,n)=if zc3 h (b,c,k,n)then(⟨zau h b,d.map (zaq (b,c,k,n)),insP f b⟩,0)else(za1,170) by rw[bp.out,zP h0]);have eq:=zH (zk6 (b,c,k,n) ep.out db.out);obtain⟨bs,bt,bu⟩:=eb.p3;obtain⟨Z,b5,b6,p3⟩:=b7.p4;clear bp db h0 d4;go_wp2_with fail;refine eq.out.mono ?_;rintro r O⟨rfl,R⟩;simp only at bq ⊢;have d2:=cy.trans R;have c6:=M.ext R;have e8:=cq.ext R;have e9:=cs.ext R;have ch:=az.ext R;have ef:=b7.ext R;have av:=a9.ext R;clear cy M cq cs az eb b7 a9 R bs bt bu Z b5 b6 p3 eq h6
 cases al:zc3 h (b,c,k,n)
 case false=>
  have x:=zH (show zbh ⟨h,d,f⟩ (b,c,k,n)=(za1,170) by rw[bq.out,al];rfl);clear bq al di;obtain⟨r0,r1,ap⟩:=av.p3;obtain⟨f0,f1,cg⟩:=av.q3;have ag:=zH d2;go_wp2_with fail
  (try simp only[Exit.inBlock,Exit.then])
  refine bodyPost_ret (v:=Xd #[stV (Xa none 0 0) (Xa none 0 0) (Xa none 0 0),I 170]) (by simp[results,Tryz.f10,go_sem,r0,r1,ap]) rfl ?_;have ak:=zbn (q:=w.heap.size+2) ag.out (by omega) (Xa none 0 0) (Xa none 0 0) (Xa none 0 0);refine⟨Xa none 0 0,Xa none 0 0,Xa none 0 0,by(rw[x.out];try rfl),?_⟩;rw[x.out];exact⟨StAt.none _ _ _ _ _,ak⟩
 have x:=zH (show zbh ⟨h,d,f⟩ (b,c,k,n)=(⟨zau h b,d.map (zaq (b,c,k,n)),insP f b⟩,0) by rw[bq.out,al];rfl);obtain⟨Z,b5,b6,p3⟩:=ef.p4;have hv:=zH (zvs b c k n O);clear bq al;go_wp2_with fail;refine hv.out.mono ?_;rintro r P⟨rfl,dq⟩;have ac:Ext O P:=(by rw[dq];exact(Xi O).alloc _);obtain⟨cz,dw⟩:∃z,O.heap.size=z:=⟨_,rfl⟩
 have fo:RowIs P cz 29 [St b,U c,St k,U n] []:=(by rw[dq,<- dw];exact zaf O _ _);have q1:=(c6.ext ac).cell (j:=1) rfl
 have hn:=zH (⟨c6.ext ac,ef.ext ac,av.ext ac,fo,e8.ext ac,ch.ext ac,e9.ext ac,d2.trans ac⟩:RowIs P o 26 [Xa G h.length c1,Xa t d.length c2,Xa B f.length C] []/\RowIs P (w.heap.size+1) 29 [St b,U c,St k,U n] []/\RowIs P (w.heap.size+2) 26 [Xa none 0 0,Xa none 0 0,Xa none 0 0] [] /\
  RowIs P cz 29 [St b,U c,St k,U n] []/\Own P w.heap.size 97 2 (Xa G h.length c1) h.length (h.flatMap zaj)/\RowE P m o (Xa t d.length c2) d/\Own P w.heap.size 9 1 (Xa B f.length C) f.length (f.flatMap strC)/\Ext w P)
 have ie:o<P.heap.size:=(c6.ext ac).lt;have iv:∀args w,(callFunc 91 args).run Tryz.prog w=.ok (.enter 91 args) w:=enters_of Tryz.func91 (by kernel_rfl) rfl;clear dq ac c6 ef av fo e8 ch e9 d2 Z b5 b6 p3;go_wp2_with fail
 (try rw[dw])
 clear dw;have i1:d.length<=549755813888:=ax.out.entries
 go_loopw [48] (fun i wr=>∃j:Nat,i=I j/\j<=d.length/\o<wr.heap.size/\Hid (RowIs wr o 26 [Xa G h.length c1,Xa t d.length c2,Xa B f.length C] []/\RowIs wr (w.heap.size+1) 29 [St b,U c,St k,U n] []/\RowIs wr (w.heap.size+2) 26 [Xa none 0 0,Xa none 0 0,Xa none 0 0] [] /\
  RowIs wr cz 29 [St b,U c,St k,U n] []/\Own wr w.heap.size 97 2 (Xa G h.length c1) h.length (h.flatMap zaj)/\RowE wr m o (Xa t d.length c2) ((d.take j).map (zaq (b,c,k,n))++d.drop j)/\Own wr w.heap.size 9 1 (Xa B f.length C) f.length (f.flatMap strC)/\Ext w wr)) (fun i _=>d.length-(intOf i).toNat)
 case atStart=>exact⟨0,rfl,Ys _,ie,by simpa using hn⟩
 obtain⟨j,rfl,i0,fh,bi⟩:=hrel
 by_cases co:j<d.length
 ·obtain⟨e,cm⟩:∃e,d[j]? = some e:=⟨_,Qg co⟩
  obtain⟨fr,b9⟩:=yaq (T:=zaq (b,c,k,n)) cm;obtain⟨V,ad,an,ao,X,ae,Y,af⟩:=bi.out;obtain⟨g,iu,X1,X2,tail,w1,w2,im,h9,e5,Q,ey,e0,e6,bv⟩:=RowE.turn ae fr;injection h9 with hv1 hv2 hv3
  subst hv1;have er:=zH (zth (p:=(b,c,k,n)) Q ey e0 e6 ao h4 (ax.out.each e (Qn cm)));have ih:=V.cell (j:=1) rfl;have ir:=zH cm;have ba:=zH (⟨Q,bv,b9,e5⟩:RowIs wr g 46 (X1++(entL e w1 w2 im++X2)) tail/\_/\_/\_);clear V ad an ao X ae Y af fr b9 Q bv e0 e6 ey cm q1 hv2 hv3;go_wp2_with fail;refine er.out.mono ?_;rintro r J⟨io,ip,iq,rfl,fa,ez,a1⟩;obtain⟨Q,bv,b9,e5⟩:=ba.out;obtain⟨V,ad,an,ao,X,ae,Y,af⟩:=bi.out;have dp:=bv J _ io ip iq fa a1 ez fh;rw[b9]at dp;have b1:∀ {l T:Nat} {hh fs:List Xh},RowIs wr l T hh fs->46≠T->RowIs J l T hh fs:=fun al ex=>al.keep (a1.other _ al.lt (Q.apart al ex) (Q.apart al ex))
  have ho:=zH (⟨b1 V (by decide),b1 ad (by decide),b1 an (by decide),b1 ao (by decide),X.keep fun l A ds=>a1.other l ds (fun e=>X.apart Q (by decide) (e▸A)) (fun e=>X.apart Q (by decide) (e▸A)),dp,Y.keep fun l A ds=>a1.other l ds (fun e=>Y.apart Q (by decide) (e▸A)) (fun e=>Y.apart Q (by decide) (e▸A)),Ext.kept2 af a1 (by omega) (by omega)⟩ :
   RowIs J o 26 [Xa G h.length c1,Xa (some ⟨g,0,none⟩) d.length c2,Xa B f.length C] []/\RowIs J (w.heap.size+1) 29 [St b,U c,St k,U n] []/\RowIs J (w.heap.size+2) 26 [Xa none 0 0,Xa none 0 0,Xa none 0 0] [] /\
 RowIs J cz 29 [St b,U c,St k,U n] []/\Own J w.heap.size 97 2 (Xa G h.length c1) h.length (h.flatMap zaj)/\RowE J m o (Xa (some ⟨g,0,none⟩) d.length c2) ((d.take (j+1)).map (zaq (b,c,k,n))++d.drop (j+1))/\Own J w.heap.size 9 1 (Xa B f.length C) f.length (f.flatMap strC)/\Ext w J)
  have ig:=Yb fh a1.size;clear bi V ad an ao X ae Y af dp fa ez a1 bv Q b9 b1 ih ba er;go_wp2_with fail;go_roundw
  case rel=>exact⟨j+1,by simp,co,ig,ho⟩
  case measure=>simp[intOf];omega
 obtain rfl:j=d.length:=by omega
 obtain⟨V,ad,an,ao,X,ae,Y,af⟩:=bi.out;rw[Yy,List.drop_length,Va]at ae;have hm:=zH (zkr b (zbb X) (Qc ax.out.all (by decide)));have i5:=V.cell (j:=0) rfl;have Z:=ad.cell (j:=0) rfl;have ba:=zH ae;clear ad an ao X ae Y af V q1;go_wp2_with fail;refine hm.out.mono ?_;rintro r J⟨v',rfl,dx,a7⟩;obtain⟨N,d1,rfl,-,-⟩:=dx.form;obtain⟨V,ad,an,ao,X,ae,Y,af⟩:=bi.out;have a8:=V.ext a7;have i7:=a8.cell (j:=0) rfl;have ix:=a8.frozen 0;have aj:=a8.set (j:=0) (by simp) (Xa N (zau h b).length d1);simp only[Qp]at aj;obtain⟨D,cl⟩:∃ah,J.setCell ⟨o,0,none⟩ (Xa N (zau h b).length d1)=ah:=⟨_,rfl⟩
 have bx:∀l,l≠o->D.heap[l]? = J.heap[l]?:=fun l A=>by rw[<- cl];exact Qb _ _ _ _ A
 have dy:=dx.lower (af.size);have be:=dy.keep (w':=D) fun l A _=>bx l (fun e=>dy.apart a8 (by decide) (e▸A))
 have d5:=Y.ext a7;have bg:=d5.keep (w':=D) fun l A _=>bx l (fun e=>d5.apart a8 (by decide) (e▸A))
 have bf:RowE D m o (Xa t d.length c2) (d.map (zaq (b,c,k,n))):=(by rw[<- cl];exact(RowE.ext ba.out a7).set a8 (by decide));have bc:=(ad.ext a7).keep (w':=D) (bx _ (by omega));have bd:=(an.ext a7).keep (w':=D) (bx _ (by omega));have bh:Ext w D:=(by rw[<- cl];exact(af.trans a7).set (by simp;omega) _);rw[cl]at aj
 have dc:=zH (⟨aj,bc,bd,be,bf,bg,bh⟩:RowIs D o 26 [Xa N (zau h b).length d1,Xa t d.length c2,Xa B f.length C] []/\RowIs D (w.heap.size+1) 29 [St b,U c,St k,U n] []/\RowIs D (w.heap.size+2) 26 [Xa none 0 0,Xa none 0 0,Xa none 0 0] [] /\
  Own D w.heap.size 97 2 (Xa N (zau h b).length d1) (zau h b).length ((zau h b).flatMap zaj)/\RowE D m o (Xa t d.length c2) (d.map (zaq (b,c,k,n)))/\Own D w.heap.size 9 1 (Xa B f.length C) f.length (f.flatMap strC)/\Ext w D)
 clear V ad an ao X ae Y af a8 aj bx dx dy d5 bc bd be bf bg bh bi a7;go_wp2_with fail;obtain⟨dk,bc,bd,be,bf,bg,bh⟩:=dc.out;exact di.out D (zau h b) (d.map (zaq (b,c,k,n))) N d1 (by simp) dk bc bd be bf bg bh x.out
def zdk (s:State)(x:Str):State:=⟨s.all,s.entries,s.pruned.filter fun p=>!(p==x)⟩
theorem ztm (s m:Str){b:Nat}{w:Xg}(hb:w.cell? ⟨b,0,none⟩=some (St s)):Calls Tryz.prog 69 #[St m,Xb (some ⟨b,0,none⟩)] w fun e w'=>e=Xf (Xc (m==s))/\Ext w w':=by
 go_enter Tryz.func69,Tryz.ntmps69;go_wp2;go_ret;exact⟨by simp,Xi _⟩
theorem ztn (s:Str)(b base:Nat)(hb:b<base):PredS Tryz.prog 69 #[Xb (some ⟨b,0,none⟩)] base (fun W=>W.cell? ⟨b,0,none⟩=some (St s)) (fun m=>m==s) where
 enters:=enters_of Tryz.func69 (by kernel_rfl) rfl
 keep W W' h hB:=(Below.cell hB (p:=⟨b,0,none⟩) hb).trans h
 does m W h:=ztm s m h
theorem zfk {S:Nat->Prop}{s:State}{v1 v2 v3:Xh}{w:Xg}(x:Str)(h:StAt w S s v1 v2 v3)(ax:SmallS s) :
  Calls Tryz.prog 31 #[stV v1 v2 v3,St x] w fun r w'=>∃ay az a0,r=Xf (stV ay az a0)/\StAt w' (fun b=>w.heap.size<=b) (zdk s x) ay az a0/\Ext w w':=by
 have bn:=zH (show zdk s x=⟨s.all,s.entries,s.pruned.filter fun p=>!(p==x)⟩from rfl);obtain⟨i,f,k⟩:=s;obtain⟨O,ah,P,ai,Q,aj,rfl,rfl,rfl⟩:=h.fm;obtain⟨t,u⟩:∃I,((w.alloc (Xe #[Xa O i.length ah,Xa P f.length ai,Xa Q k.length aj] 26)).alloc (Xe #[St x] 9)).alloc (Xe #[Xa none 0 0,Xa none 0 0,Xa none 0 0] 26)=I:=⟨_,rfl⟩
 have L:Ext w t:=by rw[<- u];exact(((Xi w).alloc _).alloc _).alloc _
 have a9:RowIs t w.heap.size 26 [Xa O i.length ah,Xa P f.length ai,Xa Q k.length aj] []:=by rw[<- u];exact((zaf w _ _).alloc _).alloc _
 have ba:RowIs t (w.heap.size+1) 9 [St x] []:=by rw[<- u];have h:=zaf (w.alloc (Xe #[Xa O i.length ah,Xa P f.length ai,Xa Q k.length aj] 26)) 9 [St x];simp only[Ql]at h;exact h.alloc _
 have bc:RowIs t (w.heap.size+2) 26 [Xa none 0 0,Xa none 0 0,Xa none 0 0] []:=by rw[<- u];have h:=zaf ((w.alloc (Xe #[Xa O i.length ah,Xa P f.length ai,Xa Q k.length aj] 26)).alloc (Xe #[St x] 9)) 26 [Xa none 0 0,Xa none 0 0,Xa none 0 0];simp only[Ql]at h;exact h
 have b3:w.heap.size+3<=t.heap.size:=by rw[<- u];simp
 have a1:=zH (zk2 (h.ext L) ax);obtain⟨bp,bq,br⟩:=a9.p3;have b7:=zH ax.pruned;clear h ax;go_enter Tryz.func31,Tryz.ntmps31;refine wpH ?_;intro K l;go_wp2_with fail
 (try rw[u])
 clear u;refine l.out _ _ ?_;clear l K;refine wpH ?_;intro K l;go_wp2_with fail;refine a1.out.mono ?_;rintro r D⟨ay,az,a0,rfl,⟨ae,af,m,ca,bx,bv,ag⟩,M⟩;obtain⟨R,c1,rfl,-,-⟩:=ae.form;obtain⟨o,c2,rfl,-,-⟩:=ag.form;obtain⟨U,W,rfl,-,-⟩:=af.form;simp only at ae af ag ⊢;obtain⟨C,N⟩:∃z,D.heap.size=z:=⟨_,rfl⟩
 rw[N]at bx;have a3:RowE D m C (Xa o f.length c2) f:=OwnL.mono ag.toT fun b hb h=>⟨h.1,by omega,h.2⟩
 obtain⟨al,Z⟩:∃I,D.alloc (Xe #[Xa R i.length c1,Xa o f.length c2,Xa U k.length W] 26)=I:=⟨_,rfl⟩
 have A:Ext D al:=by rw[<- Z];exact(Xi D).alloc _
 have ak:RowIs al C 26 [Xa R i.length c1,Xa o f.length c2,Xa U k.length W] []:=by rw[<- Z,<- N];exact zaf D _ _
 have cb:w.heap.size+3<=C:=by rw[<- N];exact Qc b3 M.size
 have ap:=ae.ext A;have y:=af.ext A;have an:=a3.ext A;have bb:=(ba.ext M).ext A;have av:=(bc.ext M).ext A;have ar:=(M.trans A)
 have bg:=zH (ztl (base:=t.heap.size) y (ztn x (w.heap.size+1) t.heap.size (by omega)) (bb.cell (j:=0) rfl) ar.size);have b6:=zH (fun d (ad:zad (Xa U k.length W) d)=>(y.base_le ad).1);have bj:=zH (y.apart ak (by decide));have bk:=zH (y.apart av (by decide));have bh:=zH (ap.apart2 y (by decide));obtain⟨cd,a7⟩:=an.own;have bi:=zH (a7.apart2 y (by decide));have b4:=ak.cell (j:=2) rfl;clear ae af ag a3 M A a9 ba bc bp bq br y bb a7 a1;go_wp2_with fail
 (try rw[N])
 (try rw[Z])
 clear Z N;refine l.out _ _ ?_;clear l K;refine wpH ?_;intro K l;go_wp2_with fail;refine bg.out.mono ?_;rintro r F⟨v',rfl,J,a2,ab⟩;have au:∀ {d T:Nat} {bf be:List Xh},RowIs al d T bf be->¬zad (Xa U k.length W) d->RowIs F d T bf be:=fun a5 bz=>a5.keep (ab _ a5.lt bz)
 have B:=au ak bj.out;have bd:=au av bk.out;have am:=ap.keep (w':=F) fun d n ao=>ab d ao (bh.out d n)
 have a4:RowE F m C (Xa o f.length c2) f:=an.keep fun d n ao b0=>ab d ao fun ad=>b0.elim (fun _=>by have:=bv d (.inr ad);omega) fun bt=>bi.out d bt ad
 have a8:Ext w F:=Below.trans L (Below.mono (Below.trans ar a2) L.size);obtain⟨G,aq⟩:∃p,(k.filter fun m=>!(m==x))=p:=⟨_,rfl⟩
 rw[aq]at J;have bm:=zH (show zdk ⟨i,f,k⟩ x=⟨i,f,G⟩ by rw[bn.out,<- aq]);obtain⟨V,X,rfl,-,-⟩:=J.form;have ce:=B.cell (j:=2) rfl;have b9:=B.frozen 2;have Y:=B.set (j:=2) (by simp) (Xa V G.length X);simp only[Yc,Qp]at Y;obtain⟨H,aa⟩:∃I,F.setCell ⟨C,2,none⟩ (Xa V G.length X)=I:=⟨_,rfl⟩
 have ac:∀d,d≠C->H.heap[d]? = F.heap[d]?:=fun d n=>by rw[<- aa];exact Qb _ _ _ _ n
 have bs:=(am.keep (w':=H) fun d n _=>ac d (fun e=>am.apart B (by decide) (e▸n))).lower L.size;have b2:=(J.keep (w':=H) fun d n _=>ac d (fun e=>J.apart B (by decide) (e▸n))).lower L.size;have bu:RowE H m C (Xa o f.length c2) f:=by rw[<- aa];exact a4.set B (by decide)
 have aw:=bd.keep (ac _ (by omega));have a6:Ext w H:=by rw[<- aa];exact a8.set (by simp;omega) _
 rw[aa]at Y;obtain⟨cc,q1,b4⟩:=Y.p3;obtain⟨r0,r1,b5⟩:=aw.p3;obtain⟨f0,f1,b8⟩:=aw.q3;have bo:=zH a6;clear J a2 ab au B bd am a4 a8 Y ac a6 an ak av ap ar aq;go_wp2_with fail;refine l.out _ _ ?_;clear l K;go_wp2_with fail
 (try simp only[Exit.inBlock,Exit.then])
 refine bodyPost_ret (v:=stV (Xa R i.length c1) (Xa o f.length c2) (Xa V G.length X)) (by simp[results,Tryz.f31,go_sem,r0,r1,b5]) rfl ?_;have b1:=zbn (q:=w.heap.size+2) bo.out (by omega) (Xa R i.length c1) (Xa o f.length c2) (Xa V G.length X);have bw:=zsa (s:=⟨i,f,G⟩) bs bu b2 aw (by omega) (by omega);refine⟨_,_,_,rfl,?_⟩;rw[bm.out];exact⟨bw,b1⟩
theorem zyj (l:List zag)(s:Str):(zbc l s).length<=l.length+1:=by
 unfold zbc
 split
 ·have:=zp5 (zax l) (zaz l);have:=zg1 l;omega
 have h1:=zp5 (zei (zax l) s) (zei (zaz l) s);have d:(zei (zax l) s).length<=(zax l).length+1:=Qc (zr4 _ _) (zkp _ _ _);have e:=zg1 l;omega
theorem zyk {n:Nat}{e:Entry}(p:PrD)(d:LimE n e):LimE (n+1) (zaq p e):=by
 have hk:(setL ((setL (zab e.items)).map (zci p))).length<=n+1:=by have h1:=zgj ((setL (zab e.items)).map (zci p));have f:=zgj (zab e.items);have h:=d.places;rw[Qj]at h1;omega
 obtain⟨h1,f,h⟩:=zya hk;refine⟨?_,Qc (zyj _ _) (Vo d.counts),h1,f,h⟩;unfold zaq;simp only;have k:=d.seen
 split
 ·have i:=yad (zau e.seen p.1) p.2.2.1 (max (ofM e.seen p.2.2.1) (p.2.2.2+p.2.1));have j:=zh4 e.seen p.1;omega
 omega
theorem ybd (l:List Str)(s:Str):(insP l s).length<=l.length+1:=by
 unfold insP;simp only[Yd,Qs]
 have:∀l:List Str,(l.filter fun x=>ltS x s).length+(l.filter fun x=>ltS s x).length<=l.length:=by
  intro l
  induction l with
  | nil=>simp
  | cons a r e =>
   cases h1:ltS a s
   case true=>rw[Qv (by simpa using h1),Qr (by rw[zc8 h1];simp)];simp only[Qs];omega
   rw[Qr (by simp[h1])]
   cases d:ltS s a with
   | true=>rw[Qv (by simpa using d)];simp only[Qs];omega
   | false=>rw[Qr (by simp[d])];simp only[Qs];omega
 have:=this l;omega
theorem zlb {n:Nat}{s:State}(p:PrD)(d:LimS n s):LimS (n+1) (zbh s p).1:=by
 have h:LimS (n+1) za1:=⟨Ys _,Ys _,Ys _,fun e f=>by cases f⟩
 have hi:=Qc (ybd s.pruned p.1) (Vo d.pruned);unfold zbh
 split
 ·split
  ·exact⟨Qq d.all,Qq d.entries,Qq d.pruned,fun e f=>(d.each e f).mono (Vb n)⟩
  split
  ·split
   ·refine⟨Qq (Qc (zh4 _ _) d.all),?_,hi,fun e f=>?_⟩
    ·simpa using Qq d.entries
    obtain⟨x,i,rfl⟩:=Qk.1 f;exact zyk p (d.each x i)
   exact h
  exact⟨Qq d.all,Qq d.entries,hi,fun e f=>(d.each e f).mono (Vb n)⟩
 exact h
def zie (db:List Mark)(s:State)(p:PrD):List Mark×State×Nat:=if(zbh s p).2=0 then(zau db p.1,zbh s p)else([],za1,(zbh s p).2)
theorem zvu {S bm:Nat->Prop}{s:State}{bf v1 v2 v3:Xh}{d:List Mark}{w:Xg}(p:PrD)(h:StAt w S s v1 v2 v3)(h0:Sl markT w bm bf d)(bd:SmallS s)(bi:d.length<=1099511627776) :
  Calls Tryz.prog 26 #[dltV bf v1 v2 v3,prV p] w fun r w'=>∃be az a0 a1,r=Xf (Xd #[dltV be az a0 a1,I (zie d s p).2.2])/\StAt w' (fun b=>w.heap.size<=b) (zie d s p).2.1 az a0 a1/\Sl markT w' (fun b=>w.heap.size<=b) be (zie d s p).1/\Ext w w':=by
 have G:=zH (show zie d s p=if(zbh s p).2=0 then(zau d p.1,zbh s p)else([],za1,(zbh s p).2)from rfl);have a7:=zH (fun(W:Xg) (au:Ext w W)=>ziv p (h.ext au) bd);obtain⟨C,D,F⟩:=s;obtain⟨b,c,B,n⟩:=p;obtain⟨N,Y,rfl,-,-⟩:=h0.form;obtain⟨ab,aj,ac,ak,ad,al,rfl,rfl,rfl⟩:=h.fm;obtain⟨H,A⟩:∃R,((w.alloc (Xe #[Xa N d.length Y,Xa ab C.length aj,Xa ac D.length ak,Xa ad F.length al] 83)).alloc (Xe #[St b,U c,St B,U n] 29)).alloc (Xe #[Xa none 0 0,Xa none 0 0,Xa none 0 0,Xa none 0 0] 83)=R:=⟨_,rfl⟩
 have ai:Ext w H:=by rw[<- A];exact(((Xi w).alloc _).alloc _).alloc _
 have aa:RowIs H w.heap.size 83 [Xa N d.length Y,Xa ab C.length aj,Xa ac D.length ak,Xa ad F.length al] []:=by rw[<- A];exact((zaf w _ _).alloc _).alloc _
 have ax:RowIs H (w.heap.size+1) 29 [St b,U c,St B,U n] []:=by rw[<- A];have h:=zaf (w.alloc (Xe #[Xa N d.length Y,Xa ab C.length aj,Xa ac D.length ak,Xa ad F.length al] 83)) 29 [St b,U c,St B,U n];simp only[Ql]at h;exact h.alloc _
 have bc:RowIs H (w.heap.size+2) 83 [Xa none 0 0,Xa none 0 0,Xa none 0 0,Xa none 0 0] []:=by rw[<- A];have h:=zaf ((w.alloc (Xe #[Xa N d.length Y,Xa ab C.length aj,Xa ac D.length ak,Xa ad F.length al] 83)).alloc (Xe #[St b,U c,St B,U n] 29)) 83 [Xa none 0 0,Xa none 0 0,Xa none 0 0,Xa none 0 0];simp only[Ql]at h;exact h
 have b8:w.heap.size+3<=H.heap.size:=by rw[<- A];simp
 have ao:=zH (fun(W:Xg) (au:Ext w W)=>h0.ext (by decide) au);have bn:=aa.cell (j:=1) rfl;have bo:=aa.cell (j:=2) rfl;have bp:=aa.cell (j:=3) rfl;obtain⟨b2,b3,b4,p3⟩:=ax.p4;clear h h0 bd;go_enter Tryz.func26,Tryz.ntmps26;refine wpH ?_;intro K o;go_wp2_with fail
 (try rw[A])
 clear A;refine o.out _ _ ?_;clear o K;refine wpH ?_;intro K o;go_wp2_with fail;refine(a7.out H ai).mono ?_;rintro r P⟨az,a0,a1,rfl,T,V⟩;obtain⟨ay,ba⟩:∃ay,zbh ⟨C,D,F⟩ (b,c,B,n)=ay:=⟨_,rfl⟩
 rw[ba]at T G ⊢;obtain⟨st,ag⟩:=ay;simp only at T G ⊢;obtain⟨k,c1,l,c2,m,q,rfl,rfl,rfl⟩:=T.fm;obtain⟨bg,aw⟩:∃z,P.heap.size=z:=⟨_,rfl⟩
 obtain⟨ae,ah⟩:∃R,P.alloc (Xe #[Xa k st.all.length c1,Xa l st.entries.length c2,Xa m st.pruned.length q] 26)=R:=⟨_,rfl⟩
 have J:Ext P ae:=by rw[<- ah];exact(Xi P).alloc _
 have Z:RowIs ae bg 26 [Xa k st.all.length c1,Xa l st.entries.length c2,Xa m st.pruned.length q] []:=by rw[<- ah,<- aw];exact zaf P _ _
 have am:=(aa.ext V).ext J;have an:=(ax.ext V).ext J;have L:=(bc.ext V).ext J;have y:=(ai.trans V).trans J;have ap:=zH (T.ext J);have b0:=ai.size;clear T V J aa ax bc bn bo bp b2 b3 b4 p3 a7 ba ai;go_wp2_with fail
 (try rw[aw])
 (try rw[ah])
 clear ah aw;refine o.out _ _ ?_;clear o K;refine wpH ?_;intro K o
 by_cases i:ag=0
 ·subst i;have O:=zH (show zie d ⟨C,D,F⟩ (b,c,B,n)=(zau d b,st,0) by rw[G.out,zP rfl]);have a6:=zH (ao.out ae y);clear G ao;go_wp2_with fail;refine o.out _ _ ?_;clear o K;obtain⟨af,a8⟩:∃R,ae=R:=⟨_,rfl⟩
  rw[a8]at Z am an L y ap a6 ⊢;clear a8;refine wpH ?_;intro K o;refine zat [fun v _=>v=Xb (some ⟨w.heap.size,0,none⟩),fun v _=>v=Xa N d.length Y,fun v _=>v=Xb (some ⟨w.heap.size+1,0,none⟩),fun v _=>v=St b,fun v W=>Own W af.heap.size 97 2 v (zau d b).length ((zau d b).flatMap zaj),fun v _=>v=stV (Xa k st.all.length c1) (Xa l st.entries.length c2) (Xa m st.pruned.length q),fun v W=>∃u,v=.agg #[u,Xa k st.all.length c1,Xa l st.entries.length c2,Xa m st.pruned.length q]/\Own W af.heap.size 97 2 u (zau d b).length ((zau d b).flatMap zaj)] rfl (by kernel_rfl) ?hR ?hstep ?hend
  case hR=>simp only[zM];exact⟨kP,kP,kP,kP,fun v _ _ h i=>h.ext i,kP,fun v _ _ h i=>(by obtain⟨u,e,h⟩:=h;exact⟨u,e,h.ext i⟩)⟩
  case hstep =>
   simp only[zS,zD,Qh,zbj]
   and_intros<;>intro x W i f
   ·have h0:x 2=Xb (some ⟨w.heap.size,0,none⟩):=f.1;go_wp;exact sQ
   ·have h0:_=_:=f.1;have bb:=(am.ext i).cell (j:=0) rfl;go_wp;exact sQ
   ·have h0:x 3=Xb (some ⟨w.heap.size+1,0,none⟩):=f.1;go_wp;exact sQ
   ·have h0:_=_:=f.1;have bb:=(an.ext i).cell (j:=0) rfl;go_wp;exact sQ
   ·have h0:_=_:=f.1;have h1:_=_:=f.2.1;have bx:=i.size;have bh:=zH (zkr b (a6.out.ext (by decide) i) bi);go_wp;refine bh.out.mono ?_;rintro r b6⟨v3,rfl,bz,b1⟩;dsimp only;go_wp;exact zaa (v:=v3) (bz.lower bx) b1
   ·have h0:x 6=Xb (some ⟨bg,0,none⟩):=f.1;obtain⟨bb,q1,ca⟩:=(Z.ext i).p3;go_wp;exact sQ
   have h0:Own W af.heap.size 97 2 (x 23) (zau d b).length ((zau d b).flatMap zaj):=f.1;have h1:_=_:=f.2.1;obtain⟨E,e,bw,-,-⟩:=h0.form;rw[bw]at h0;go_wp;exact zaa (v:=.agg #[Xa E (zau d b).length e,Xa k st.all.length c1,Xa l st.entries.length c2,Xa m st.pruned.length q]) ⟨_,rfl,h0⟩ (Xi _)
  case hend =>
   intro x Q X f;obtain⟨cb,bq,ar⟩:∃u,x 25=.agg #[u,Xa k st.all.length c1,Xa l st.entries.length c2,Xa m st.pruned.length q]/\Own Q af.heap.size 97 2 u (zau d b).length ((zau d b).flatMap zaj):=f.2.2.2.2.2.2.1;clear f;obtain⟨E,e,rfl,-,-⟩:=ar.form;simp only[zS,zD,zU,Qh,Qm,zav,Act.put,bq];have b5:=Z.ext X;have M:=L.ext X;obtain⟨a2,a3,a4,a5⟩:=M.p4;obtain⟨br,bs,bt,bu⟩:=M.q4;have aq:=zH (y.trans X);have bj:=zH (ap.out.ext X);have HF:=zH (ar.lower y.size);have b9:=y.size;have bk:=zH M;clear X y Z am an L b5 ar M;go_wp2_with fail;refine o.out _ _ ?_;clear o K;go_wp2_with fail
   (try simp only[Exit.inBlock,Exit.then])
   refine bodyPost_ret (v:=Xd #[dltV (Xa E (zau d b).length e) (Xa k st.all.length c1) (Xa l st.entries.length c2) (Xa m st.pruned.length q),I 0]) (by simp[results,Tryz.f26,go_sem,a2,a3,a4,a5]) rfl ?_;have hk:∀t,t≠w.heap.size+2->((((Q.setCell ⟨w.heap.size+2,0,none⟩ (Xa E (zau d b).length e)).setCell ⟨w.heap.size+2,1,none⟩ (Xa k st.all.length c1)).setCell ⟨w.heap.size+2,2,none⟩ (Xa l st.entries.length c2)).setCell ⟨w.heap.size+2,3,none⟩ (Xa m st.pruned.length q)).heap[t]? = Q.heap[t]?:=fun t hb=>((((Qb _ _ _ _ hb).trans (Qb _ _ _ _ hb)).trans (Qb _ _ _ _ hb)).trans (Qb _ _ _ _ hb))
   have M:=bk.out;have hF:=HF.out.keep (w':=((((Q.setCell ⟨w.heap.size+2,0,none⟩ (Xa E (zau d b).length e)).setCell ⟨w.heap.size+2,1,none⟩ (Xa k st.all.length c1)).setCell ⟨w.heap.size+2,2,none⟩ (Xa l st.entries.length c2)).setCell ⟨w.heap.size+2,3,none⟩ (Xa m st.pruned.length q))) fun t a9 _=>hk t (fun e=>HF.out.apart M (by decide) (e▸a9))
   have bv:=bj.out.keep (w:=((((Q.setCell ⟨w.heap.size+2,0,none⟩ (Xa E (zau d b).length e)).setCell ⟨w.heap.size+2,1,none⟩ (Xa k st.all.length c1)).setCell ⟨w.heap.size+2,2,none⟩ (Xa l st.entries.length c2)).setCell ⟨w.heap.size+2,3,none⟩ (Xa m st.pruned.length q))) fun t a9 _=>hk t (by omega)
   have av:=(((aq.out.set (p:=⟨w.heap.size+2,0,none⟩) (by simp) (Xa E (zau d b).length e)).set (p:=⟨w.heap.size+2,1,none⟩) (by simp) (Xa k st.all.length c1)).set (p:=⟨w.heap.size+2,2,none⟩) (by simp) (Xa l st.entries.length c2)).set (p:=⟨w.heap.size+2,3,none⟩) (by simp) (Xa m st.pruned.length q);refine⟨_,_,_,_,by(rw[O.out];try rfl),?_⟩;rw[O.out];exact⟨bv.mono fun t _ h=>Qc b0 h,zbb hF,av⟩
 have b7:((ag:Int)==0)=false:=by rw[beq_eq_false_iff_ne];omega
 have O:=zH (show zie d ⟨C,D,F⟩ (b,c,B,n)=([],za1,ag) by rw[G.out,zN i]);obtain⟨a2,a3,a4,a5⟩:=L.p4;obtain⟨br,bs,bt,bu⟩:=L.q4;have aq:=zH y;clear G ao i y Z am an ap L;go_wp2_with fail
 (try simp only[Exit.inBlock,Exit.then])
 refine bodyPost_ret (v:=Xd #[dltV (Xa none 0 0) (Xa none 0 0) (Xa none 0 0) (Xa none 0 0),I ag]) (by simp[results,Tryz.f26,go_sem,a2,a3,a4,a5]) rfl ?_;have av:=(((aq.out.set (p:=⟨w.heap.size+2,0,none⟩) (by simp) (Xa none 0 0)).set (p:=⟨w.heap.size+2,1,none⟩) (by simp) (Xa none 0 0)).set (p:=⟨w.heap.size+2,2,none⟩) (by simp) (Xa none 0 0)).set (p:=⟨w.heap.size+2,3,none⟩) (by simp) (Xa none 0 0);refine⟨_,_,_,_,by(rw[O.out];try rfl),?_⟩;rw[O.out];exact⟨StAt.none _ _ _ _ _,Sl.nil _ _ (by decide),av⟩
abbrev prT:Shape PrD:=flat 4 prC (fun _=>rfl) (fun _ u hu=>by simp[prC]at hu;rcases hu with rfl|rfl|rfl|rfl<;>rfl)
theorem yb9 {w wr:Xg}{S:Nat->Prop}{A:Option Addr}{n c:Nat}{l pre post:List PrD}{m:PrD}(e:Sl prT w S (Xa A n c) l)(hb:Ext w wr)(f:l=pre++m::post) :
  ∃b o,A=some ⟨b,o,none⟩/\wr.cell? ⟨b,o+pre.length * 4,none⟩=some (St m.1)/\wr.cell? ⟨b,o+pre.length * 4+1,none⟩=some (U m.2.1)/\wr.cell? ⟨b,o+pre.length * 4+2,none⟩=some (St m.2.2.1)/\wr.cell? ⟨b,o+pre.length * 4+3,none⟩=some (U m.2.2.2):=by
 obtain⟨b,o,vs,i,h,j,rfl,d⟩:=e.at_ f;injection h with e1 e2 e3
 subst e1;exact⟨b,o,rfl,hb.cell (d 0 _ rfl),hb.cell (d 1 _ rfl),hb.cell (d 2 _ rfl),hb.cell (d 3 _ rfl)⟩
def allP:State->List PrD->State×Nat
 | s,[]=>(s,0)
 | s,p::r=>if(zbh s p).2=0 then allP (zbh s p).1 r else(za1,(zbh s p).2)
theorem zno {S cb:Nat->Prop}{s:State}{v1 v2 v3 bz:Xh}{ps:List PrD}{aa:Nat}{w:Xg}(f:StAt w S s v1 v2 v3)(e:Sl prT w cb bz ps)(a6:LimS aa s)(ci:aa+ps.length<=549755813888) :
  Calls Tryz.prog 30 #[stV v1 v2 v3,bz] w fun r w'=>∃au av aw,r=Xf (Xd #[stV au av aw,I (allP s ps).2])/\StAt w' (fun b=>w.heap.size<=b) (allP s ps).1 au av aw/\Ext w w':=by
 have bo:=e;obtain⟨cm,cx,rfl,-,-⟩:=e.form;have b5:=zH (fun(pre post:List PrD) (m:PrD) (wr:Xg) (f:Ext w wr) (e:ps=pre++m::post)=>yb9 bo f e);have b7:=zH a6;obtain⟨af,a3⟩:∃a,allP s ps=a:=⟨_,rfl⟩
 rw[a3];have b3:=zH a3;obtain⟨ax,ba,ay,bb,az,bc,rfl,rfl,rfl⟩:=f.fm;obtain⟨ag,W⟩:∃O,(w.alloc (Xe #[Xa ax s.all.length ba,Xa ay s.entries.length bb,Xa az s.pruned.length bc] 26)).alloc (Xe #[Xa none 0 0,Xa none 0 0,Xa none 0 0] 26)=O:=⟨_,rfl⟩
 have a8:Ext w ag:=by rw[<- W];exact((Xi w).alloc _).alloc _
 have bv:RowIs ag w.heap.size 26 [Xa ax s.all.length ba,Xa ay s.entries.length bb,Xa az s.pruned.length bc] []:=by rw[<- W];exact(zaf w _ _).alloc _
 have bw:RowIs ag (w.heap.size+1) 26 [Xa none 0 0,Xa none 0 0,Xa none 0 0] []:=by rw[<- W];have f:=zaf (w.alloc (Xe #[Xa ax s.all.length ba,Xa ay s.entries.length bb,Xa az s.pruned.length bc] 26)) 26 [Xa none 0 0,Xa none 0 0,Xa none 0 0];simp only[Ql]at f;exact f
 have bt:w.heap.size+2<=ag.heap.size:=by rw[<- W];simp
 have bg:=zH (zjx (f.ext a8) (a6.small (by omega)));obtain⟨cc,cd,ce⟩:=bv.p3;clear f e bo a6 a3;go_enter Tryz.func30,Tryz.ntmps30;refine wpH ?_;intro K N;go_wp2_with fail
 (try rw[W])
 clear W;refine N.out _ _ ?_;clear N K;refine wpH ?_;intro K N;go_wp2_with fail;refine bg.out.mono ?_;rintro r ab⟨au,av,aw,rfl,bp,ak⟩;have t:=bp.at;obtain⟨J,c1,L,c2,M,P,rfl,rfl,rfl⟩:=t.fm;obtain⟨d,ao⟩:∃z,ab.heap.size=z:=⟨_,rfl⟩
 obtain⟨ac,ai⟩:∃O,ab.alloc (Xe #[Xa J s.all.length c1,Xa L s.entries.length c2,Xa M s.pruned.length P] 26)=O:=⟨_,rfl⟩
 have al:Ext ab ac:=by rw[<- ai];exact(Xi ab).alloc _
 have R:RowIs ac d 26 [Xa J s.all.length c1,Xa L s.entries.length c2,Xa M s.pruned.length P] []:=by rw[<- ai,<- ao];exact zaf ab _ _
 have cv:w.heap.size+2<=d:=by rw[<- ao];exact Qc bt ak.size
 have b6:=zH (⟨_,_,_,R,(t.mono (S':=fun b=>w.heap.size+2<=b/\b≠d) fun b hb f=>⟨by omega,by omega⟩).ext al,(bw.ext ak).ext al⟩:∃u x y,RowIs ac d 26 [u,x,y] []/\StAt ac (fun b=>w.heap.size+2<=b/\b≠d) s u x y/\RowIs ac (w.heap.size+1) 26 [Xa none 0 0,Xa none 0 0,Xa none 0 0] []);have ck:=(a8.trans ak).trans al;clear bp t a8 ak al bv bw cc cd ce bg R bt;go_wp2_with fail
 (try rw[ao])
 (try rw[ai])
 clear ai ao;refine N.out _ _ ?_;clear N K;refine wpH ?_;intro K N;go_wp2_with fail
 go_loopw [14] (fun i wr=>∃pre post st,ps=pre++post/\i=I pre.length/\Hid (allP st post=af/\LimS (aa+pre.length) st)/\Hid (∃u x y,RowIs wr d 26 [u,x,y] []/\StAt wr (fun b=>w.heap.size+2<=b/\b≠d) st u x y/\RowIs wr (w.heap.size+1) 26 [Xa none 0 0,Xa none 0 0,Xa none 0 0] [])/\Ext w wr) (fun i _=>ps.length-(intOf i).toNat)
 case atStart=>exact⟨[],ps,s,rfl,rfl,zH ⟨b3.out,by simpa using b7.out⟩,b6,ck⟩
 obtain⟨pre,post,st,e,rfl,H,a4,ad⟩:=hrel;obtain⟨u,x,y,R,t,ae⟩:=a4.out;obtain⟨J,c1,L,c2,M,P,rfl,rfl,rfl⟩:=t.fm
 cases post
 case cons p post=>
  obtain⟨b,o,rfl,e0,bi,bj,bk⟩:=b5.out pre post p wr ad e;obtain⟨h,k,n,l⟩:=p;have cs:pre.length<ps.length:=(by rw[e];simp);obtain⟨a2,aj⟩:∃O,wr.alloc (Xe #[St h,U k,St n,U l] 29)=O:=⟨_,rfl⟩
  have am:Ext wr a2:=(by rw[<- aj];exact(Xi wr).alloc _);obtain⟨cl,a9⟩:∃z,wr.heap.size=z:=⟨_,rfl⟩
  have bu:RowIs a2 cl 29 [St h,U k,St n,U l] []:=(by rw[<- aj,<- a9];exact zaf wr _ _);have ap:=R.ext am;obtain⟨b0,b1,b2⟩:=ap.p3;obtain⟨d0,d1,cf,cg⟩:=bu.p4;have bh:=zH (ziv (h,k,n,l) (t.ext am) (H.out.2.small (by omega)));have b8:=zH e;have bx:=ae.ext am;have br:=ad.trans am;simp only at e0 bi bj bk;have cu:aa+ps.length<=549755813888:=ci;clear e R t ae ad a4 bu;go_wp2_with fail
  (try rw[a9])
  (try rw[aj])
  clear aj a9;refine bh.out.mono ?_;rintro r V⟨au,av,aw,rfl,Q,an⟩;obtain⟨bf,bq⟩:∃bf,zbh st (h,k,n,l)=bf:=⟨_,rfl⟩
  have T:=zH (show allP st ((h,k,n,l)::post)=if(zbh st (h,k,n,l)).2=0 then allP (zbh st (h,k,n,l)).1 post else(za1,(zbh st (h,k,n,l)).2)from rfl);have X:=zH (zlb (h,k,n,l) H.out.2);rw[bq]at Q T X ⊢;obtain⟨s2,ah⟩:=bf;simp only at Q T X ⊢;obtain⟨A,D,rfl,-,-⟩:=Q.all.form;obtain⟨B,F,rfl,-,-⟩:=Q.entries.form;obtain⟨C,G,rfl,-,-⟩:=Q.pruned.form;have aq:=ap.ext an;obtain⟨b0,b1,b2⟩:=aq.p3;obtain⟨co,cp,cq⟩:=aq.q3;have cw:d<a2.heap.size:=ap.lt;have hk:=zda V d (Xa A s2.all.length D) (Xa B s2.entries.length F) (Xa C s2.pruned.length G);have bm:=(Q.mono (S':=fun b=>w.heap.size+2<=b/\b≠d) fun b _ f=>⟨by omega,by omega⟩).keep (w:=put3 V d (Xa A s2.all.length D) (Xa B s2.entries.length F) (Xa C s2.pruned.length G)) fun b hb _=>hk b hb.2
  have be:=((aq.set (j:=0) (by simp) (Xa A s2.all.length D)).set (j:=1) (by simp) (Xa B s2.entries.length F)).set (j:=2) (by simp) (Xa C s2.pruned.length G);simp only[Yc,Qp]at be;have ar:=(bx.ext an).keep (hk _ (by omega));have bs:=zbn (q:=d) (br.trans an) (by omega) (Xa A s2.all.length D) (Xa B s2.entries.length F) (Xa C s2.pruned.length G);have a0:=zH (⟨_,_,_,be,bm,ar⟩:∃u x y,RowIs (put3 V d (Xa A s2.all.length D) (Xa B s2.entries.length F) (Xa C s2.pruned.length G)) d 26 [u,x,y] []/\StAt (put3 V d (Xa A s2.all.length D) (Xa B s2.entries.length F) (Xa C s2.pruned.length G)) (fun b=>w.heap.size+2<=b/\b≠d) s2 u x y/\RowIs (put3 V d (Xa A s2.all.length D) (Xa B s2.entries.length F) (Xa C s2.pruned.length G)) (w.heap.size+1) 26 [Xa none 0 0,Xa none 0 0,Xa none 0 0] []);have cj:=ar.cell (j:=0) rfl;have Z:=zH ar;have a1:=zH bs;clear Q an ap bx aq hk bm be ar bs br bq cj d0 d1 cf cg e0 bi bj bk bh;obtain⟨cn,bn⟩:∃O,put3 V d (Xa A s2.all.length D) (Xa B s2.entries.length F) (Xa C s2.pruned.length G)=O:=⟨_,rfl⟩
  rw[bn]at a0 Z a1
  by_cases a5:ah=0
  ·subst a5;have b4:=zH (show allP s2 post=af/\LimS (aa+(pre++[(h,k,n,l)]).length) s2 from⟨by rw[<- H.out.1,T.out,zP rfl],by simpa[Nat.add_assoc]using X.out⟩);clear T X H Z;go_wp2_with fail
   (try rw[bn])
   go_roundw
   case rel=>exact⟨pre++[(h,k,n,l)],post,s2,by rw[b8.out];simp,by simp,b4,a0,a1.out⟩
   case measure=>simp[intOf];omega
  have ct:((ah:Int)==0)=false:=(by rw[beq_eq_false_iff_ne];omega);have Y:=zH (show af=(za1,ah) by rw[<- H.out.1,T.out,zN a5]);obtain⟨r0,r1,bd⟩:=Z.out.p3;obtain⟨f0,f1,ch⟩:=Z.out.q3;clear T X H Z a0 a5;go_wp2_with fail
  (try simp only[Exit.inBlock,Exit.then])
  refine bodyPost_ret (v:=Xd #[stV (Xa none 0 0) (Xa none 0 0) (Xa none 0 0),I ah]) (by simp[results,Tryz.f30,go_sem,r0,r1,bd]) rfl ?_;have a7:=zbn (q:=w.heap.size+1) a1.out (by omega) (Xa none 0 0) (Xa none 0 0) (Xa none 0 0);refine⟨Xa none 0 0,Xa none 0 0,Xa none 0 0,by(rw[Y.out];try rfl),?_⟩;rw[Y.out];exact⟨StAt.none _ _ _ _ _,a7⟩
 rw[Va]at e;have Y:=zH (show af=(st,0)from H.out.1.symm);obtain⟨b0,b1,b2⟩:=R.p3;obtain⟨r0,r1,bd⟩:=ae.p3;obtain⟨f0,f1,ch⟩:=ae.q3;have ca:=zH ad;have b9:=zH t;have cr:ps.length=pre.length:=(by rw[e]);clear e H a4 ad t R ae;go_wp2_with fail;refine N.out _ _ ?_;go_wp2_with fail
 (try simp only[Exit.inBlock,Exit.then])
 refine bodyPost_ret (v:=Xd #[stV (Xa J st.all.length c1) (Xa L st.entries.length c2) (Xa M st.pruned.length P),I 0]) (by simp[results,Tryz.f30,go_sem,r0,r1,bd]) rfl ?_;have a7:=zbn (q:=w.heap.size+1) ca.out (by omega) (Xa J st.all.length c1) (Xa L st.entries.length c2) (Xa M st.pruned.length P);have hk:=zda wr (w.heap.size+1) (Xa J st.all.length c1) (Xa L st.entries.length c2) (Xa M st.pruned.length P);refine⟨_,_,_,by(rw[Y.out];try rfl),?_⟩;rw[Y.out];exact⟨(b9.out.keep (w:=put3 wr (w.heap.size+1) (Xa J st.all.length c1) (Xa L st.entries.length c2) (Xa M st.pruned.length P)) fun b hb _=>hk b (by omega)).mono fun b _ f=>by omega,a7⟩
end
section
abbrev q1:Str:=[49]
abbrev q11:Str:=[49,46,49]
abbrev kN:Str:=[35,110]
abbrev kS:Str:=[64,115]
abbrev opN:OpD:=(1,kN,2,[])
abbrev opS:OpD:=(2,kS,0,[97])
abbrev pQ:PrD:=(q11,2,q1,5)
def eN:Entry:=⟨kN,[(q11,1)],[(q11,2,0)],[],0,[],false⟩
def eS:Entry:=⟨kS,[(q11,2)],[],[([97],[(q11,2)])],0,[],false⟩
def eNt:Entry:=⟨kN,[(q1,7)],[([],2,0)],[],0,[],false⟩
def eSt:Entry:=⟨kS,[(q1,7)],[],[([97],[(q1,7)])],0,[],false⟩
def st0:State:=⟨[(q1,5)],[],[]⟩
def stP:State:=⟨[(q1,5),(q11,1)],[eN],[]⟩
def stQ:State:=⟨[(q1,5),(q11,2)],[eN,eS],[]⟩
def stV7:State:=⟨[(q1,7),(q11,2)],[eN,eS],[]⟩
def stT:State:=⟨[(q1,7)],[eNt,eSt],[q11]⟩
def stF:State:=⟨[(q1,7)],[eNt,eSt],[]⟩
theorem ybo:updS st0 q11 opN=(stP,0):=by kernel_rfl
theorem ybp:updS stP q11 opS=(stQ,0):=by kernel_rfl
theorem ybq:zbh stQ pQ=(za1,170):=by kernel_rfl
theorem ybr:zee stQ q1 2=(stV7,0):=by kernel_rfl
theorem zsb:zbh stV7 pQ=(stT,0):=by kernel_rfl
theorem ybe:zbh stT pQ=(stT,0):=by kernel_rfl
theorem ybs:zdk stT q11=stF:=by kernel_rfl
theorem ybt:allP stV7 [pQ,pQ]=(stT,0):=by
 unfold allP;rw[zsb,zP rfl];unfold allP;rw[ybe,zP rfl]
 rfl
theorem ybu:zic stV7 []=stV7:=by kernel_rfl
theorem ybf:za0 [] [] = []:=by kernel_rfl
theorem ybv:zie [] stV7 pQ=([],stT,0):=by
 unfold zie;rw[zsb,zP rfl]
 rfl
theorem ybw:atE stT.entries kN=eNt:=by kernel_rfl
theorem ybx:zas eNt.key=1:=by kernel_rfl
theorem yby:zb7 eNt.counts=2:=by kernel_rfl
theorem ybz:za4 stT.entries kS=some eSt:=by kernel_rfl
theorem zsc:mayP pQ=true:=by kernel_rfl
theorem yb0:zc3 stV7.all pQ=true:=by kernel_rfl
theorem yb1:zc3 stT.all pQ=false:=by kernel_rfl
theorem zif {s:State}(h:(decide (s.all.length<=10)&&(decide (s.entries.length<=10)&&(decide (s.pruned.length<=10)&&s.entries.all fun e=>decide (e.seen.length<=10)&&(decide (e.counts.length<=10)&&(decide (e.items.length<=10)&&((e.items.all fun it=>decide (it.2.length<=10))&&decide ((zab e.items).length<=10)))))))=true):LimS 10 s:=by
 simp only[Qf,decide_eq_true_eq,Ym]at h;obtain⟨h1,i,j,k⟩:=h
 exact⟨h1,i,j,fun e l=>by obtain⟨a,b,c,d,f⟩:=k e l;exact⟨a,b,c,d,f⟩⟩
theorem lim_st0:LimS 10 st0:=zif (by kernel_rfl)
theorem lim_stP:LimS 10 stP:=zif (by kernel_rfl)
theorem lim_stQ:LimS 10 stQ:=zif (by kernel_rfl)
theorem lim_stR:LimS 10 stV7:=zif (by kernel_rfl)
theorem lim_stT:LimS 10 stT:=zif (by kernel_rfl)
end
section
open Go.RowKit
structure OthersE (p:PrD) (x y:Entry):Prop where
 key:y.key=x.key
 same:ofM x.seen p.1=0->y=x
 value:zb7 y.counts=zb7 x.counts
 texts:zdo y.items=zdo x.items
 cell:y.cell=x.cell
 seen:ofM y.seen p.1=0
 counts:∀c∈y.counts,c.1≠p.1
 items:∀it∈y.items,∀d∈it.2,d.1≠p.1
theorem zqg {e:Entry}(f:mayE e=true):zas e.key=1 ∨ zas e.key=2 ∨ zas e.key=3:=by
 unfold mayE at f;simp only[Qf]at f;obtain⟨-,-,d⟩:=f
 by_cases h1:zas e.key=1
 ·exact .inl h1
 rw[zN h1]at d
 by_cases h:zas e.key=2
 ·exact .inr (.inl h)
 rw[zN h]at d
 by_cases i:zas e.key=3
 ·exact .inr (.inr i)
 rw[zN i]at d;cases d
structure CleanE (e:Entry):Prop where
 counts:GoodC e.counts
 items:GoodB e.items
 count:∀c∈e.counts,c.1≠[]->ofM e.seen c.1≠0
 dot:∀q∈zab e.items,ofM e.seen q.2.1≠0
theorem zj0:GoodC []:=⟨.nil,by simp⟩
theorem zvw {e:Entry}(i:mayE e=true):CleanE e:=by
 have k:=zrh i;rcases zqg i with hk|hk|hk
 ·obtain⟨h1,j,d⟩:=k.one hk
  have l:GoodC e.counts:=by unfold mayE at i;simp only[Qf]at i;obtain⟨-,-,d⟩:=i;rw[zP hk]at d;simp only[may1,Qf]at d;exact mayL_iff.1 d.1
  exact⟨l,h1▸zjw,fun c f h0=>(d c f).resolve_left h0,fun q h=>by rw[h1]at h;simp[zab]at h⟩
 ·obtain⟨h1,j,d,l⟩:=k.two hk;refine⟨d▸zj0,h1,fun c f=>(by rw[d]at f;cases f),fun q h h0=>?_⟩;have m:q.2∈zcx e.items:=by rw[zcn];exact Qk.2 ⟨q,h,rfl⟩
  have:=j _ m;unfold hasM at this;simp only[Qf,decide_eq_true_eq]at this;omega
 obtain⟨h1,j⟩:=k.three hk;exact⟨h1▸zj0,j▸zjw,fun c f=>(by rw[h1]at f;cases f),fun q h=>(by rw[j]at h;simp[zab]at h)⟩
theorem zvx {l:List Item}{s:Str}(e:∀q∈zab l,q.2.1≠s):∀it∈l,∀d∈it.2,d.1≠s:=fun it h d f=>e (it.1,d) (ze4 h f)
theorem zse {p:PrD}{x:Entry}(o:mayP p=true)(r:mayE x=true)(hb:∀c∈x.counts,c.2.1<18446744073709551616/\c.2.2<18446744073709551616):OthersE p x (zaq p x):=by
 have j:=o;simp only[mayP,Qf,Vl,decide_eq_true_eq,beq_eq_false_iff_ne]at j;obtain⟨h1,s,i,-,-⟩:=j;have f:p.1≠[]:=by simpa using h1
 have d:=zvw r;have n:p.2.2.1≠p.1:=Ne.symm i;refine⟨rfl,fun h0=>?_,ztf _ f,ztg _ _,rfl,?_,fun c d=>zon f d,zvx fun q h=>?_⟩
 ·have k:zbc x.counts p.1=x.counts:=zk7 f d.counts hb fun c m e=>d.count c m (by rw[e];exact f) (by rw[e];exact h0)
  have l:zcr x.items p=x.items:=zk9 d.items.rise fun q h e=>d.dot q h (by rw[e];exact h0)
  unfold zaq;rw[zN (by omega),k,l]
 ·unfold zaq;simp only
  split
  ·rw[zho,zN i,zcs,zP rfl]
  omega
 obtain⟨y,t,rfl⟩:=turnB_mem.1 h;exact zvq n y
structure PrOk (p:PrD):Prop where
 by_:p.1≠[]
 own:p.2.2.1≠[]
 ne:p.1≠p.2.2.1
 le:p.2.2.2+p.2.1<=281474976710656
theorem prOk_iff {p:PrD}:mayP p=true↔PrOk p:=by
 simp only[mayP,Qf,Vl,decide_eq_true_eq,beq_eq_false_iff_ne]
 constructor
 ·rintro⟨h1,h2,h3,h4,h5⟩;exact⟨by simpa using h1,by simpa using h2,h3,by omega⟩
 rintro⟨h1,h2,h3,h4⟩;exact⟨by simpa using h1,by simpa using h2,h3,by omega,by omega⟩
def topP (l:List Mark)(p:PrD)(t:Str):Nat:=if t=p.1 then 0 else if t=p.2.2.1/\0<ofM l p.1 then max (ofM l t) (p.2.2.2+p.2.1)else ofM l t
theorem zc4 {p:PrD}(d:PrOk p)(x:Entry)(t:Str):ofM (zaq p x).seen t=topP x.seen p t:=by
 have e:=d.ne;have f:=d.own;unfold zaq topP;simp only
 by_cases h0:0<ofM x.seen p.1
 ·rw[zP h0,zho,zcs]
  by_cases h1:t=p.2.2.1
  ·subst h1;rw[zP rfl,zN f,zN (Ne.symm e),zP ⟨rfl,h0⟩]
  rw[zN h1,zN (c:=t=p.2.2.1/\_) fun k=>h1 k.1]
 rw[zN h0,zN (c:=t=p.2.2.1/\_) fun k=>h0 k.2]
 by_cases h1:t=p.1
 ·subst h1;rw[zP rfl];omega
 rw[zN h1]
theorem zez {p:PrD}{x:Entry}(h:GoodM x.seen):GoodM (zaq p x).seen:=by
 unfold zaq;simp only
 split
 ·exact zft _ _ _
 exact h
theorem yg7 {p:PrD}(f:p.1≠[]):zaq p zak=zak:=by
 have d:zbc [] p.1 = []:=zk7 f zj0 (by simp) (by simp);have e:zcr [] p = []:=zk9 zp9 (by simp[zab]);unfold zaq zak;simp only[zff,Nat.lt_irrefl,if_false,d,e]
def zfc (p:PrD)(d:Dot):Dot:=if d.1=p.1 then(p.2.2.1,addU p.2.2.2 d.2)else d
theorem zjm (p:PrD)(q:zan):zci p q=(q.1,zfc p q.2):=by
 unfold zci zfc
 split<;>rfl
structure DotOk (p:PrD) (d:Dot):Prop where
 by_:d.1=p.1->1<=d.2/\d.2<=p.2.1
 own:d.1=p.2.2.1->d.2<=p.2.2.2 ∨ p.2.2.2+p.2.1<d.2
theorem zgn {p:PrD}(h:PrOk p){d:Dot}(f:DotOk p d)(e:d.1=p.1):zfc p d=(p.2.2.1,p.2.2.2+d.2):=by
 have h1:=f.by_ e;have i:=h.le;unfold zfc addU;rw[zP e,Nat.mod_eq_of_lt (by omega)]
theorem zgo {p:PrD}{d:Dot}(e:d.1≠p.1):zfc p d=d:=zN e
theorem zyn {p:PrD}(k:PrOk p){d e:Dot}(i:DotOk p d)(j:DotOk p e)(f:zfc p d=zfc p e):d=e:=by
 by_cases h1:d.1=p.1<;>by_cases h:e.1=p.1
 ·rw[zgn k i h1,zgn k j h]at f;injection f with _ f
  exact Prod.ext (h1.trans h.symm) (by omega)
 ·rw[zgn k i h1,zgo h]at f;have a1:=i.by_ h1;have a2:=j.own (by rw[<- f]);rw[<- f]at a2;simp only at a2;omega
 ·rw[zgo h1,zgn k j h]at f;have a1:=j.by_ h;have a2:=i.own (by rw[f]);rw[f]at a2;simp only at a2;omega
 rwa[zgo h1,zgo h]at f
theorem yjo {p:PrD}(e:PrOk p){a b:zan}(ha:DotOk p a.2)(hb:DotOk p b.2)(d:zci p a=zci p b):a=b:=by
 rw[zjm,zjm]at d;injection d with h1 h2
 exact Prod.ext h1 (zyn e ha hb h2)
theorem yat {p:PrD}(e:PrOk p){d:Dot}(f:DotOk p d)(h:OkD d):OkD (zfc p d):=by
 by_cases h1:d.1=p.1
 ·have a1:=f.by_ h1;have a2:=e.le;rw[zgn e f h1];exact⟨e.own,show 1<=p.2.2.2+d.2 by omega,show p.2.2.2+d.2<=281474976710656 by omega⟩
 rw[zgo h1];exact h
theorem zvy {p:PrD}(m:PrOk p){l:List Item}(d:GoodB l)(i:∀q∈zab l,DotOk p q.2):GoodB (zcr l p):=by
 have f:(((zab l).map (zci p)).map (·.2)).Nodup:=by
  have h1:=d.2.2.2;rw[zcn]at h1;unfold List.Nodup at h1 ⊢;rw[Yj,Yj];rw[Yj]at h1;refine h1.imp_of_mem fun {a b} ha hb j e=>j ?_
  rw[zjm,zjm]at e;exact zyn m (i a ha) (i b hb) e
 have n:((zab l).map (zci p)).Nodup:=by unfold List.Nodup at f ⊢;rw[Yj]at f;exact f.imp fun j e=>j (by rw[e])
 unfold zcr;rw[zlx d.nodup,zlx n];refine zh0 f (fun q k=>?_) fun q k=>?_
 ·obtain⟨x,h,rfl⟩:=Qk.1 k;rw[zjm];exact yat m (i x h) (zc2 d h).1
 obtain⟨x,h,rfl⟩:=Qk.1 k;rw[zjm];exact(zc2 d h).2.1
theorem zqh {p:PrD}(f:PrOk p){x:Entry}{d:Dot}(h:DotOk p d)(e:hasM x.seen d=true):hasM (zaq p x).seen (zfc p d)=true:=by
 unfold hasM at e ⊢;simp only[Qf,decide_eq_true_eq]at e ⊢;rw[zc4 f];unfold topP
 by_cases h1:d.1=p.1
 ·have a1:=h.by_ h1;rw[zgn f h h1];rw[h1]at e
  show 1<=p.2.2.2+d.2/\p.2.2.2+d.2<=if p.2.2.1=p.1 then 0 else if p.2.2.1=p.2.2.1/\0<ofM x.seen p.1 then max (ofM x.seen p.2.2.1) (p.2.2.2+p.2.1)else ofM x.seen p.2.2.1
  rw[zN (Ne.symm f.ne),zP ⟨rfl,by omega⟩];omega
 rw[zgo h1,zN h1]
 split<;>omega
theorem yig {p:PrD}(j:PrOk p){x:Entry}{d:Dot}(i:DotOk p d)(h:d.1=p.1 ∨ (d.1=p.2.2.1/\d.2<=p.2.2.2)->hasM x.seen d=true):hasM (zaq p x).seen (zfc p d)=hasM x.seen d:=by
 by_cases h0:d.1=p.1 ∨ (d.1=p.2.2.1/\d.2<=p.2.2.2)
 ·rw[h h0];exact zqh j i (h h0)
 have h1:d.1≠p.1:=fun e=>h0 (.inl e)
 rw[zgo h1];unfold hasM;rw[zc4 j];unfold topP;rw[zN h1]
 by_cases f:d.1=p.2.2.1/\0<ofM x.seen p.1
 ·rw[zP f];have l:=i.own f.1;have m:¬d.2<=p.2.2.2:=fun k=>h0 (.inr ⟨f.1,k⟩)
  rw[Bool.eq_iff_iff];simp only[Qf,decide_eq_true_eq];omega
 rw[zN f]
structure TurnOk (p:PrD) (x:Entry):Prop where
 seen:GoodM x.seen
 cnt:GoodC x.counts
 most:∀c∈x.counts,c.2.1<18446744073709551616/\c.2.2<18446744073709551616
 its:GoodB x.items
 has:∀q∈zab x.items,hasM x.seen q.2=true
 of:ofM x.seen p.1<=p.2.1
 own:∀q∈zab x.items,q.2.1=p.2.2.1->q.2.2<=p.2.2.2 ∨ p.2.2.2+p.2.1<q.2.2
theorem TurnOk.dot {p:PrD}{x:Entry}(d:TurnOk p x){q:zan}(f:q∈zab x.items):DotOk p q.2 :=
 ⟨fun e=>by have h1:=d.has q f;have h:=d.of;unfold hasM at h1;simp only[Qf,decide_eq_true_eq]at h1;rw[e]at h1;omega,d.own q f⟩
theorem TurnOk.items {p:PrD}(e:PrOk p){x:Entry}(d:TurnOk p x):GoodB (zaq p x).items:=zvy e d.its fun _ f=>d.dot f
theorem turn_place {p:PrD}{x:Entry}{q:zan}:q∈zab (zaq p x).items↔∃y∈zab x.items,(y.1,zfc p y.2)=q:=by
 show q∈zab (zcr x.items p)↔_
 rw[turnB_mem];simp only[zjm]
theorem zvz {l:List zag}{s:Str}(e:∀c∈l,c.2.1<18446744073709551616/\c.2.2<18446744073709551616)(f:s≠[]):∀c∈zbc l s,c.2.1<18446744073709551616/\c.2.2<18446744073709551616:=fun c d=>by
 have i:∀k,zbr l k<18446744073709551616:=fun k=>Yh (plusC_le.2 fun c d _=>Yi (e c d).1)
 have h:∀k,zbf l k<18446744073709551616:=fun k=>Yh (minusC_le.2 fun c d _=>Yi (e c d).2)
 have a:=plusC_le.1 (Yk (zbr (zbc l s) c.1)) c d rfl;have b:=minusC_le.1 (Yk (zbf (zbc l s) c.1)) c d rfl;rw[(zbk l f c.1).1]at a;rw[(zbk l f c.1).2]at b;have:=i c.1;have:=h c.1;unfold addU at a b
 constructor
 ·split at a
  ·omega
  split at a<;>omega
 split at b
 ·omega
 split at b<;>omega
theorem zyo {p:PrD}(i:PrOk p){x:Entry}(q:TurnOk p x)(f:mayE x=true)(K:x.seen.length<=511):mayE (zaq p x)=true:=by
 have r:=zez (p:=p) q.seen;have u:=zc4 i x;have s:=zrh f;have L:=i.le;have M:=q.of
 have J:x.seen.length≠0:=by intro e;unfold mayE at f;simp[e]at f
 have H:∀t,ofM x.seen t<=281474976710656:=fun t=>ofM_le.2 fun m f _ _=>s.most m f
 have h1:mayM (zaq p x).seen=true:=by
  refine mayM_iff.2 ⟨?_,r,fun m f=>?_⟩
  ·have:=zd3 r (ps:=p.2.2.1::x.seen.map (·.1)) fun t j=>by
    rw[u]at j;unfold topP at j
    by_cases h1:t=p.1
    ·rw[zP h1]at j;exact absurd rfl j
    rw[zN h1]at j
    by_cases h:t=p.2.2.1
    ·simp[h]
    rw[zN fun k=>h k.1]at j;obtain⟨m,f,e,-⟩:=ziz j;exact Qw _ (Qk.2 ⟨m,f,e⟩)
   simp only[Qs,Qj]at this;omega
  have h:=r.1.of f (r.2 m f).1;rw[u]at h;have:=H m.1;unfold topP at h
  split at h
  ·omega
  split at h<;>omega
 have h:(zaq p x).seen.length≠0:=fun e=>by
  have e:=List.length_eq_zero_iff.1 e
  by_cases h0:0<ofM x.seen p.1
  ·have:=u p.2.2.1;unfold topP at this;rw[e,zff,zN (Ne.symm i.ne),zP ⟨rfl,h0⟩]at this;omega
  unfold zaq at e;simp only[zN h0]at e;exact J (by rw[e];rfl)
 unfold mayE;rw[h1,show(zaq p x).key=x.key from rfl,decide_eq_false h,Qy,Bool.not_false,Qy];rcases zqg f with hk|hk|hk
 ·obtain⟨a1,a2,a3⟩:=s.one hk;rw[zP hk]
  have l:(zaq p x).items = []:=by
   show zcr x.items p = []
   rw[a1];exact zk9 zp9 (by simp[zab])
  have n:(zaq p x).cell=zgd:=a2;have o:mayL (zaq p x).counts=true:=mayL_iff.2 (zhh _ _);simp only[may1,l,n,o,Qy,Yq,decide_true,Vf,zfv];refine Ym.2 fun c z=>?_
  have I:=zon i.by_ z
  by_cases h0:c.1 = []
  ·simp[h0]
  have:ofM (zaq p x).seen c.1≠0:=by
   have G:∃y∈x.counts,y.1=c.1:=by
    have A:c∈zbc x.counts p.1:=z;rw[znm _ i.by_]at A;rcases(foldP_key.1 (listL_mem.1 A).1).2 with e|e
    ·exact absurd e h0
    exact plusOf_key.1 e
   obtain⟨y,v,e⟩:=G;have:=(a3 y v).resolve_left (by rw[e];exact h0);rw[e]at this;rw[u];unfold topP;rw[zN I]
   split<;>omega
  simp[this]
 ·obtain⟨a1,a2,a3,B⟩:=s.two hk;rw[zN (by omega),zP hk]
  have l:(zaq p x).counts = []:=by
   show zbc x.counts p.1 = []
   rw[a3];exact zk7 i.by_ zj0 (by simp) (by simp)
  have n:(zaq p x).cell=zgd:=B;have o:mayB (zaq p x).items=true:=mayB_iff.2 (q.items i);simp only[may2,l,n,o,Qy,Yq,decide_true,Vf,zgt];refine Ym.2 fun it F=>Ym.2 fun d D=>?_
  obtain⟨y,v,e⟩:=turn_place.1 (ze4 F D);injection e with _ e
  rw[<- e];exact zqh i (q.dot v) (q.has y v)
 obtain⟨a1,a2⟩:=s.three hk;rw[zN (by omega),zN (by omega),zP hk]
 have l:(zaq p x).counts = []:=by
  show zbc x.counts p.1 = []
  rw[a1];exact zk7 i.by_ zj0 (by simp) (by simp)
 have n:(zaq p x).items = []:=by
  show zcr x.items p = []
  rw[a2];exact zk9 zp9 (by simp[zab])
 have o:mayC x.cell=true:=by unfold mayE at f;simp only[Qf]at f;have:=f.2.2;rw[zN (by omega),zN (by omega),zP hk]at this;simp only[may3,Qf]at this;exact this.1
 have C:(zaq p x).cell=x.cell:=rfl;simp only[may3,l,n,C,o,Yq,decide_true,Vf]
theorem zv0 {p q:PrD}(e:PrOk p)(f:PrOk q)(h1:p.1≠q.1)(m:p.1≠q.2.2.1)(n:q.1≠p.2.2.1){x:Entry}(D:GoodM x.seen):zaq q (zaq p x)=zaq p (zaq q x):=by
 have h:(zaq q (zaq p x)).seen=(zaq p (zaq q x)).seen:=by
  refine(zez (zez D)).ext (zez (zez D)) fun t=>?_
  rw[zc4 f,zc4 e];unfold topP;rw[zc4 e,zc4 e,zc4 f,zc4 f];unfold topP;rw[zN (Ne.symm h1),zN (c:=q.1=p.2.2.1/\_) fun k=>n k.1,zN h1,zN (c:=p.1=q.2.2.1/\_) fun k=>m k.1]
  by_cases c1:t=p.1
  ·subst c1;simp only[if_true,eq_false h1,eq_false m,false_and,if_false]
  by_cases c2:t=q.1
  ·subst c2;simp only[if_true,eq_false c1,eq_false n,false_and,if_false]
  simp only[zN c1,zN c2]
  rcases Classical.propComplete (t=p.2.2.1)with h|h<;>rcases Classical.propComplete (t=q.2.2.1)with i|i<;>rcases Classical.propComplete (0<ofM x.seen p.1)with j|j<;>rcases Classical.propComplete (0<ofM x.seen q.1)with l|l <;>
   simp only[h,i,j,l,and_true,and_false,if_true,if_false]<;>omega
 have i:(zaq q (zaq p x)).counts=(zaq p (zaq q x)).counts:=by
  show zbc (zbc x.counts p.1) q.1=zbc (zbc x.counts q.1) p.1
  refine(zhh _ _).ext (zhh _ _) fun k=>?_
  rw[(zbk _ f.by_ k).1,(zbk _ f.by_ k).2,(zbk _ e.by_ k).1,(zbk _ e.by_ k).2];rw[(zbk _ e.by_ k).1,(zbk _ e.by_ k).2,(zbk _ e.by_ []).1,(zbk _ e.by_ []).2,(zbk _ e.by_ q.1).1,(zbk _ e.by_ q.1).2];rw[(zbk _ f.by_ k).1,(zbk _ f.by_ k).2,(zbk _ f.by_ []).1,(zbk _ f.by_ []).2,(zbk _ f.by_ p.1).1,(zbk _ f.by_ p.1).2];simp only[eq_false (Ne.symm e.by_),eq_false (Ne.symm f.by_),eq_false (Ne.symm h1),eq_false h1,eq_false f.by_,eq_false e.by_,if_true,if_false]
  by_cases c1:k=p.1
  ·subst c1;simp only[if_true,ite_self,zN h1,zN e.by_,and_self]
  by_cases c2:k=q.1
  ·subst c2;simp only[if_true,ite_self,zN c1,zN f.by_,and_self]
  simp only[zN c1,zN c2]
  by_cases r:k = []
  ·simp only[zP r,if_true];unfold addU;omega
  simp only[zN r,and_self]
 have j:(zaq q (zaq p x)).items=(zaq p (zaq q x)).items:=by
  refine(zk8 _ _).ext (zk8 _ _) fun k=>?_
  show k∈zab (zaq q (zaq p x)).items↔k∈zab (zaq p (zaq q x)).items
  have s:∀d,zfc q (zfc p d)=zfc p (zfc q d):=fun d=>by
   unfold zfc
   by_cases c1:d.1=p.1
   ·rw[zP c1,zN (c:=d.1=q.1) (by rw[c1];exact h1),zP c1,zN (Ne.symm n)]
   rw[zN c1]
   by_cases c2:d.1=q.1
   ·rw[zP c2,zN (Ne.symm m)]
   rw[zN c2,zN c1]
  rw[turn_place,turn_place]
  constructor
  ·rintro⟨y,hy,rfl⟩;obtain⟨z,o,rfl⟩:=turn_place.1 hy;exact⟨_,turn_place.2 ⟨z,o,rfl⟩,by rw[s]⟩
  rintro⟨y,hy,rfl⟩;obtain⟨z,o,rfl⟩:=turn_place.1 hy;exact⟨_,turn_place.2 ⟨z,o,rfl⟩,by rw[s]⟩
 have l:∀ {a b:Entry},a.key=b.key->a.seen=b.seen->a.counts=b.counts->a.items=b.items->a.cell=b.cell->a=b:=by intro a b u v A B C;cases a;cases b;simp only at u v A B C;simp only[u,v,A,B,C]
 exact l rfl h i j rfl
end
section
def RiseE (l:List Entry):Prop:=l.Pairwise fun a b=>ltS a.key b.key=true
theorem RiseE.ext {a b:List Entry}(ha:RiseE a)(hb:RiseE b)(i:∀x,x∈a↔x∈b):a=b:=by
 unfold RiseE at ha hb;have h:∀ {l:List Entry},l.Pairwise (fun a b=>ltS a.key b.key=true)->l.Nodup:=fun j=>j.imp fun {a b} f e=>by subst e;rw[zap]at f;cases f
 exact List.Perm.eq_of_pairwise (le:=fun a b=>ltS a.key b.key=true) (fun x y _ _ h1 d=>by rw[zc8 h1]at d;cases d) ha hb (zdl (h ha) (h hb) i)
theorem yhm (b:Entry):zbz zak b=b:=by unfold zbz;rw[zP (sameE_iff.2 rfl)]
theorem yhn {a:Entry}(h:a.key≠[]):zbz a zak=a:=by
 unfold zbz;rw[zN (fun e=>h (by rw[sameE_iff.1 e];rfl)),zN (fun e=>h (by rw[e];rfl))]
theorem yi9 (l:List Entry)(k:Str):getE l k=zak ∨ (getE l k∈l/\(getE l k).key=k):=by
 unfold getE
 cases d:za4 l k with
 | none=>exact .inl rfl
 | some y=>exact .inr ⟨zjy d,zpt d⟩
def dd (o:List Str)(x:Str):List Str:=if o.getLast? = some x then o else o++[x]
theorem ykn (l:List Str):(l.foldl dd []).getLast? = l.getLast?:=by
 induction l using zhq with
 | h0=>rfl
 | h1 l x ih =>
  rw[Vm,Vt,Vu];unfold dd
  split
  ·rename_i h;rw[h];simp
  simp
theorem yjb (l:List Str):Lib.compact l=l.foldl dd []:=by
 have key:∀m,m<=l.length->Lib.compactUpTo l.toArray m=(l.take m).foldl dd []:=by
  intro m
  induction m with
  | zero=>intro _;simp[Lib.compactUpTo]
  | succ m p =>
   intro q;have h:m<l.length:=(by omega);rw[Lib.compactUpTo_succ,p (by omega),List.take_succ_eq_append_getElem h,Vm,Vt,Vu];have n:((l.take m).foldl dd []).getLast? = (l.take m).getLast?:=ykn _;have e:(l.toArray)[m]! = l[m]:=(by rw[getElem!_pos l.toArray m (by simpa using h)];simp);unfold dd;rw[e]
   by_cases h0:m=0
   ·subst h0;rw[zP (by simp[Lib.keeps]),zN (by simp)]
   have f:(l.toArray)[m-1]! = l[m-1]:=by rw[getElem!_pos l.toArray (m-1) (by simp;omega)];simp
   have j:(l.take m).getLast? = some l[m-1]:=by rw[List.getLast?_eq_getElem?,Qe,Qz (by omega),Ye (by omega),Qg (by omega)]
   have i:((l.take m).foldl dd []).getLast? = some l[m-1]:=n.trans j;rw[show(List.foldl (fun o x=>if o.getLast? = some x then o else o++[x]) [] (l.take m))=(l.take m).foldl dd []from rfl,i]
   by_cases d:l[m-1]=l[m]
   ·rw[zN,zP (by rw[d]),Va];rw[Lib.keeps_neg (by omega) (by rw[e,f,d])];simp
   rw[zP,zN (fun k=>d (Yn k))];exact Lib.keeps_pos (by rw[e,f];exact fun k=>d k.symm)
 have:=key l.length (Yk _);rw[Yy]at this;exact this
end
section
open Go.RowKit
structure TurnTwo (p:PrD) (x y:Entry):Prop where
 plus:zbr x.counts p.1=zbr y.counts p.1/\zbr x.counts []=zbr y.counts []
 minus:zbf x.counts p.1=zbf y.counts p.1/\zbf x.counts []=zbf y.counts []
 hasy:∀q∈zab x.items,q.2.1=p.1 ∨ (q.2.1=p.2.2.1/\q.2.2<=p.2.2.2)->hasM y.seen q.2=true
 hasx:∀q∈zab y.items,q.2.1=p.1 ∨ (q.2.1=p.2.2.1/\q.2.2<=p.2.2.2)->hasM x.seen q.2=true
theorem TurnTwo.refl {p:PrD}{x:Entry}(e:TurnOk p x):TurnTwo p x x:=⟨⟨rfl,rfl⟩,⟨rfl,rfl⟩,fun q d _=>e.has q d,fun q d _=>e.has q d⟩
theorem yib {a b:Entry}(d:a.key=b.key)(e:a.seen=b.seen)(f:a.counts=b.counts)(h:a.items=b.items)(i:a.cell=b.cell):a=b:=by
 cases a;cases b;simp only at d e f h i;simp only[d,e,f,h,i]
theorem yjc (a:List Item)(d:List Mark)(b:List Item)(e:List Mark):RiseB (ze8 a d b e):=zvn (zd9 _ _ (zms _ _ _))
theorem yin {p:PrD}(d:PrOk p){x y:Entry}(l:TurnOk p x)(m:TurnOk p y)(hk:x.key=y.key)(h0:x.key≠[])(i:TurnTwo p x y):zbz (zaq p x) (zaq p y)=zaq p (zbz x y):=by
 have hJ:∀ {a b:Entry},a.key=b.key->a.key≠[]->zbz a b=⟨a.key,za0 a.seen b.seen,zef a.counts b.counts,ze8 a.items a.seen b.items b.seen,ze0 a.cell b.cell⟩:=fun {a b} h1 h=>by unfold zbz;rw[zN fun i=>zp0 h (sameE_iff.1 i),zP h1]
 rw[hJ hk h0,hJ (a:=zaq p x) (b:=zaq p y) hk h0];have B:=zez (p:=p) l.seen;have C:=zez (p:=p) m.seen;have G:=d.ne;refine yib rfl ?_ ?_ ?_ rfl
 ·refine(zcp _ _).ext (zez (zcp _ _)) fun t=>?_
  show ofM (za0 (zaq p x).seen (zaq p y).seen) t=_
  rw[zfs,zc4 d,zc4 d,zc4 d];unfold topP;simp only[zfs]
  by_cases c1:t=p.1
  ·simp only[zP c1];omega
  simp only[zN c1]
  by_cases c2:t=p.2.2.1
  ·simp only[c2,true_and]
   repeat' split
   all_goals omega
  simp only[c2,false_and,if_false]
 ·refine(zuu _ _).ext (zhh _ _) fun k=>?_
  show zbr (zef (zbc x.counts p.1) (zbc y.counts p.1)) k=zbr (zbc (zef x.counts y.counts) p.1) k/\zbf (zef (zbc x.counts p.1) (zbc y.counts p.1)) k=zbf (zbc (zef x.counts y.counts) p.1) k
  rw[(zpr _ _ k).1,(zpr _ _ k).2];rw[(zbk _ d.by_ k).1,(zbk _ d.by_ k).2,(zbk _ d.by_ k).1,(zbk _ d.by_ k).2,(zbk _ d.by_ k).1,(zbk _ d.by_ k).2];simp only[(zpr _ _ _).1,(zpr _ _ _).2]
  by_cases c1:k=p.1
  ·simp only[zP c1,Nat.max_self,and_self]
  simp only[zN c1]
  by_cases c2:k = []
  ·simp only[zP c2,i.plus.1,i.plus.2,i.minus.1,i.minus.2,Nat.max_self,and_self]
  simp only[zN c2,and_self]
 refine(yjc _ _ _ _).ext (zk8 _ _) fun k=>?_
 show k∈zab (ze8 (zaq p x).items (zaq p x).seen (zaq p y).items (zaq p y).seen)↔k∈zab (zcr (ze8 x.items x.seen y.items y.seen) p)
 rw[zrn B C,turnB_mem];simp only[zrn l.seen m.seen]
 have F:∀ {u v:Entry},TurnOk p u->TurnOk p v->∀q∈zab u.items,(zci p q∈zab (zaq p v).items↔q∈zab v.items):=fun {u v} j o q f=>by
  rw[turn_place]
  constructor
  ·rintro⟨z,n,e⟩;rw[<- zjm]at e;have:=yjo d (o.dot n) (j.dot f) e;rw[<- this];exact n
  intro n;exact⟨q,n,(zjm p q).symm⟩
 have r:∀ {u v:Entry},TurnOk p u->TurnOk p v->(∀q∈zab u.items,q.2.1=p.1 ∨ (q.2.1=p.2.2.1/\q.2.2<=p.2.2.2)->hasM v.seen q.2=true)->∀q∈zab u.items,((zci p q∈zab (zaq p v).items ∨ hasM (zaq p v).seen (zci p q).2=false)↔(q∈zab v.items ∨ hasM v.seen q.2=false)):=fun {u v} j o D q f=>by rw[F j o q f,zjm,yig d (j.dot f) (D q f)]
 have s:=r l m i.hasy;have A:=r m l i.hasx
 constructor
 ·rintro(⟨h1,h⟩|⟨h1,h⟩)
  ·obtain⟨q,f,e⟩:=turn_place.1 h1;rw[<- zjm]at e;subst e;exact⟨q,.inl ⟨f,(s q f).1 h⟩,rfl⟩
  obtain⟨q,f,e⟩:=turn_place.1 h1;rw[<- zjm]at e;subst e;exact⟨q,.inr ⟨f,(A q f).1 h⟩,rfl⟩
 rintro⟨q,⟨h1,h⟩|⟨h1,h⟩,rfl⟩
 ·exact .inl ⟨turn_place.2 ⟨q,h1,(zjm p q).symm⟩,(s q h1).2 h⟩
 exact .inr ⟨turn_place.2 ⟨q,h1,(zjm p q).symm⟩,(A q h1).2 h⟩
def turnS (p:PrD)(s:State):State:=⟨zau s.all p.1,s.entries.map (zaq p),insP s.pruned p.1⟩
theorem yhh (p:PrD)(l:List Entry)(k:Str):za4 (l.map (zaq p)) k=(za4 l k).map (zaq p):=by
 unfold za4;rw[List.find?_map]
 rfl
theorem yho {p:PrD}(h:p.1≠[])(l:List Entry)(k:Str):getE (l.map (zaq p)) k=zaq p (getE l k):=by
 unfold getE;rw[yhh]
 cases za4 l k with
 | none=>exact(yg7 h).symm
 | some x=>rfl
theorem zyp (p:PrD)(l:List Entry):(l.map (zaq p)).map (·.key)=l.map (·.key):=by
 rw[Yo]
 rfl
theorem yi1 {p:PrD}(d:PrOk p){a b:List Entry}(ha:∀x∈a,TurnOk p x/\x.key≠[])(hb:∀x∈b,TurnOk p x/\x.key≠[])(e:∀x∈a,∀y∈b,x.key=y.key->TurnTwo p x y):zhd (a.map (zaq p)) (b.map (zaq p))=(zhd a b).map (zaq p):=by
 unfold zhd zb8;rw[zyp,zyp,Yo];refine Qu fun k _=>?_
 show zbz (getE (a.map (zaq p)) k) (getE (b.map (zaq p)) k)=zaq p (zbz (getE a k) (getE b k))
 rw[yho d.by_,yho d.by_];rcases yi9 a k with e1|⟨m1,k1⟩
 ·rw[e1,yg7 d.by_,yhm,yhm]
 rcases yi9 b k with e2|⟨m2,k2⟩
 ·rw[e2,yg7 d.by_,yhn (ha _ m1).2,yhn (a:=zaq p (getE a k)) (ha _ m1).2]
 exact yin d (ha _ m1).1 (hb _ m2).1 (k1.trans k2.symm) (ha _ m1).2 (e _ m1 _ m2 (k1.trans k2.symm))
theorem yjd (a b:List Mark)(s:Str):za0 (zau a s) (zau b s)=zau (za0 a b) s:=(zcp _ _).ext (ze7 _ _) fun t=>by
 rw[zfs,zcs,zcs,zcs,zfs]
 split<;>omega
theorem yi2 (s:Str):Lib.compact (zbw ([s]++[s])) = [s]:=by
 have h:zbw ([s]++[s]) = [s,s]:=List.mergeSort_of_pairwise (by simp[Vj,leS]);rw[h,yjb];simp[dd]
theorem yg8 {p:PrD}(e:PrOk p){a b:State}(ha:∀x∈a.entries,TurnOk p x/\x.key≠[])(hb:∀x∈b.entries,TurnOk p x/\x.key≠[])(d:∀x∈a.entries,∀y∈b.entries,x.key=y.key->TurnTwo p x y)(f:a.pruned = [])(h:b.pruned = []):zb9 (turnS p a) (turnS p b)=turnS p (zb9 a b):=by
 unfold zb9 turnS;simp only[f,h];rw[yi1 e ha hb d,yjd,zm3,show insP [] p.1 = [p.1]from rfl,yi2]
structure TurnS (p:PrD) (s:State):Prop where
 may:mayS s=true
 each:∀x∈s.entries,TurnOk p x/\x.key≠[]/\x.seen.length<=511
 new:p.1∉s.pruned
 ready:ofM s.all p.1≠0->zc3 s.all p=true
theorem zv1 {p:PrD}(e:PrOk p){x:Entry}(f:mayE x=true)(d:TurnOk p x)(h0:ofM x.seen p.1=0):zaq p x=x:=(zse (prOk_iff.2 e) f d.most).same h0
theorem TurnS.prune {p:PrD}(i:PrOk p){s:State}(d:TurnS p s):zbh s p=(turnS p s,0):=by
 have f:=mayS_iff.1 d.may;have l:GoodM s.all:=(mayM_iff.1 f.all).2.1;unfold zbh;rw[d.may,prOk_iff.2 i,Qy,zP rfl,zN d.new]
 by_cases h0:0<ofM s.all p.1
 ·rw[zP h0,zP (d.ready (by omega))]
  rfl
 rw[zN h0]
 have j:s.all=zau s.all p.1:=l.ext (ze7 _ _) fun t=>by
  rw[zcs]
  split
  ·rename_i e;rw[e];omega
  rfl
 have k:s.entries.map (zaq p)=s.entries:=by refine(Qu fun x h=>?_).trans (List.map_id _);have m:=coversM_iff.1 (f.each x h).2 p.1;exact zv1 i (f.each x h).1 (d.each x h).1 (by omega)
 unfold turnS;rw[k,<- j]
theorem zsf {l:List Str}{s t:Str}(h:s∉l):t∈insP l s↔t=s ∨ t∈l:=by
 unfold insP;simp only[Vs,Qo,Yt]
 constructor
 ·rintro(h|h|h)
  ·exact .inr h.1
  ·exact .inl h
  exact .inr h.1
 rintro(h1|h1)
 ·exact .inr (.inl h1)
 rcases zcj t s with h2|h2|h2
 ·exact .inl ⟨h1,h2⟩
 ·exact absurd (h2▸h1) h
 exact .inr (.inr ⟨h1,h2⟩)
theorem zyq {l:List Str}(d:RiseS l)(s:Str):RiseS (insP l s):=by
 unfold insP RiseS at *;refine List.pairwise_append.2 ⟨d.filter _,Vj.2 ⟨fun x e=>?_,d.filter _⟩,fun a ha b hb=>?_⟩
 ·simpa using(Qo.1 e).2
 have h1:ltS a s=true:=by simpa using(Qo.1 ha).2
 rcases Yt.1 hb with rfl|hb
 ·exact h1
 exact zay h1 (by simpa using(Qo.1 hb).2)
theorem ybh {p:PrD}{a b:List Mark}(d:∀t,ofM a t<=ofM b t)(h:ofM b p.1≠0->zc3 b p=true)(t:Str):topP a p t<=if t=p.1 then 0 else ofM b t:=by
 unfold topP
 split
 ·exact Yk _
 split
 ·rename_i h1 f;have i:=d p.1;have e:=h (by omega);unfold zc3 at e;simp only[Qf,decide_eq_true_eq]at e;have:=d t;rw[f.1]at this ⊢;omega
 exact d t
theorem TurnS.may_turn {p:PrD}(j:PrOk p){s:State}(h:TurnS p s):mayS (turnS p s)=true:=by
 have f:=mayS_iff.1 h.may;obtain⟨q,z,r⟩:=mayM_iff.1 f.all;refine mayS_iff.2 ⟨mayM_iff.2 ⟨?_,ze7 _ _,fun m i=>?_⟩,fun x k=>?_,?_,fun t d=>?_,zyq f.risep _⟩
 ·have:=zd3 (ze7 s.all p.1) (ps:=s.all.map (·.1)) fun t d=>by
   rw[zcs]at d
   by_cases h1:t=p.1
   ·rw[zP h1]at d;exact absurd rfl d
   rw[zN h1]at d;obtain⟨m,i,e,-⟩:=ziz d;exact Qk.2 ⟨m,i,e⟩
  simp only[Qj]at this;exact Qc this q
 ·have h1:=(ze7 s.all p.1).1.of i ((ze7 s.all p.1).2 m i).1;rw[zcs]at h1;have u:ofM s.all m.1<=281474976710656:=ofM_le.2 fun x k _ _=>r x k
  split at h1<;>omega
 ·obtain⟨y,l,rfl⟩:=Qk.1 (show x∈s.entries.map (zaq p)from k);obtain⟨n,v,o⟩:=h.each y l;refine⟨zyo j n (f.each y l).1 o,coversM_iff.2 fun t=>?_⟩
  show ofM (zaq p y).seen t<=ofM (zau s.all p.1) t
  rw[zc4 j,zcs];exact ybh (coversM_iff.1 (f.each y l).2) h.ready t
 ·show RiseS ((s.entries.map (zaq p)).map (·.key))
  rw[zyp];exact f.rise
 show t≠[]/\ofM (zau s.all p.1) t=0
 rw[zcs];rcases(zsf h.new).1 (show t∈insP s.pruned p.1 from d)with rfl|d
 ·exact⟨j.by_,zP rfl⟩
 have:=f.pruned t d;refine⟨this.1,?_⟩
 split
 ·rfl
 exact this.2
theorem TurnS.again {p:PrD}(e:PrOk p){s:State}(d:TurnS p s):zbh (turnS p s) p=(turnS p s,0):=by
 unfold zbh;rw[d.may_turn e,prOk_iff.2 e,Qy,zP rfl,zP (show p.1∈(turnS p s).pruned from(zsf d.new).2 (.inl rfl))]
theorem IsE.turnOk {E:List Ev}(h:HistOk E){t:List Str}{s:State}(r:IsS E t s){p:PrD}(n:ofM s.all p.1<=p.2.1)(o:∀e∈E,zao (vecS s) e=true->e.path=p.2.2.1->e.num<=p.2.2.2 ∨ p.2.2.2+p.2.1<e.num){x:Entry}{k:Str}(d:IsE E (vecS s) k x):TurnOk p x where
 seen:=d.seenG
 cnt:=d.cntG
 most c hc:=by
  have h1:=plusC_le.1 (Yk (zbr x.counts c.1)) c hc rfl;have l:=minusC_le.1 (Yk (zbf x.counts c.1)) c hc rfl;rw[d.plus]at h1;rw[d.minus]at l
  have m:=zis h (f:=upK (vecS s) k c.1) fun e j=>by
   unfold upK
   split
   ·exact(zke (h.ok e j).lo (h.ok e j).hi).1
   omega
  have u:=zis h (f:=zb1 (vecS s) k c.1) fun e j=>by
   unfold zb1
   split
   ·exact(zke (h.ok e j).lo (h.ok e j).hi).2
   omega
  omega
 its:=d.itG
 has q hq:=by obtain⟨i,e,h1,l,m,-,rfl,-⟩:=(d.items q).1 hq;exact(d.hasM h.toHist h1 m).2 l
 of:=Qc (zhr r d p.1) n
 own q hq j:=by obtain⟨i,e,h1,l,-,-,rfl,-⟩:=(d.items q).1 hq;exact o e (Qn h1) l j
theorem zqt {p:PrD}(j:PrOk p){x:Entry}(h:GoodM x.seen):(zaq p x).seen.length<=x.seen.length+1:=by
 have:=zd3 (zez (p:=p) h) (ps:=p.2.2.1::x.seen.map (·.1)) fun t d=>by
  rw[zc4 j]at d;unfold topP at d
  by_cases h1:t=p.1
  ·rw[zP h1]at d;exact absurd rfl d
  rw[zN h1]at d
  by_cases f:t=p.2.2.1
  ·simp[f]
  rw[zN fun k=>f k.1]at d;obtain⟨m,i,e,-⟩:=ziz d;exact Qw _ (Qk.2 ⟨m,i,e⟩)
 simpa using this
theorem IsS.turnS {E:List Ev}(h:HistOk E){ps:List Str}{s:State}(d:IsS E [] s)(f:VecOk ps s){p:PrD}(i:ofM s.all p.1=p.2.1)(l:p.2.2.2+p.2.1<=ofM s.all p.2.2.1)(k:∀e∈E,zao (vecS s) e=true->e.path=p.2.2.1->e.num<=p.2.2.2 ∨ p.2.2.2+p.2.1<e.num):TurnS p s where
 may:=d.may h f (by simp) .nil
 each x hx:=by
  obtain⟨h1,j⟩:=d.each x hx;refine⟨h1.turnOk h d (Nat.le_of_eq i) k,j,?_⟩;have:=zd3 h1.seenG (ps:=ps) fun t m=>f.paths t (by have:=zhr d h1 t;omega)
  have:=f.few;omega
 new:=by rw[d.pruned];simp
 ready _:=by
  unfold zc3;rw[decide_eq_true i,decide_eq_true l]
  rfl
theorem TurnOk.turn {p q:PrD}(e:PrOk p)(l:PrOk q){x:Entry}(d:TurnOk p x)(f:TurnOk q x)(h1:q.1≠p.1)(i:q.1≠p.2.2.1)(j:∀n,1<=n->n<=p.2.1->p.2.2.1=q.2.2.1->p.2.2.2+n<=q.2.2.2 ∨ q.2.2.2+q.2.1<p.2.2.2+n):TurnOk q (zaq p x) where
 seen:=zez d.seen
 cnt:=zhh _ _
 most:=zvz d.most e.by_
 its:=d.items e
 has k hk:=by obtain⟨y,f,rfl⟩:=turn_place.1 hk;exact zqh e (d.dot f) (d.has y f)
 of:=by rw[zc4 e];unfold topP;rw[zN h1,zN fun k=>i k.1];exact f.of
 own k hk he:=by
  obtain⟨y,h,rfl⟩:=turn_place.1 hk
  by_cases c1:y.2.1=p.1
  ·have c2:=(d.dot h).by_ c1;simp only at he ⊢;rw[zgn e (d.dot h) c1]at he ⊢;exact j y.2.2 c2.1 c2.2 he
  simp only at he ⊢;rw[zgo c1]at he ⊢;exact f.own y h he
theorem TurnS.turn {p q:PrD}(d:PrOk p)(t:PrOk q){s:State}(f:TurnS p s)(h:TurnS q s)(h1:q.1≠p.1)(l:q.1≠p.2.2.1)(o:q.2.2.1≠p.1)(m:∀n,1<=n->n<=p.2.1->p.2.2.1=q.2.2.1->p.2.2.2+n<=q.2.2.2 ∨ q.2.2.2+q.2.1<p.2.2.2+n)(r:∀x∈s.entries,x.seen.length<=510):TurnS q (turnS p s) where
 may:=f.may_turn d
 each x hx:=by obtain⟨y,i,rfl⟩:=Qk.1 (show x∈s.entries.map (zaq p)from hx);obtain⟨j,u,-⟩:=f.each y i;have:=zqt d j.seen;have:=r y i;exact⟨j.turn d t (h.each y i).1 h1 l m,u,by omega⟩
 new:=fun k=>by
  rcases(zsf f.new).1 (show q.1∈insP s.pruned p.1 from k)with e|e
  ·exact h1 e
  exact h.new e
 ready h0:=by
  show zc3 (zau s.all p.1) q=true
  have h0:ofM (zau s.all p.1) q.1≠0:=h0;rw[zcs,zN h1]at h0;have:=h.ready h0;unfold zc3 at this ⊢
  rwa[zcs,zcs,zN h1,zN o]
theorem zv2 {p q:PrD}(h:PrOk p)(i:PrOk q)(h1:p.1≠q.1)(e:p.1≠q.2.2.1)(f:q.1≠p.2.2.1){s:State}(j:∀x∈s.entries,GoodM x.seen)(hi:insP (insP s.pruned p.1) q.1=insP (insP s.pruned q.1) p.1):turnS q (turnS p s)=turnS p (turnS q s):=by
 unfold turnS;simp only;rw[hi,Yo,Yo]
 have d:zau (zau s.all p.1) q.1=zau (zau s.all q.1) p.1:=(ze7 _ _).ext (ze7 _ _) fun t=>by
  rw[zcs,zcs,zcs,zcs]
  repeat' split
  all_goals rfl
 rw[d]
 congr 1
 exact Qu fun x k=>zv0 h i h1 e f (j x k)
theorem yau {V f:Vec}{p:Str}(h1:∀t,t≠p->f t=V t)(k:V p<=f p){E:List Ev}(i:∀e∈E,e.path=p->zao V e=true){e:Ev}(j:e∈E):zao f e=zao V e:=by
 by_cases h:e.path=p
 ·have d:=i e j h;rw[d];unfold zao at d ⊢;simp only[decide_eq_true_eq]at d ⊢;rw[h]at d ⊢;omega
 unfold zao;rw[h1 _ h]
theorem IsS.up {E:List Ev}{o:List Str}{s:State}(h:IsS E o s){p:Str}{n:Nat}(v:p≠[])(u:ofM s.all p<=n)(r:∀e∈E,e.path=p->zao (vecS s) e=true):IsS E o { s with all:=setM s.all p n }:=by
 have m:∀t,vecS { s with all:=setM s.all p n } t=if t=p then n else vecS s t:=fun t=>by
  show ofM (setM s.all p n) t=_
  rw[zho,zN v]
 have hk:∀e∈E,zao (vecS { s with all:=setM s.all p n }) e=zao (vecS s) e:=fun e d=>yau (p:=p) (fun t y=>by rw[m,zN y]) (by rw[m,zP rfl];exact u) r d
 refine⟨zft _ _ _,h.pruned,h.rise,fun x z=>?_,fun k=>?_,fun i j a b h1 f l q=>?_⟩
 ·obtain⟨h1,f⟩:=h.each x z;exact⟨h1.congr fun e d _=>(hk e d).symm,f⟩
 ·rw[h.has k]
  constructor
  ·rintro⟨e,d,h1,f⟩;exact⟨e,d,by rw[hk e d];exact h1,f⟩
  rintro⟨e,d,h1,f⟩;exact⟨e,d,by rw[<- hk e d];exact h1,f⟩
 rw[hk b (Qn f)]at l;rw[hk a (Qn h1)];exact h.closed i j a b h1 f l q
def ordP (s:State)(k:Nat):PrD:=(zac k,ofM s.all (zac k),zac 2,ofM s.all (zac 2))
def ordS (s:State):Nat->State
 | 0=>s
 | k+1=>{ ordS s k with all:=setM (ordS s k).all (zac 2) (ofM (ordS s k).all (zac 2)+ofM (ordS s k).all (zac k)) }
def ordL (s:State):Nat->List PrD
 | 0=>[]
 | k+1=>ordL s k++[ordP (ordS s k) k]
theorem zyr (s:State):∀k,(ordS s k).entries=s.entries/\(ordS s k).pruned=s.pruned
 | 0=>⟨rfl,rfl⟩
 | k+1=>zyr s k
theorem zex (s:State){t:Str}(h:t≠zac 2):∀k,ofM (ordS s k).all t=ofM s.all t
 | 0=>rfl
 | k+1=>by
  show ofM (setM _ _ _) t=_
  rw[zho,zN h];exact zex s h k
theorem znp (s:State)(k:Nat):ofM (ordS s (k+1)).all (zac 2)=ofM (ordS s k).all (zac 2)+ofM (ordS s k).all (zac k):=by
 show ofM (setM _ _ _) _=_
 rw[zho,zP rfl,zN (zfz 2)]
theorem p01:zac 0≠zac 2/\zac 1≠zac 2/\zac 0≠zac 1:=by decide
structure Ord (E:List Ev) (s:State):Prop where
 hist:HistOk E
 is:IsS E [] s
 vec:VecOk (zf9 4) s
 most:∀p,ofM s.all p<=200
 own:∀e∈E,e.path=zac 2->zao (vecS s) e=true
theorem zys {k n:Nat}(h:k<n):zac k∈zf9 n:=Qk.2 ⟨k,List.mem_range.2 h,rfl⟩
theorem Ord.step {E:List Ev}{s:State}(d:Ord E s):∀k,k<=2->IsS E [] (ordS s k)/\VecOk (zf9 4) (ordS s k)/\ofM (ordS s k).all (zac 2)<=200+200 * k/\(∀e∈E,e.path=zac 2->zao (vecS (ordS s k)) e=true)
 | 0,_=>⟨d.is,d.vec,d.most _,d.own⟩
 | k+1,hk=>by
  obtain⟨h1,q,r,j⟩:=d.step k (by omega);have l:=znp s k;have i:∀t,t≠zac 2->ofM (ordS s (k+1)).all t=ofM s.all t:=fun t n=>zex s n _
  have o:ofM (ordS s k).all (zac k)<=200:=by
   have:zac k≠zac 2:=by rcases(show k=0 ∨ k=1 by omega)with rfl|rfl;exact p01.1;exact p01.2.1
   rw[zex s this];exact d.most _
  refine⟨h1.up (zfz 2) (by omega) j,⟨fun p f=>?_,d.vec.few,fun p=>?_⟩,by omega,fun e m f=>?_⟩
  ·by_cases h:p=zac 2
   ·rw[h];exact zys (by decide)
   rw[i p h]at f;exact d.vec.paths p f
  ·by_cases h:p=zac 2
   ·rw[h,l];omega
   rw[i p h];exact d.vec.most p
  have:=j e m f;unfold zao at this ⊢;simp only[decide_eq_true_eq,vecS]at this ⊢;rw[f]at this ⊢;omega
theorem Ord.reserve {E:List Ev}{s:State}(d:Ord E s){k:Nat}(hk:k<2):zee (ordS s k) (zac 2) (ofM (ordS s k).all (zac k))=(ordS s (k+1),0):=by
 obtain⟨h1,e,h,-⟩:=d.step k (by omega)
 have f:ofM (ordS s k).all (zac k)<=200:=by
  have:zac k≠zac 2:=by rcases(show k=0 ∨ k=1 by omega)with rfl|rfl;exact p01.1;exact p01.2.1
  rw[zex s this];exact d.most _
 unfold zee;rw[zN (by rw[h1.may d.hist e (by simp) .nil];simp[zac]),zN (by omega)]
 rfl
theorem Ord.both {E:List Ev}{s:State}(f:Ord E s) :
  ∃A,allP (ordS s 2) [ordP s 0,ordP (ordS s 1) 1]=(A,0)/\allP (ordS s 2) [ordP (ordS s 1) 1,ordP s 0]=(A,0)/\A.pruned = [zac 0,zac 1]/\LimS 402 A:=by
 obtain⟨h1,k,L,M⟩:=f.step 2 (by omega);obtain⟨i,j,p⟩:=p01;have I:ofM (ordS s 1).all (zac 2)=ofM s.all (zac 2)+ofM s.all (zac 0):=znp s 0;have a1:ofM (ordS s 2).all (zac 2)=ofM (ordS s 1).all (zac 2)+ofM (ordS s 1).all (zac 1):=znp s 1;have J:=zex s i 1;have F:=zex s i 2;have K:=zex s j 1;have c1:=zex s j 2;have P:=f.most (zac 0);have Q:=f.most (zac 1);have R:=f.most (zac 2);have d:PrOk (ordP s 0):=⟨zfz 0,zfz 2,i,by show ofM s.all (zac 2)+ofM s.all (zac 0)<=_;omega⟩
 have h:PrOk (ordP (ordS s 1) 1):=⟨zfz 1,zfz 2,j,by show ofM (ordS s 1).all (zac 2)+ofM (ordS s 1).all (zac 1)<=_;omega⟩
 have v:∀e∈E,e.path=zac 2->e.num<=ofM s.all (zac 2):=fun e l d=>by
  have:=f.own e l d;unfold zao at this;simp only[decide_eq_true_eq,vecS]at this
  rwa[d]at this
 have m:TurnS (ordP s 0) (ordS s 2):=h1.turnS f.hist k F (by show ofM s.all (zac 2)+ofM s.all (zac 0)<=_;show _<=ofM (ordS s 2).all (zac 2);omega) fun e l _ d=>.inl (v e l d)
 have q:TurnS (ordP (ordS s 1) 1) (ordS s 2):=h1.turnS f.hist k (by show ofM (ordS s 2).all (zac 1)=ofM (ordS s 1).all (zac 1);omega) (by show ofM (ordS s 1).all (zac 2)+ofM (ordS s 1).all (zac 1)<=ofM (ordS s 2).all (zac 2);omega) fun e l _ d=>.inl (by have:=v e l d;show _<=ofM (ordS s 1).all (zac 2);omega)
 have r:∀x∈(ordS s 2).entries,x.seen.length<=510:=fun x o=>by
  obtain⟨z,-⟩:=h1.each x o;have:=zd3 z.seenG (ps:=zf9 4) fun t O=>k.paths t (by have:=zhr h1 z t;omega)
  have:=k.few;omega
 have D:TurnS (ordP (ordS s 1) 1) (turnS (ordP s 0) (ordS s 2)):=m.turn d h q (Ne.symm p) j (Ne.symm i) (fun n _ u _=>.inl (by
  have u:n<=ofM s.all (zac 0):=u
  show ofM s.all (zac 2)+n<=ofM (ordS s 1).all (zac 2)
  omega)) r
 have H:TurnS (ordP s 0) (turnS (ordP (ordS s 1) 1) (ordS s 2)):=q.turn h d m p i (Ne.symm j) (fun n N _ _=>.inr (by
  show ofM s.all (zac 2)+ofM s.all (zac 0)<ofM (ordS s 1).all (zac 2)+n
  omega)) r
 have y:(ordS s 2).pruned = []:=h1.pruned;have G:=zv2 d h (s:=ordS s 2) p i j (fun x o=>(h1.each x o).1.seenG) (by rw[y];show insP (insP [] (zac 0)) (zac 1)=insP (insP [] (zac 1)) (zac 0);decide);have B:=zlb (ordP s 0) (h1.lim f.hist k);rw[m.prune d]at B;have C:=zlb (ordP (ordS s 1) 1) B;rw[D.prune h]at C;refine⟨_,?_,?_,?_,C⟩
 ·simp only[allP,m.prune d,D.prune h,if_true]
 ·simp only[allP,q.prune h,H.prune d,if_true,G]
 show insP (insP (ordS s 2).pruned (zac 0)) (zac 1)=_
 rw[y]
 decide
theorem zto (s:State)(a b:Str):zdk (zdk s a) b=zdk (zdk s b) a:=by
 unfold zdk;simp only[List.filter_filter]
 congr 1
 exact List.filter_congr fun x _=>Bool.and_comm _ _
theorem LimS.forget {n:Nat}{s:State}(h:LimS n s)(a:Str):LimS n (zdk s a):=⟨h.all,h.entries,Qc (List.length_filter_le _ _) h.pruned,h.each⟩
theorem ztp {s:State}(h:s.pruned = [zac 0,zac 1]):(zdk s (zac 0)).pruned = [zac 1]:=by
 show s.pruned.filter _=_
 rw[h]
 decide
theorem RepsOk.ord {E:List Ev}{rs:List Rep}(f:RepsOk E 4 rs){a b c d:Rep}(ha:rs[0]? = some a)(hb:rs[1]? = some b)(l:rs[2]? = some c)(n:rs[3]? = some d):Ord E (zb9 (zb9 a.s b.s) (zb9 c.s d.s)):=by
 have h:=f.hist.toHist;have i:=f.each 0 a ha;have j:=f.each 1 b hb;have k:=f.each 2 c l;have rd:=f.each 3 d n;have m:=f.hist.most;have r:=i.vec f.few m;have t:=j.vec f.few m;have u:=k.vec f.few m;have v:=rd.vec f.few m;refine⟨f.hist,(i.is.join0 h j.is).join0 h (k.is.join0 h rd.is),(r.join t).join (u.join v),fun p=>?_,fun e o q=>?_⟩
 ·rw[zjk,zjk,zjk];have:=i.most p;have:=j.most p;have:=k.most p;have:=rd.most p;omega
 have h1:=f.own 2 c l e o q;rw[zgy,zba,zgy c.s,zba,h1];simp
theorem yg6 {α:Type}{l:List α}{m:Nat}{x:α}(d:l[m]? = some x):l.take (m+1)=l.take m++[x]:=by
 obtain⟨e,rfl⟩:=Qd.1 d;rw[Vk,Qg e]
 rfl
theorem yhp (V:Vec)(E:List Ev)(e:Ev):sumM V (E++[e])=sumM V E+(if zao V e=true/\e.op=1 then e.n else 0):=by
 unfold sumM;rw[List.map_append,List.sum_append];simp
theorem yjf {E:List Ev}(d:HistOk E)(V:Vec)(m:Nat):-6553600<=sumM V (E.take m)/\sumM V (E.take m)<=6553600:=by
 have i:∀E:List Ev,(∀e∈E,-32768<=e.n/\e.n<=32767)->-32768 * (E.length:Int)<=sumM V E/\sumM V E<=32768 * (E.length:Int):=by
  intro E
  induction E using zhq with
  | h0=>intro _;simp[sumM]
  | h1 E e ih =>
   intro f;have h1:=ih fun y k=>f y (List.mem_append_left _ k)
   have j:=f e (by simp);rw[yhp,Yd,Qs,Yq]
   split<;>omega
 have h1:=i (E.take m) fun e h=>⟨(d.ok e (Qx h)).lo,(d.ok e (Qx h)).hi⟩
 have j:=d.most;have l:(E.take m).length<=E.length:=by rw[Qe];omega
 omega
def ygu (E:List Ev)(V:Vec)(m:Nat)(t:Str):Prop:=∃(i:Nat) (e:Ev),i<m/\E[i]? = some e/\zao V e=true/\e.op=2/\e.tx=t/\¬Gone E V i e.tx
theorem yhw (E:List Ev)(V:Vec)(t:Str):¬ygu E V 0 t:=fun⟨i,_,h,_⟩=>by omega
theorem yg0 {E:List Ev}{V:Vec}{m:Nat}{e:Ev}(h:E[m]? = some e)(t:Str):ygu E V (m+1) t↔ygu E V m t ∨ (zao V e=true/\e.op=2/\e.tx=t/\¬Gone E V m e.tx):=by
 constructor
 ·rintro⟨i,x,h1,h2,h3⟩;rcases Qt i m with hi|hi
  ·exact .inl ⟨i,x,hi,h2,h3⟩
  have:i=m:=by omega
  subst this;rw[h]at h2;cases h2;exact .inr h3
 rintro(⟨i,x,h1,h2⟩|h2)
 ·exact⟨i,x,by omega,h2⟩
 exact⟨m,e,by omega,h,h2⟩
theorem yh2 (E:List Ev)(V:Vec)(t:Str):ygu E V E.length t↔yg2 E V t:=by
 constructor
 ·rintro⟨i,e,-,h⟩;exact⟨i,e,h⟩
 rintro⟨i,e,h1,h2⟩;exact⟨i,e,(Qd.1 h1).1,h1,h2⟩
def yhs (E:List Ev)(V:Vec)(i:Nat)(tx:Str)(m:Nat):Prop:=∃(j:Nat) (x:Ev),i<j/\j<m/\E[j]? = some x/\zao V x=true/\x.key=keyA/\x.tx=tx/\x.kn[i]? = some true
theorem yi3 (E:List Ev)(V:Vec)(i:Nat)(tx:Str):¬yhs E V i tx (i+1):=fun⟨j,_,h1,d,_⟩=>by omega
theorem yjg {E:List Ev}{V:Vec}{i m:Nat}{tx:Str}{x:Ev}(e:i<m)(d:E[m]? = some x):yhs E V i tx (m+1)↔yhs E V i tx m ∨ (zao V x=true/\x.key=keyA/\x.tx=tx/\x.kn[i]? = some true):=by
 constructor
 ·rintro⟨j,y,h1,h2,h3,h4⟩;rcases Qt j m with hj|hj
  ·exact .inl ⟨j,y,h1,hj,h3,h4⟩
  have:j=m:=by omega
  subst this;rw[d]at h3;cases h3;exact .inr h4
 rintro(⟨j,y,h1,h2,h3⟩|h3)
 ·exact⟨j,y,h1,by omega,h3⟩
 exact⟨m,x,e,by omega,d,h3⟩
theorem yjq {E:List Ev}(e:Hist E)(V:Vec)(i:Nat)(tx:Str):yhs E V i tx E.length↔Gone E V i tx:=by
 constructor
 ·rintro⟨j,x,-,-,h3,h4,h5,h6,h7⟩;exact⟨x,Qn h3,h4,h5,h6,h7⟩
 rintro⟨x,hx,h4,h5,h6,h7⟩;obtain⟨j,d⟩:=zxw hx;have h1:=e.len j x d;have f:=(Qd.1 h7).1;exact⟨j,x,by omega,(Qd.1 d).1,d,h4,h5,h6,h7⟩
theorem yic:∀(st:List Nat) (kn:List Bool) (s:Nat) (b:Bool),st.length=kn.length->topZ (st++[s]) (kn++[b])=max (topZ st kn) (if b then s else 0)
 | [],[],s,b,_=>by cases b<;>simp[topZ]
 | x::st,y::kn,s,b,h=>by simp only[List.cons_append,topZ];rw[yic st kn s b (by simpa using h)];omega
 | [],y::kn,s,b,h=>by simp at h
 | x::st,[],s,b,h=>by simp at h
theorem lt_write {n m:Nat}{s t:Str}:ltOf cmpC (n,s,false) (m,t,false)=true↔n<m ∨ (n=m/\ltS s t=true):=by
 rw[cmpC_lt];have:zbv (n,s,false)=zbv (m,t,false):=rfl
 constructor
 ·rintro(h|⟨h1,h2|⟨-,h2⟩⟩)
  ·exact .inl h
  ·rw[this]at h2;exact absurd h2 (Int.lt_irrefl _)
  exact .inr ⟨h1,h2⟩
 rintro(h|⟨h1,h2⟩)
 ·exact .inl h
 exact .inr ⟨h1,.inr ⟨this,h2⟩⟩
theorem yi4 (E:List Ev)(V:Vec):ygw E V 0 none:=fun i e h=>by omega
theorem yhx {E:List Ev}{V:Vec}{m:Nat}{j:Option Nat}{e:Ev}(l:ygw E V m j)(n:E[m]? = some e)(o:¬(zao V e=true/\e.op=4)):ygw E V (m+1) j:=by
 have old:∀(i:Nat) (x:Ev),i<m+1->E[i]? = some x->zao V x=true->x.op=4->i<m:=fun i x h1 d h k=>by
  rcases Qt i m with hi|hi
  ·exact hi
  have:i=m:=by omega
  subst this;rw[n]at d;cases d;exact absurd ⟨h,k⟩ o
 cases j with
 | none=>exact fun i x h1 d h k=>l i x (old i x h1 d h k) d h k
 | some j=>obtain⟨f,p,q,r,s⟩:=l;exact⟨f,p,q,r,fun i x h1 d h k=>s i x (old i x h1 d h k) d h k⟩
theorem yio {E:List Ev}{V:Vec}{m:Nat}{e:Ev}(h:ygw E V m none)(f:E[m]? = some e)(hk:zao V e=true)(l:e.op=4):ygw E V (m+1) (some m):=by
 refine⟨e,f,hk,l,fun i x h1 d j k=>?_⟩;rcases Qt i m with hi|hi
 ·exact absurd k (h i x hi d j)
 have:i=m:=by omega
 subst this;rw[f]at d;cases d;exact zmz _
theorem yi5 {E:List Ev}{V:Vec}{m j:Nat}{e f:Ev}(s:ygw E V m (some j))(n:E[m]? = some e)(p:E[j]? = some f)(hk:zao V e=true)(t:e.op=4) :
  ygw E V (m+1) (some (if zc6 E j<zc6 E m ∨ (zc6 E j=zc6 E m/\ltS f.tx e.tx=true)then m else j)):=by
 obtain⟨y,q,u,v,r⟩:=s;rw[p]at q;cases q
 by_cases h:zc6 E j<zc6 E m ∨ (zc6 E j=zc6 E m/\ltS f.tx e.tx=true)
 ·rw[zP h];refine⟨e,n,hk,t,fun i x h1 d k l=>?_⟩;rcases Qt i m with hi|hi
  ·refine zbt fun o=>?_
   have:=r i x hi d k l;rw[zoc (lt_write.2 h) o]at this;cases this
  have:i=m:=by omega
  subst this;rw[n]at d;cases d;exact zmz _
 rw[zN h];refine⟨f,p,u,v,fun i x h1 d k l=>?_⟩;rcases Qt i m with hi|hi
 ·exact r i x hi d k l
 have:i=m:=by omega
 subst this;rw[n]at d;cases d;exact zbt fun o=>h (lt_write.1 o)
theorem yhl (E:List Ev)(m:Nat)(f:m<=E.length):zdj (E.take m)=(zdj E).take m:=by
 induction E using zhq with
 | h0=>simp at f;subst f;rfl
 | h1 E e ih =>
  rw[zge];rcases Qt m (E.length+1)with h|h
  ·have d:m<=E.length:=(by omega);rw[Yr d,Yr (by rw[zfx];exact d),ih d]
  have:m=E.length+1:=by simp at f;omega
  subst this;rw[Yl (by simp),Yl (by simp[zfx]),zge]
theorem yh3 {E:List Ev}{m:Nat}{e:Ev}(d:E[m]? = some e):zc6 E m=if e.op=4 then topZ (zdj (E.take m)) e.kn+1 else 0:=by
 have h:=(Qd.1 d).1;have h1:=yhl E (m+1) (by omega);rw[yg6 d,zge]at h1;have f:((zdj E).take (m+1))[m]? = (zdj E)[m]?:=by rw[Ye (by omega)]
 rw[<- h1,Qi (by rw[zfx,Qe];omega),zfx,Qe,Qz (by omega),Yp]at f;unfold zc6;rw[<- f]
 rfl
abbrev iI (s:Nat):Xh:=I (s:Int)
def rowM (E:List Ev)(m:Nat):List Xh:=((zdj E).take m).map iI++Vv (E.length-m) (I 0)
theorem yhi (E:List Ev){m:Nat}(h:m<=E.length):(rowM E m).length=E.length:=by
 unfold rowM;rw[Yd,Qj,Qe,zfx,List.length_replicate];omega
theorem yg5 {E:List Ev}{m i:Nat}(hi:i<m)(e:m<=E.length):(rowM E m)[i]? = some (iI (zc6 E i)):=by
 unfold rowM;have d:i<(zdj E).length:=by rw[zfx];omega
 rw[Yw (by rw[Qj,Qe,zfx];omega),List.getElem?_map,Ye hi,Qg d];unfold zc6;rw[Qg d]
 rfl
theorem yj9 {E:List Ev}{m:Nat}(d:m<E.length):(rowM E m)[m]? = some (I 0):=by
 unfold rowM;rw[Qi (by rw[Qj,Qe,zfx];omega),Qj,Qe,zfx,Qz (by omega),Yp];rw[Yf,zP (by omega)]
theorem yka {E:List Ev}{m:Nat}(e:m<E.length):(rowM E m).set m (iI (zc6 E m))=rowM E (m+1):=by
 refine Vn fun i=>?_
 rw[Yg,yhi E (by omega)]
 by_cases d:m=i
 ·subst d;rw[zP rfl,zP e,yg5 (by omega) (by omega)]
 rw[zN d];rcases Qt i m with h|h
 ·rw[yg5 h (by omega),yg5 (by omega) (by omega)]
 unfold rowM;rw[Qi (by rw[Qj,Qe,zfx];omega),Qi (by rw[Qj,Qe,zfx];omega)];rw[Yf,Yf,Qj,Qe,zfx,Qj,Qe,zfx]
 by_cases f:i<E.length
 ·rw[zP (by omega),zP (by omega)]
 rw[zN (by omega),zN (by omega)]
theorem yjr (E:List Ev):rowM E 0=Vv E.length (I 0):=by unfold rowM;simp
def rowK (E:List Ev)(m t:Nat):List Xh:=(rowM E m).set m (iI t)
theorem yip (E:List Ev){m t:Nat}(h:m<=E.length):(rowK E m t).length=E.length:=by unfold rowK;rw[Vr,yhi E h]
theorem yjs {E:List Ev}{m:Nat}(e:m<E.length):rowK E m 0=rowM E m:=by
 unfold rowK;refine Vn fun i=>?_
 rw[Yg,yhi E (by omega)]
 by_cases d:m=i
 ·subst d;rw[zP rfl,zP e,yj9 e];rfl
 rw[zN d]
theorem ykb {E:List Ev}{m t i:Nat}(hi:i<m)(d:m<=E.length):(rowK E m t)[i]? = some (iI (zc6 E i)):=by
 unfold rowK;rw[Ve (by omega),yg5 hi d]
theorem yiq {E:List Ev}{m t:Nat}(d:m<E.length):(rowK E m t)[m]? = some (iI t):=by
 unfold rowK;rw[Vd (by rw[yhi E (by omega)];exact d)]
theorem yir {E:List Ev}{m t u:Nat}:(rowK E m t).set m (iI u)=rowK E m u:=by unfold rowK;simp[List.set_set]
theorem yid {E:List Ev}{m:Nat}(d:m<E.length):rowK E m (zc6 E m)=rowM E (m+1):=yka d
def topK (E:List Ev)(e:Ev)(k:Nat):Nat:=topZ ((zdj E).take k) (e.kn.take k)
theorem yie (E:List Ev)(e:Ev):topK E e 0=0:=rfl
theorem yjt {E:List Ev}{e:Ev}{k:Nat}{b:Bool}(hk:k<E.length)(hb:e.kn[k]? = some b):topK E e (k+1)=max (topK E e k) (if b then zc6 E k else 0):=by
 unfold topK;have f:=(Qd.1 hb).1
 have d:(zdj E)[k]? = some (zc6 E k):=by
  have:k<(zdj E).length:=by rw[zfx];exact hk
  unfold zc6;rw[Qg this]
  rfl
 rw[yg6 d,yg6 hb];exact yic _ _ _ _ (by rw[Qe,Qe,zfx];omega)
theorem ykc {E:List Ev}{e:Ev}{m:Nat}(d:E[m]? = some e)(h:e.kn.length=m)(f:e.op=4):zc6 E m=topK E e m+1:=by
 rw[yh3 d,zP f];unfold topK;rw[yhl E m (Vi (Qd.1 d).1),Yl (by omega:e.kn.length<=m)]
theorem yjh {E:List Ev}{e:Ev}{m:Nat}(d:E[m]? = some e)(f:e.op≠4):zc6 E m=0:=by rw[yh3 d,zN f]
end
end Go.Proofs.YtaabaflgeljbjaaGreat
