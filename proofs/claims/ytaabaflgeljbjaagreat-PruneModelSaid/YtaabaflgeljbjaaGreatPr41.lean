/- The statements' 'alive' of layer 17 returns true. Printed by gen_alive7.py. -/
import Derived.Test.YtaabaflgeljbjaaGreatPr39
import Derived.Test.YtaabaflgeljbjaaGreatPr40
import Derived.Test.YtaabaflgeljbjaaGreatPr30
import Derived.Test.YtaabaflgeljbjaaGreatPr26
import Derived.Test.YtaabaflgeljbjaaGreatPr25
set_option linter.unusedVariables false
set_option linter.unusedSimpArgs false
set_option maxRecDepth 100000
set_option maxHeartbeats 40000000
namespace Go.Proofs.YtaabaflgeljbjaaGreat
open Go.Value renaming slice→Xa,pointer→Xb,bool→Xc
open Go.Obj renaming cells→Xd
open Go renaming World→Xe,Value→Xf
open Ext renaming refl→Xg
open Go renaming undef→Qa
open Nat renaming lt_of_lt_of_le→Qb,le_refl→Qc,zero_mul→Qe,zero_add→Qf
open Go.RowKit.Below renaming heap_setCell→Qd
section
open Go.RowKit Go.Shelf
theorem ybg {w:Xe}{g T:Nat}{d:Dot}(c:RowIs w g T [St d.1,U d.2] []):Sl markT w (fun _=>True) (Xa (some ⟨g,0,none⟩) 1 1) [d] :=
 ⟨_,1,rfl,Qc _,by decide,fun pre x post b=>by
  cases pre with
  | nil=>simp at b;obtain⟨rfl,-⟩:=b;exact⟨g,0,_,rfl,trivial,rfl,fun j u e=>by simp only[List.length_nil,Qe,Qf];exact c.cell e⟩
  | cons a r=>simp at b⟩
theorem yas {w:Xe}{g T:Nat}{S:Nat->Prop}{t:Str}{v:Xf}{c:List Dot}(d:RowIs w g T [St t,v] [])(e:Sl markT w S v c):Sl itemT w (fun _=>True) (Xa (some ⟨g,0,none⟩) 1 1) [(t,c)] :=
 ⟨_,1,rfl,Qc _,by decide,fun pre x post b=>by
  cases pre with
  | nil=>simp at b;obtain⟨rfl,-⟩:=b;exact⟨g,0,_,rfl,trivial,⟨v,rfl,e.mono (by decide) fun _ _ _=>trivial⟩,fun j u f=>by simp only[List.length_nil,Qe,Qf];exact d.cell f⟩
  | cons a r=>simp at b⟩
theorem zqf {w:Xe}{q T:Nat}{x y z v1 v2 v3:Xf}(h:RowIs w q T [x,y,z] []):RowIs (put3 w q v1 v2 v3) q T [v1,v2,v3] []:=by
 have:=((h.set (j:=0) (by simp) v1).set (j:=1) (by simp) v2).set (j:=2) (by simp) v3
 simpa using this
theorem zsd {w:Xe}{g:Nat}{a b:PrD}(e:RowIs w g 29 (prC a++prC b) []):Sl prT w (fun _=>True) (Xa (some ⟨g,0,none⟩) 2 2) [a,b] :=
 ⟨_,2,rfl,Qc _,by decide,fun pre x post c=>by
  match pre,c with
  | [],c =>
   simp at c;obtain⟨rfl,-⟩:=c
   exact⟨g,0,_,rfl,trivial,rfl,fun j u d=>by simp only[List.length_nil,Qe,Qf];exact e.cell (by rw[List.getElem?_append_left (List.getElem?_eq_some_iff.1 d).1];exact d)⟩
  | [y],c =>
   simp at c;obtain⟨rfl,rfl,-⟩:=c
   exact⟨g,0,_,rfl,trivial,rfl,fun j u d=>by
    show w.cell? ⟨g,0+1 * 4+j,none⟩=some u
    exact e.cell (by rw[List.getElem?_append_right (by simp),show 0+1 * 4+j-(prC a).length=j by simp];exact d)⟩
  | _::_::_,c=>simp at c⟩
abbrev yca:List Xf:=[Xa none 0 0,Xa none 0 0,Xa none 0 0,Xa none 0 0]
abbrev agD (xs:List Xf):Xf:=.agg xs.toArray
abbrev tupD (xs:List Xf):Xf:=.tuple #[.agg xs.toArray,I 0]
def CDl (s:State)(xs:List Xf)(S:Nat->Prop)(W:Xe):Prop:=∃B0 m0 B1 m1 B2 m2 B3 m3,xs = [Xa B0 0 m0,Xa B1 s.all.length m1,Xa B2 s.entries.length m2,Xa B3 s.pruned.length m3]/\StAt W S s (Xa B1 s.all.length m1) (Xa B2 s.entries.length m2) (Xa B3 s.pruned.length m3)
theorem CDl.keep {s:State}(xs:List Xf)(S:Nat->Prop)(w w':Xe)(g:CDl s xs S w)(h:∀b,S b->b<w.heap.size->w'.heap[b]? = w.heap[b]?):CDl s xs S w':=by
 obtain⟨a,i,c,j,d,k,f,l,e,h1⟩:=g;exact⟨a,i,c,j,d,k,f,l,e,h1.keep h⟩
def SinK (st:Nat->Option Xf)(w:Xe):Prop:=∀v,st 1=some v->∃u0 u1 u2 u3,v=dltV u0 u1 u2 u3/\StAt w (fun _=>True) stV7 u1 u2 u3/\Sl markT w (fun _=>True) u0 []
theorem SinK.ext {st:Nat->Option Xf}{w w':Xe}(d:SinK st w)(c:Ext w w'):SinK st w':=fun v f=>by
 obtain⟨g,h,i,j,e,a,b⟩:=d v f;exact⟨g,h,i,j,e,a.ext c,b.ext (by decide) c⟩
theorem SinK.other {j:Nat}{st:Nat->Option Xf}{w:Xe}{u:Xf}(b:1≠j)(a:SinK st w):SinK (zfo st j u) w:=fun v c=>a v (by rwa[zah st u b]at c)
abbrev zqw (w:Xe)(q:Nat)(v1 v2 v3 v4:Xf):Xe:=(((w.setCell ⟨q,0,none⟩ v1).setCell ⟨q,1,none⟩ v2).setCell ⟨q,2,none⟩ v3).setCell ⟨q,3,none⟩ v4
theorem zyl {w wr:Xe}{q:Nat}(c:Ext w wr)(a:w.heap.size<=q)(v1 v2 v3 b:Xf):Ext w (zqw wr q v1 v2 v3 b) :=
 (((c.set (p:=⟨q,0,none⟩) a v1).set (p:=⟨q,1,none⟩) a v2).set (p:=⟨q,2,none⟩) a v3).set (p:=⟨q,3,none⟩) a b
theorem zvv (w:Xe)(q:Nat)(v1 v2 v3 a:Xf)(b:Nat)(hb:b≠q):(zqw w q v1 v2 v3 a).heap[b]? = w.heap[b]? :=
 (((Qd _ _ _ b hb).trans (Qd _ _ _ b hb)).trans (Qd _ _ _ b hb)).trans (Qd _ _ _ b hb)
theorem zym {w:Xe}{q T:Nat}{a b c d v1 v2 v3 e:Xf}(f:RowIs w q T [a,b,c,d] []):RowIs (zqw w q v1 v2 v3 e) q T [v1,v2,v3,e] []:=by
 have:=(((f.set (j:=0) (by simp) v1).set (j:=1) (by simp) v2).set (j:=2) (by simp) v3).set (j:=3) (by simp) e
 simpa using this
theorem zm6 (w:Xe):Calls Tryz.prog 9 #[] w fun r w'=>r=.returned (Xc true)/\Ext w w':=by
 go_enter Tryz.func9,Tryz.ntmps9;refine wpH ?_;intro K s;go_wp2_with fail;refine s.out _ _ ?_;clear s K;have h:=Xg w;obtain⟨ev,df⟩:∃g,w.heap.size=g:=⟨_,rfl⟩
 obtain⟨bu,b4⟩:∃z,w.alloc (Xd #[St [49],.int .u64 5] 97)=z:=⟨_,rfl⟩
 have e9:Ext w bu:=by rw[<- b4];exact(Xg w).alloc _
 have fp:RowIs bu ev 97 [St q1,U 5] []:=by rw[<- b4,<- df];exact zaf w _ _
 have ef:=zH b4;have d3:=zH df;replace h:=h.trans e9;clear b4 df e9;have e5:StAt bu (fun _=>True) st0 (Xa (some ⟨ev,0,none⟩) 1 1) (Xa none 0 0) (Xa none 0 0):=⟨(zbb (l:=[(q1,5)]) (zqe (m:=(q1,5)) (base:=0) fp (Nat.zero_le _))).mono (by decide) (fun _ _ _=>trivial),Sl.nil _ _ (by decide),Sl.nil _ _ (by decide)⟩
 have C:=zH (znl (w:=bu) q11 opN (by decide) (by decide) e5 (lim_st0.small (by decide)));clear e5 fp;refine wpH ?_;intro K s;go_wp2_with fail
 (try rw[d3.out])
 (try rw[ef.out])
 refine C.out.mono ?_;clear C ef d3;rintro r V⟨L,M,N,rfl,o,d⟩;rw[ybo]at o ⊢;obtain⟨cq,di,rfl,-,-⟩:∃A c,L=Value.slice A 2 c/\2<=c/\c<=9223372036854775807:=o.all.form;obtain⟨cr,dj,rfl,-,-⟩:∃A c,M=Value.slice A 1 c/\1<=c/\c<=9223372036854775807:=o.entries.form;obtain⟨cs,dk,rfl,-,-⟩:∃A c,N=Value.slice A 0 c/\0<=c/\c<=9223372036854775807:=o.pruned.form;replace h:=h.trans d;obtain⟨k,b9⟩:∃g,V.heap.size=g:=⟨_,rfl⟩
 obtain⟨ba,bw⟩:∃z,V.alloc (Xd #[Xa cq 2 di,Xa cr 1 dj,Xa cs 0 dk] 26)=z:=⟨_,rfl⟩
 have e8:Ext V ba:=by rw[<- bw];exact(Xg V).alloc _
 have e:RowIs ba k 26 [Xa cq 2 di,Xa cr 1 dj,Xa cs 0 dk] []:=by rw[<- bw,<- b9];exact zaf V _ _
 have c0:=zH bw;have cx:=zH b9;have e7:w.heap.size<=k:=by rw[<- b9];exact h.size
 replace h:=h.trans e8;clear bw b9 e8;have ft:StAt ba (fun b=>b≠k) stP (Xa cq 2 di) (Xa cr 1 dj) (Xa cs 0 dk):=(o.mono (S':=fun b=>b≠k) fun b hb _=>by have:=cx.out;omega).ext (by rw[<- c0.out];exact(Xg V).alloc _);have F:k<ba.heap.size:=e.lt;clear o d;go_wp2_with fail
 (try rw[cx.out])
 (try rw[c0.out])
 clear c0 cx;refine s.out _ _ ?_;clear s K;have C:=zH (znl (w:=ba) q11 opS (by decide) (by decide) ft (lim_stP.small (by decide)));obtain⟨Y,Z,aa⟩:=e.p3;refine wpH ?_;intro K s;go_wp2_with fail;refine C.out.mono ?_;clear C Y Z aa;rintro r V⟨L,M,N,rfl,o,d⟩;rw[ybp]at o ⊢;obtain⟨ct,dl,rfl,-,-⟩:∃A c,L=Value.slice A 2 c/\2<=c/\c<=9223372036854775807:=o.all.form;obtain⟨cu,dm,rfl,-,-⟩:∃A c,M=Value.slice A 2 c/\2<=c/\c<=9223372036854775807:=o.entries.form;obtain⟨cv,dn,rfl,-,-⟩:∃A c,N=Value.slice A 0 c/\0<=c/\c<=9223372036854775807:=o.pruned.form;have D:k<V.heap.size:=Qb F d.size;replace e:=e.ext d;replace h:=h.trans d;have ai:=o.mono (S':=fun b=>b≠k) fun b _ O=>by omega
 clear o ft;obtain⟨a0,a1,a2⟩:=e.p3;obtain⟨f0,f1,c8⟩:=e.q3;obtain⟨ak,bf⟩:∃z,((V.setCell ⟨k,0,none⟩ (Xa ct 2 dl)).setCell ⟨k,1,none⟩ (Xa cu 2 dm)).setCell ⟨k,2,none⟩ (Xa cv 0 dn)=z:=⟨_,rfl⟩
 have e4:∀b,b≠k->ak.heap[b]? = V.heap[b]?:=by rw[<- bf];exact zda V k (Xa ct 2 dl) (Xa cu 2 dm) (Xa cv 0 dn)
 replace e:RowIs ak k 26 [Xa ct 2 dl,Xa cu 2 dm,Xa cv 0 dn] []:=by rw[<- bf];exact zqf e
 replace ai:=ai.keep (w:=ak) (fun b hb _=>e4 b hb);replace h:Ext w ak:=by rw[<- bf];exact zbn h e7 _ _ _
 have ea:=zH bf;clear bf e4;have F:k<ak.heap.size:=e.lt;go_wp2_with fail
 (try rw[ea.out])
 clear ea d a0 a1 a2 f0 f1 c8;refine s.out _ _ ?_;clear s K;have D:=F;obtain⟨bv,cd⟩:∃g,ak.heap.size=g:=⟨_,rfl⟩
 obtain⟨br,b1⟩:∃z,ak.alloc (Xd #[St [49,46,49],.int .u64 2,St [49],.int .u64 5] 29)=z:=⟨_,rfl⟩
 have cl:Ext ak br:=by rw[<- b1];exact(Xg ak).alloc _
 have i:RowIs br bv 29 [St q11,U 2,St q1,U 5] []:=by rw[<- b1,<- cd];exact zaf ak _ _
 have eb:=zH b1;have dz:=zH cd;replace e:=e.ext cl;replace ai:=ai.ext cl;replace h:=h.trans cl;have iz:k<bv:=by rw[<- cd];exact D
 clear b1 cd cl;have F:k<br.heap.size:=e.lt;refine wpH ?_;intro K s;go_wp2_with fail
 (try rw[dz.out])
 (try rw[eb.out])
 clear eb dz;refine s.out _ _ ?_;clear s K;have C:=zH (ziv (w:=br) pQ ai (lim_stQ.small (by decide)));obtain⟨Y,Z,aa⟩:=e.p3;obtain⟨ae,af,ag,ah⟩:=i.p4;refine wpH ?_;intro K s;go_wp2_with fail;refine C.out.mono ?_;clear C Y Z aa ae af ag ah;rintro r V⟨L,M,N,rfl,o,d⟩;rw[ybq]at o ⊢;obtain⟨er,fl,rfl,-,-⟩:∃A c,L=Value.slice A 0 c/\0<=c/\c<=9223372036854775807:=o.all.form;obtain⟨es,fn,rfl,-,-⟩:∃A c,M=Value.slice A 0 c/\0<=c/\c<=9223372036854775807:=o.entries.form;obtain⟨et,fo,rfl,-,-⟩:∃A c,N=Value.slice A 0 c/\0<=c/\c<=9223372036854775807:=o.pruned.form;have D:k<V.heap.size:=Qb F d.size;replace e:=e.ext d;replace ai:=ai.ext d;replace i:=i.ext d;replace h:=h.trans d;obtain⟨a5,ce⟩:∃g,V.heap.size=g:=⟨_,rfl⟩
 obtain⟨bs,b2⟩:∃z,V.alloc (Xd #[Xa er 0 fl,Xa es 0 fn,Xa et 0 fo] 26)=z:=⟨_,rfl⟩
 have bh:Ext V bs:=by rw[<- b2];exact(Xg V).alloc _
 have ik:RowIs bs a5 26 [Xa er 0 fl,Xa es 0 fn,Xa et 0 fo] []:=by rw[<- b2,<- ce];exact zaf V _ _
 have ec:=zH b2;have d0:=zH ce;replace e:=e.ext bh;replace ai:=ai.ext bh;replace i:=i.ext bh;replace h:=h.trans bh;have i0:k<a5:=by rw[<- ce];exact D
 clear b2 ce bh;have F:k<bs.heap.size:=e.lt;clear o d ik;go_wp2_with fail
 (try rw[d0.out])
 (try rw[ec.out])
 clear ec d0;refine s.out _ _ ?_;clear s K;have C:=zH (zl0 (w:=bs) q1 2 (by decide) ai (lim_stQ.small (by decide)));obtain⟨Y,Z,aa⟩:=e.p3;refine wpH ?_;intro K s;go_wp2_with fail;refine C.out.mono ?_;clear C Y Z aa;rintro r V⟨L,M,N,rfl,o,d⟩;rw[ybr]at o ⊢;obtain⟨bm,cm,rfl,-,-⟩:∃A c,L=Value.slice A 2 c/\2<=c/\c<=9223372036854775807:=o.all.form;obtain⟨bn,cn,rfl,-,-⟩:∃A c,M=Value.slice A 2 c/\2<=c/\c<=9223372036854775807:=o.entries.form;obtain⟨bo,co,rfl,-,-⟩:∃A c,N=Value.slice A 0 c/\0<=c/\c<=9223372036854775807:=o.pruned.form;have D:k<V.heap.size:=Qb F d.size;replace e:=e.ext d;replace i:=i.ext d;replace h:=h.trans d;have p:=o.mono (S':=fun b=>b≠k) fun b _ O=>by omega
 clear o ai;obtain⟨a0,a1,a2⟩:=e.p3;obtain⟨f0,f1,c8⟩:=e.q3;obtain⟨a4,bg⟩:∃z,((V.setCell ⟨k,0,none⟩ (Xa bm 2 cm)).setCell ⟨k,1,none⟩ (Xa bn 2 cn)).setCell ⟨k,2,none⟩ (Xa bo 0 co)=z:=⟨_,rfl⟩
 have dg:∀b,b≠k->a4.heap[b]? = V.heap[b]?:=by rw[<- bg];exact zda V k (Xa bm 2 cm) (Xa bn 2 cn) (Xa bo 0 co)
 replace e:RowIs a4 k 26 [Xa bm 2 cm,Xa bn 2 cn,Xa bo 0 co] []:=by rw[<- bg];exact zqf e
 replace i:=i.keep (dg _ (by omega));replace p:=p.keep (w:=a4) (fun b hb _=>dg b hb);replace h:Ext w a4:=by rw[<- bg];exact zbn h e7 _ _ _
 have ed:=zH bg;clear bg dg;have F:k<a4.heap.size:=e.lt;go_wp2_with fail
 (try rw[ed.out])
 clear ed d a0 a1 a2 f0 f1 c8;refine s.out _ _ ?_;clear s K;have C:=zH (ziv (w:=a4) pQ p (lim_stR.small (by decide)));obtain⟨Y,Z,aa⟩:=e.p3;obtain⟨ae,af,ag,ah⟩:=i.p4;refine wpH ?_;intro K s;go_wp2_with fail;refine C.out.mono ?_;clear C Y Z aa ae af ag ah;rintro r V⟨L,M,N,rfl,o,d⟩;rw[zsb]at o ⊢;obtain⟨em,fi,rfl,-,-⟩:∃A c,L=Value.slice A 1 c/\1<=c/\c<=9223372036854775807:=o.all.form;obtain⟨en,fj,rfl,-,-⟩:∃A c,M=Value.slice A 2 c/\2<=c/\c<=9223372036854775807:=o.entries.form;obtain⟨eo,fk,rfl,-,-⟩:∃A c,N=Value.slice A 1 c/\1<=c/\c<=9223372036854775807:=o.pruned.form;have D:k<V.heap.size:=Qb F d.size;replace e:=e.ext d;replace i:=i.ext d;replace p:=p.ext d;replace h:=h.trans d;have sT:=o.mono (S':=fun b=>b≠k) fun b _ O=>by omega
 clear o;obtain⟨db,cf⟩:∃g,V.heap.size=g:=⟨_,rfl⟩
 obtain⟨bt,b3⟩:∃z,V.alloc (Xd #[Xa em 1 fi,Xa en 2 fj,Xa eo 1 fk] 26)=z:=⟨_,rfl⟩
 have a9:Ext V bt:=by rw[<- b3];exact(Xg V).alloc _
 have q:RowIs bt db 26 [Xa em 1 fi,Xa en 2 fj,Xa eo 1 fk] []:=by rw[<- b3,<- cf];exact zaf V _ _
 have ee:=zH b3;have d2:=zH cf;replace e:=e.ext a9;replace i:=i.ext a9;replace p:=p.ext a9;replace sT:=sT.ext a9;replace h:=h.trans a9;have i1:k<db:=by rw[<- cf];exact D
 clear b3 cf a9;have F:k<bt.heap.size:=e.lt;clear d;go_wp2_with fail
 (try rw[d2.out])
 (try rw[ee.out])
 clear ee d2;refine s.out _ _ ?_;clear s K;have ia:=fun W=>zoj (P:=Tryz.prog) (x:=20) (v:=I 2) W Tryz.underlying2 (by simp)
 have C:=zH (zzy (w:=bt) kN sT (lim_stT.small (n:=10) (by decide)).each);obtain⟨bi,bj,bk⟩:=q.p3;refine wpH ?_;intro K s;go_wp2_with fail;refine C.out.mono ?_;clear C bi bj bk;rintro r V⟨v,rfl,ab,d⟩;rw[ybw]at ab;unfold ValAt at ab;rw[ybx,zP rfl,yby]at ab;subst ab;have D:k<V.heap.size:=Qb F d.size;replace e:=e.ext d;replace i:=i.ext d;replace p:=p.ext d;replace sT:=sT.ext d;replace q:=q.ext d;replace h:=h.trans d;have F:k<V.heap.size:=e.lt;obtain⟨hy,ez⟩:∃z,V=z:=⟨_,rfl⟩
 rw[ez]at h F e i p sT q ⊢;clear d D ez V;go_wp2_with fail;clear ia;refine s.out _ _ ?_;clear s K;have C:=zH (ya5 (w:=hy) kS sT (lim_stT.small (n:=10) (by decide)).each);obtain⟨bi,bj,bk⟩:=q.p3;refine wpH ?_;intro K s;go_wp2_with fail;refine C.out.mono ?_;clear C bi bj bk;rintro r V⟨L,M,N,rfl,H,d⟩;rw[ybz]at H ⊢;simp only[Option.getD_some,Option.isSome_some]at H ⊢;obtain⟨X1,dp,rfl,-,-⟩:∃A c,L=Value.slice A 1 c/\1<=c/\c<=9223372036854775807:=H.seen.form;obtain⟨X2,dq,rfl,-,-⟩:∃A c,M=Value.slice A 0 c/\0<=c/\c<=9223372036854775807:=H.counts.form;obtain⟨c6,dr,rfl,-,-⟩:∃A c,N=Value.slice A 1 c/\1<=c/\c<=9223372036854775807:=H.items.form;have D:k<V.heap.size:=Qb F d.size;replace e:=e.ext d;replace i:=i.ext d;replace p:=p.ext d;replace sT:=sT.ext d;replace q:=q.ext d;replace h:=h.trans d;have t:EntAt V (fun _=>True) eSt (Xa X1 1 dp) (Xa X2 0 dq) (Xa c6 1 dr):=H.at.mono (fun _ _ _=>trivial);clear H;obtain⟨c9,ca⟩:∃g,V.heap.size=g:=⟨_,rfl⟩
 obtain⟨bp,bx⟩:∃z,V.alloc (Xd #[St eSt.key,Xa X1 1 dp,Xa X2 0 dq,Xa c6 1 dr,U eSt.cell.1,St eSt.cell.2.1,Xc eSt.cell.2.2] 46)=z:=⟨_,rfl⟩
 have au:Ext V bp:=by rw[<- bx];exact(Xg V).alloc _
 have u:RowIs bp c9 46 [St eSt.key,Xa X1 1 dp,Xa X2 0 dq,Xa c6 1 dr,U eSt.cell.1,St eSt.cell.2.1,Xc eSt.cell.2.2] []:=by rw[<- bx,<- ca];exact zaf V _ _
 have d7:=zH bx;have dw:=zH ca;replace e:=e.ext au;replace i:=i.ext au;replace p:=p.ext au;replace sT:=sT.ext au;replace q:=q.ext au;replace t:=t.ext au;replace h:=h.trans au;have iw:k<c9:=by rw[<- ca];exact D
 clear bx ca au;have F:k<bp.heap.size:=e.lt;clear d;go_wp2_with fail
 (try rw[dw.out])
 (try rw[d7.out])
 clear d7 dw;refine s.out _ _ ?_;clear s K;have C:=zH (zfk (w:=bp) q11 sT (lim_stT.small (by decide)));obtain⟨bi,bj,bk⟩:=q.p3;refine wpH ?_;intro K s;go_wp2_with fail;refine C.out.mono ?_;clear C bi bj bk;rintro r V⟨L,M,N,rfl,o,d⟩;rw[ybs]at o;obtain⟨dt,fc,rfl,-,-⟩:∃A c,L=Value.slice A 1 c/\1<=c/\c<=9223372036854775807:=o.all.form;obtain⟨du,fd,rfl,-,-⟩:∃A c,M=Value.slice A 2 c/\2<=c/\c<=9223372036854775807:=o.entries.form;obtain⟨dv,fe,rfl,-,-⟩:∃A c,N=Value.slice A 0 c/\0<=c/\c<=9223372036854775807:=o.pruned.form;have D:k<V.heap.size:=Qb F d.size;replace e:=e.ext d;replace i:=i.ext d;replace p:=p.ext d;replace sT:=sT.ext d;replace q:=q.ext d;replace t:=t.ext d;replace u:=u.ext d;replace h:=h.trans d;obtain⟨da,cb⟩:∃g,V.heap.size=g:=⟨_,rfl⟩
 obtain⟨aj,bz⟩:∃z,V.alloc (Xd #[Xa dt 1 fc,Xa du 2 fd,Xa dv 0 fe] 26)=z:=⟨_,rfl⟩
 have an:Ext V aj:=by rw[<- bz];exact(Xg V).alloc _
 have E:RowIs aj da 26 [Xa dt 1 fc,Xa du 2 fd,Xa dv 0 fe] []:=by rw[<- bz,<- cb];exact zaf V _ _
 have d8:=zH bz;have dx:=zH cb;replace e:=e.ext an;replace i:=i.ext an;replace p:=p.ext an;replace sT:=sT.ext an;replace q:=q.ext an;replace t:=t.ext an;replace u:=u.ext an;replace h:=h.trans an;have ix:k<da:=by rw[<- cb];exact D
 clear bz cb an;have F:k<aj.heap.size:=e.lt;clear o d;go_wp2_with fail
 (try rw[dx.out])
 (try rw[d8.out])
 clear d8 dx;refine s.out _ _ ?_;clear s K;have D:=F;obtain⟨Y,Z,aa⟩:=e.p3;obtain⟨ae,af,ag,ah⟩:=i.p4;obtain⟨ew,cg⟩:∃g,aj.heap.size=g:=⟨_,rfl⟩
 obtain⟨bb,b5⟩:∃z,aj.alloc (Xd #[St q11,U 2,St q1,U 5,St q11,U 2,St q1,U 5] 29)=z:=⟨_,rfl⟩
 have am:Ext aj bb:=by rw[<- b5];exact(Xg aj).alloc _
 have fq:RowIs bb ew 29 [St q11,U 2,St q1,U 5,St q11,U 2,St q1,U 5] []:=by rw[<- b5,<- cg];exact zaf aj _ _
 have c1:=zH b5;have d4:=zH cg;replace e:=e.ext am;replace i:=i.ext am;replace p:=p.ext am;replace sT:=sT.ext am;replace q:=q.ext am;replace t:=t.ext am;replace u:=u.ext am;replace E:=E.ext am;replace h:=h.trans am;have i2:k<ew:=by rw[<- cg];exact D
 clear b5 cg am;have F:k<bb.heap.size:=e.lt;have C:=zH (zno (w:=bb) (ps:=[pQ,pQ]) p (zsd (a:=pQ) (b:=pQ) fq) lim_stR (by decide));refine wpH ?_;intro K s;have ib:Ext aj bb:=by rw[<- c1.out];exact(Xg aj).alloc _
 go_wp2_with fail
 (try rw[d4.out])
 (try rw[c1.out])
 refine C.out.mono ?_;clear C c1 d4 Y Z aa ae af ag ah fq ib;rintro r V⟨L,M,N,rfl,o,d⟩;rw[ybt]at o ⊢;obtain⟨ei,ff,rfl,-,-⟩:∃A c,L=Value.slice A 1 c/\1<=c/\c<=9223372036854775807:=o.all.form;obtain⟨ej,fg,rfl,-,-⟩:∃A c,M=Value.slice A 2 c/\2<=c/\c<=9223372036854775807:=o.entries.form;obtain⟨ek,fh,rfl,-,-⟩:∃A c,N=Value.slice A 1 c/\1<=c/\c<=9223372036854775807:=o.pruned.form;have D:k<V.heap.size:=Qb F d.size;replace e:=e.ext d;replace i:=i.ext d;replace p:=p.ext d;replace sT:=sT.ext d;replace q:=q.ext d;replace t:=t.ext d;replace u:=u.ext d;replace E:=E.ext d;replace h:=h.trans d;obtain⟨eu,cc⟩:∃g,V.heap.size=g:=⟨_,rfl⟩
 obtain⟨bq,b0⟩:∃z,V.alloc (Xd #[Xa ei 1 ff,Xa ej 2 fg,Xa ek 1 fh] 26)=z:=⟨_,rfl⟩
 have al:Ext V bq:=by rw[<- b0];exact(Xg V).alloc _
 have ij:RowIs bq eu 26 [Xa ei 1 ff,Xa ej 2 fg,Xa ek 1 fh] []:=by rw[<- b0,<- cc];exact zaf V _ _
 have d9:=zH b0;have dy:=zH cc;replace e:=e.ext al;replace i:=i.ext al;replace p:=p.ext al;replace sT:=sT.ext al;replace q:=q.ext al;replace t:=t.ext al;replace u:=u.ext al;replace E:=E.ext al;replace h:=h.trans al;have iy:k<eu:=by rw[<- cc];exact D
 clear b0 cc al;have F:k<bq.heap.size:=e.lt;clear o d ij;go_wp2_with fail
 (try rw[dy.out])
 (try rw[d9.out])
 clear d9 dy;refine s.out _ _ ?_;clear s K;refine wpH ?_;intro K s;refine zc7 [some fun v=>v=.agg #[Xa bm 2 cm,Xa bn 2 cn,Xa bo 0 co],none,some fun v=>v=prV pQ,none,none,none,some fun v=>v=I 0,none,none] (fun st w=>BoxK bq.heap.size 83 yca (CDl stT) tupD agD 3 4 5 7 8 st w/\(st 8=none->SinK st w)) rfl (by kernel_rfl) ?hK ?h0 ?hstep ?hend
 case hK=>exact fun st w w' O R=>⟨O.1.ext CDl.keep R,fun h0=>(O.2 h0).ext R⟩
 case h0=>exact⟨BoxK.start _,fun _ v ab=>by cases ab⟩
 case hstep =>
  simp only[zS,zD,Nat.reduceAdd,zew,zf6]
  and_intros<;>intro x W st R hK
  ·intro f;have h0:x 1=Xb (some ⟨k,0,none⟩):=f.1;clear hK;obtain⟨ih,q1,ii⟩:=(e.ext R).p3;go_wp;exact sQ
  ·intro H f;have h0:_=_:=f.1;have cw:=zH (zod (p.ext R) (Sl.nil (T:=markT) (w:=W) (S:=fun _=>True) none 0 (by decide)) (lim_stR.small (by decide)) (by decide));have Q:=zH hK;clear hK;go_wp;refine cw.out.mono ?_;rintro r hx⟨ds,L,M,N,rfl,de,o,a8⟩;rw[ybu]at o;rw[ybf]at de;have bd:=(zbb (l:=[]) de).mono (S':=fun _=>True) (by decide) (fun _ _ _=>trivial);have be:=o.at.mono (S':=fun _=>True) (fun _ _ _=>trivial);have hq:=zH bd;have hs:=zH be;clear de o bd be;dsimp only;go_wp;exact za2 (v:=dltV ds L M N) ⟨⟨(Q.out.1.ext CDl.keep a8).other (by decide),fun _ v ab=>by rw[zb2]at ab;cases ab;exact⟨ds,L,M,N,rfl,hs.out,hq.out⟩⟩,R.trans a8⟩
  ·intro f;have h0:x 4=Xb (some ⟨bv,0,none⟩):=f.1;clear hK;obtain⟨ih,q1,ii,q3⟩:=(i.ext R).p4;go_wp;exact sQ
  ·intro H f;have h6:st 1=some (x 74):=f.1;have iv:_=_:=f.2.1
   have h7:st 8=none:=Classical.byContradiction fun h9=>by obtain⟨xs,lo,hi,g,i7,i8,fb,i9,ig⟩:=hK.1;exact(ig h9).1 H
   obtain⟨ds,L,M,N,iu,be,bd⟩:=hK.2 h7 (x 74) h6;have cw:=zH (zvu pQ be bd (lim_stR.small (by decide)) (by decide));have Q:=zH hK;clear hK bd be f;go_wp;refine cw.out.mono ?_;rintro r hx⟨a0,a1,a2,il,rfl,cj,dh,a8⟩;rw[ybv]at cj dh ⊢;obtain⟨ao,av,rfl,-,-⟩:=dh.form;obtain⟨ap,aw,aq,ax,ar,ay,rfl,rfl,rfl⟩:=cj.fm;have hp:=zH cj;clear cj dh;dsimp only;go_wp;exact za2 ⟨⟨Q.out.1.call (xs:=[Xa ao 0 av,Xa ap stT.all.length aw,Xa aq stT.entries.length ax,Xa ar stT.pruned.length ay]) (by decide) H a8 R.size ⟨ao,av,ap,aw,aq,ax,ar,ay,rfl,hp.out.mono fun b hb O=>⟨O,hb⟩⟩,fun O=>((Q.out.2 (by rwa[zah st _ (by decide)]at O)).ext a8).other (by decide)⟩,R.trans a8⟩
  ·intro H f;have h0:st 3=some (x 76):=f.1;have Q:=zH hK;clear hK;go_wp;exact za2 ⟨⟨Q.out.1.move (by decide) h0,fun O=>(Q.out.2 (by rwa[zah st _ (by decide)]at O)).other (by decide)⟩,R⟩
  ·intro H f;have h0:st 4=some (x 72):=f.1;obtain⟨xs,S,ab,⟨ao,av,ap,aw,aq,ax,ar,ay,rfl,-⟩,bc⟩:=hK.1.part (by decide) h0;have Q:=zH bc;have d6:=zH hK.2;clear hK bc;go_wp;exact za2 ⟨⟨Q.out,fun O=>(d6.out (by rwa[zah st _ (by decide)]at O)).other (by decide)⟩,R⟩
  ·intro f;have h0:st 4=some (x 72):=f.1;obtain⟨xs,S,ab,⟨ao,av,ap,aw,aq,ax,ar,ay,rfl,-⟩,bc⟩:=hK.1.part (by decide) h0;have Q:=zH bc;have d6:=zH hK.2;clear hK bc;go_wp;exact sQ
  ·intro H f;have Q:=zH hK;clear hK;go_wp;exact za2 ⟨⟨Q.out.1.alloc CDl.keep (by decide) H R.size,fun O=>((Q.out.2 (by rwa[zah st _ (by decide)]at O)).ext ((Xg _).alloc _)).other (by decide)⟩,R.alloc _⟩
  intro H f;have h0:st 7=some (x 17):=f.1;have h1:st 5=some (x 77):=f.2.1;obtain⟨xs,S,a5,ab,i6,e3,ck,⟨ao,av,ap,aw,aq,ax,ar,ay,rfl,-⟩,e2⟩:=hK.1.store CDl.keep (by decide) h1 h0 H;obtain⟨r0,r1,je,jf⟩:=ck.p4;obtain⟨a0,a1,a2,il⟩:=ck.q4;have e1:=e2 (zqw W a5 (Xa ao 0 av) (Xa ap stT.all.length aw) (Xa aq stT.entries.length ax) (Xa ar stT.pruned.length ay)) (Xc true) (zym ck) (by simp[World.size_setCell]) (fun y ic=>zvv W a5 (Xa ao 0 av) (Xa ap stT.all.length aw) (Xa aq stT.entries.length ax) (Xa ar stT.pruned.length ay) y ic);have fa:=zyl R e3 (Xa ao 0 av) (Xa ap stT.all.length aw) (Xa aq stT.entries.length ax) (Xa ar stT.pruned.length ay);have Q:=zH e1;have hu:=zH fa;clear hK e2 e1 fa ck h0 h1;go_wp;exact za2 (v:=Xc true) ⟨⟨Q.out,fun O=>by rw[zb2]at O;cases O⟩,hu.out⟩
 case hend =>
  intro x a3 st d hK H f;have ey:st 7=some (x 17):=f.2.2.2.2.2.2.2.1;have h4:x 78=I 0:=f.2.2.2.2.2.2.1;obtain⟨xs,S,h5,h3,e3,G,⟨io,ja,ip,jb,iq,jc,ir,jd,rfl,e6⟩,h8⟩:=hK.1.done ey (H 8 (show 8<9 by decide) rfl);have J:=e6.mono (S':=fun _=>True) fun _ _ _=>trivial
  replace e:=e.ext d;replace i:=i.ext d;replace p:=p.ext d;replace sT:=sT.ext d;replace q:=q.ext d;replace t:=t.ext d;replace u:=u.ext d;replace E:=E.ext d;replace h:=h.trans d;clear d hK H f e6 h8 ey;simp only[zS,zD,zU,Nat.reduceAdd,List.filterMap_cons,zav,Act.put,h3,h4]
  have el:∀ ⦃fu fv fw fx fy fz f2 f3 f4 f5 f6 f7 f8 f9 ga gb gc gd ge gf gg gh gi gj gl gm gn gp gq gr gs gt gu gv gw gx gy gz g0 g1 g2 g3 g4 g5 g6 g7 g8 g9 ha hc hd he hf hg hh hj hk hl hm hn ho:Xf⦄,K ⟨#[Xc false,Xb (some ⟨k,0,none⟩),I 0,I 0,Xb (some ⟨bv,0,none⟩),Xb (some ⟨a5,0,none⟩),I 170,I 0,Xb (some ⟨db,0,none⟩),I 0,I 2,Xc true,Xb (some ⟨c9,0,none⟩),Xc true,Xb (some ⟨da,0,none⟩),fu,I 0,Xb (some ⟨h5,0,none⟩),I 0,fv,fw,fx,fy,fz,f2,f3,f4,f5,f6,f7,f8,f9,ga,gb,gc,gd,ge,gf,gg,gh,gi,gj,gl,gm,gn,gp,gq,gr,gs,gt,gu,gv,gw,gx,gy,gz,g0,g1,g2,g3,g4,g5,g6,g7,g8,g9,ha,hc,hd,he,hf,hg,hh,hj,hk,hl,hm,hn,ho,Qa,Qa,Qa,Qa,Qa,Qa,Qa,Qa,Qa,Qa,Qa,Qa,Qa,Qa,Qa,Qa,Qa,Qa,Qa,Qa,Qa,Qa,Qa,Qa,Qa,Qa,Qa,Qa,Qa,Qa,Qa,Qa,Qa,Qa,Qa,Qa,Qa,Qa,Qa,Qa,Qa,Qa,Qa,Qa,Qa,Qa,Qa,Qa,Qa,Qa,Qa,Qa,Qa,Qa,Qa,Qa,Qa,Qa,Qa,Qa,Qa,Qa,Qa,Qa,Qa,Qa,Qa,Qa,Qa,Qa,Qa,Qa,Qa,Qa,Qa,Qa,Qa,Qa,Qa,Qa,Qa,Qa],[]⟩ a3:=by
   intro fu fv fw fx fy fz f2 f3 f4 f5 f6 f7 f8 f9 ga gb gc gd ge gf gg gh gi gj gl gm gn gp gq gr gs gt gu gv gw gx gy gz g0 g1 g2 g3 g4 g5 g6 g7 g8 g9 ha hc hd he hf hg hh hj hk hl hm hn ho;refine s.out _ _ ?_;clear s K;refine wpH ?_;intro K s;have D:=e.lt;have ie:=q.cell (j:=0) rfl;obtain⟨ex,ci⟩:∃g,a3.heap.size=g:=⟨_,rfl⟩
   obtain⟨eq,b8⟩:∃z,a3.alloc (Xd #[St [49],.int .u64 7] 97)=z:=⟨_,rfl⟩
   have ad:Ext a3 eq:=(by rw[<- b8];exact(Xg a3).alloc _);have fs:RowIs eq ex 97 [St q1,U 7] []:=(by rw[<- b8,<- ci];exact zaf a3 _ _);have eh:=zH b8;have d5:=zH ci;replace e:=e.ext ad;replace i:=i.ext ad;replace p:=p.ext ad;replace sT:=sT.ext ad;replace q:=q.ext ad;replace t:=t.ext ad;replace u:=u.ext ad;replace E:=E.ext ad;replace G:=G.ext ad;replace J:=J.ext ad;replace h:=h.trans ad;have i5:k<ex:=(by rw[<- ci];exact D);clear b8 ci ad;have C:=zH (zhf (A:=[(q1,7)]) (B:=[(q1,7)]) sT.all ((zbb (l:=[(q1,7)]) (zqe (m:=(q1,7)) (base:=0) fs (Nat.zero_le _)))));rw[decide_eq_true rfl]at C;clear fs;go_wp2_with fail
   (try rw[d5.out])
   (try rw[eh.out])
   clear eh d5;refine C.out.mono ?_;clear C ie;rintro r V⟨rfl,d⟩;replace e:=e.ext d;replace i:=i.ext d;replace p:=p.ext d;replace sT:=sT.ext d;replace q:=q.ext d;replace t:=t.ext d;replace u:=u.ext d;replace E:=E.ext d;replace G:=G.ext d;replace J:=J.ext d;replace h:=h.trans d;have D:k<V.heap.size:=Qb e.lt (Qc _);have fb:=u.cell (j:=3) rfl;clear d;obtain⟨a6,ch⟩:∃g,V.heap.size=g:=⟨_,rfl⟩
   obtain⟨az,b6⟩:∃z,V.alloc (Xd #[St [49],.int .u64 7] 59)=z:=⟨_,rfl⟩
   have ac:Ext V az:=(by rw[<- b6];exact(Xg V).alloc _);have cp:RowIs az a6 59 [St q1,U 7] []:=(by rw[<- b6,<- ch];exact zaf V _ _);have c3:=zH b6;have cy:=zH ch;replace e:=e.ext ac;replace i:=i.ext ac;replace p:=p.ext ac;replace sT:=sT.ext ac;replace q:=q.ext ac;replace t:=t.ext ac;replace u:=u.ext ac;replace E:=E.ext ac;replace G:=G.ext ac;replace J:=J.ext ac;replace h:=h.trans ac;have i3:k<a6:=(by rw[<- ch];exact D);clear b6 ch ac;have D:=e.lt;obtain⟨dc,a7⟩:∃g,az.heap.size=g:=⟨_,rfl⟩
   obtain⟨c5,b7⟩:∃z,az.alloc (Xd #[St [97],Xa (some ⟨a6,0,none⟩) 1 1] 57)=z:=⟨_,rfl⟩
   have X:Ext az c5:=(by rw[<- b7];exact(Xg az).alloc _);have fr:RowIs c5 dc 57 [St [97],Xa (some ⟨a6,0,none⟩) 1 1] []:=(by rw[<- b7,<- a7];exact zaf az _ _);have eg:=zH b7;have cz:=zH a7;replace e:=e.ext X;replace i:=i.ext X;replace p:=p.ext X;replace sT:=sT.ext X;replace q:=q.ext X;replace t:=t.ext X;replace u:=u.ext X;replace E:=E.ext X;replace G:=G.ext X;replace J:=J.ext X;replace cp:=cp.ext X;replace h:=h.trans X;have i4:k<dc:=(by rw[<- a7];exact D);clear b7 a7 X;have a7:dc=a6+1:=(by rw[<- cz.out,<- c3.out,World.size_alloc,cy.out]);subst a7;have e0:Sl markT c5 (fun _=>True) (Xa (some ⟨a6,0,none⟩) 1 1) [(q1,7)]:=ybg cp;have C:=zH (zl7 (A:=[([97],[(q1,7)])]) (B:=[([97],[(q1,7)])]) t.items (yas fr e0));rw[decide_eq_true rfl]at C;clear cp fr e0;go_wp2_with fail
   (try rw[cy.out])
   (try rw[c3.out])
   (try rw[cz.out])
   (try rw[eg.out])
   clear c3 cy eg cz;refine C.out.mono ?_;clear C fb;rintro r V2⟨rfl,d⟩;replace e:=e.ext d;replace i:=i.ext d;replace p:=p.ext d;replace sT:=sT.ext d;replace q:=q.ext d;replace t:=t.ext d;replace u:=u.ext d;replace E:=E.ext d;replace G:=G.ext d;replace J:=J.ext d;replace h:=h.trans d;have D:k<V2.heap.size:=Qb e.lt (Qc _);have a2:=q.cell (j:=2) rfl;have a0:=q.cell (j:=0) rfl;have a1:=q.cell (j:=1) rfl;have im:=E.cell (j:=2) rfl;have d1:=G.cell (j:=1) rfl;have hz:=G.cell (j:=2) rfl;have h2:=G.cell (j:=3) rfl;have C:=zH (zlc J sT);rw[show zed stT stT=true from sameSt_iff.2 rfl]at C;clear d;go_wp2_with fail;refine C.out.mono ?_;clear C a0 a1 a2 im d1 hz h2;rintro r ep⟨rfl,d⟩;replace e:=e.ext d;replace i:=i.ext d;replace p:=p.ext d;replace sT:=sT.ext d;replace q:=q.ext d;replace t:=t.ext d;replace u:=u.ext d;replace E:=E.ext d;replace G:=G.ext d;replace J:=J.ext d;replace h:=h.trans d;have D:k<ep.heap.size:=Qb e.lt (Qc _);clear d;obtain⟨ae,af,ag,ah⟩:=i.p4;have C:=zH (zr5 pQ ep);rw[zsc]at C;go_wp2_with fail;refine C.out.mono ?_;clear C ae af ag ah;rintro r hv⟨rfl,d⟩;replace e:=e.ext d;replace i:=i.ext d;replace p:=p.ext d;replace sT:=sT.ext d;replace q:=q.ext d;replace t:=t.ext d;replace u:=u.ext d;replace E:=E.ext d;replace G:=G.ext d;replace J:=J.ext d;replace h:=h.trans d;have D:k<hv.heap.size:=Qb e.lt (Qc _);clear d;obtain⟨ae,af,ag,ah⟩:=i.p4;obtain⟨Y,Z,aa⟩:=e.p3;have C:=zH (zk6 pQ zsc p);rw[yb0]at C;go_wp2_with fail;refine C.out.mono ?_;clear C ae af ag ah Y Z aa;rintro r hw⟨rfl,d⟩;replace e:=e.ext d;replace i:=i.ext d;replace p:=p.ext d;replace sT:=sT.ext d;replace q:=q.ext d;replace t:=t.ext d;replace u:=u.ext d;replace E:=E.ext d;replace G:=G.ext d;replace J:=J.ext d;replace h:=h.trans d;have D:k<hw.heap.size:=Qb e.lt (Qc _);clear d;obtain⟨ae,af,ag,ah⟩:=i.p4;obtain⟨Y,Z,aa⟩:=q.p3;have C:=zH (zk6 pQ zsc sT);rw[yb1]at C;go_wp2_with fail;refine C.out.mono ?_;clear C ae af ag ah Y Z aa;rintro r it⟨rfl,d⟩;have ht:=zH (h.trans d);clear d h e i p sT q t u E G J;go_wp2_with fail;refine s.out _ _ ?_;clear s K;go_wp2_with fail;go_ret;exact⟨rfl,ht.out⟩
  have hr:=zH el;clear el e i p sT q t u E G J;go_wp2_with fail
  apply hr.out
end
end Go.Proofs.YtaabaflgeljbjaaGreat
