/- gossamerlaw17.PruneModel: the walk. Printed by pp.py out of src/Model17.src, src/Model17.py. -/
import Derived.Test.YtaabaflgeljbjaaGreatPr40
import Derived.Test.YtaabaflgeljbjaaGreatPr41
import Derived.Test.YtaabaflgeljbjaaGreatPr45
import Derived.Test.YtaabaflgeljbjaaGreatPr42
import Derived.Test.YtaabaflgeljbjaaGreatPr47
import Derived.Test.YtaabaflgeljbjaaGreatPr44
import Derived.Test.YtaabaflgeljbjaaGreatPr25
import Derived.Test.YtaabaflgeljbjaaGreatPr43
set_option linter.unusedVariables false
set_option linter.unusedSimpArgs false
set_option maxRecDepth 100000
set_option maxHeartbeats 40000000
namespace Go.Proofs.YtaabaflgeljbjaaGreat
open Go.Value renaming slice→Xa,pointer→Xb,bool→Xc
open Go renaming World→Xd
open List renaming getElem?_eq_getElem→Qa,drop_succ_cons→Qb,take_succ_cons→Qc,drop_zero→Qd,take_zero→Qe,getElem?_mapIdx→Qf,take_nil→Qg,drop_nil→Qi,replicate→Qk,getElem?_eq_some_iff→Ql,ext_getElem?→Qm,append_nil→Qn
open Nat renaming reduceSub→Qh,le_refl→Qj
section
open Go.RowKit Go.Shelf
theorem yh6 {c base:Nat}{v:Value}{l:List Bool}{w:Xd}(a:Own w base c 1 v l.length (l.flatMap zdf)):Sl zvd w (fun b=>base<=b) v l :=
 OwnL.sl (S:=fun b=>base<=b) (OwnL.flat_iff.2 a) (by decide) (fun _ _ a=>a) (fun _ a _=>a)
def nilA (rs:List Rep)(j:Nat):List Rep:=rs.mapIdx fun i r=>if i<j then { r with asked:=[] } else r
theorem yj1 (rs:List Rep):nilA rs 0=rs:=by
 refine Qm fun i=>?_
 unfold nilA;rw[Qf];cases rs[i]?<;>simp
theorem ykq {rs:List Rep}{j:Nat}{r:Rep}(h:rs[j]? = some r):(nilA rs j)[j]? = some r:=by
 unfold nilA;rw[Qf,h];simp
theorem yj2 {rs:List Rep}{j:Nat}{r:Rep}(a:rs[j]? = some r):(nilA rs j).set j { r with asked:=[] }=nilA rs (j+1):=by
 have c:=(Ql.1 a).1;refine Qm fun i=>?_
 unfold nilA;rw[List.getElem?_set,Qf,Qf,List.length_mapIdx]
 by_cases e:j=i
 ·subst e;rw[zP rfl,zP c,a];simp
 rw[zN e]
 cases rs[i]?
 case none=>rfl
 rename_i q
 simp only[Option.map_some]
 by_cases b:i<j
 ·rw[zP b,zP (by omega)]
 rw[zN b,zN (by omega)]
def yhb (d:Deed):Deed:={ d with n:=1+d.n % 3,other:=1+d.other % 3 }
theorem yix {d:Deed}(h:DeedOk d):DeedOk (yhb d):=⟨h.key,h.do_,show 1+d.n % 3<256 by omega,h.lo,h.hi,h.text,show 1+d.other % 3<256 by omega⟩
theorem yj3 (E:List Ev)(V:Vec)(rs:List Rep)(d:Deed):(yg3 E V rs d).1.length<=E.length+1:=by
 unfold yg3
 split
 ·exact Nat.le_succ _
 unfold updV
 split
 ·simp
 exact Nat.le_succ _
structure At17 (g10 gd:Nat) (PP:PrD) (d:Deed) (E:List Ev) (gs:List Rep) (va:Value) (w:Xd) (fl:Nat->Bool) (rs:List Rep) (vs:List RepV) (W:Xd):Prop where
 st:Stay E PP gs rs fl
 m:MemX (fun b=>b=g10 ∨ b=gd) W w.heap.size w.heap.size vs rs va E
 x:Ext w W
 r10:RowIs W g10 29 (prC PP) []
 rd:RowIs W gd 70 (yb8 d) []
section
variable {g10 gd k:Nat} {PP:PrD} {d:Deed} {E:List Ev} {gs rs:List Rep} {va:Value} {w W:Xd} {fl:Nat->Bool} {vs:List RepV}
theorem At17.at (h:At17 g10 gd PP d E gs va w fl rs vs W)(hk:k<4):∃r,rs[k]? = some r:=⟨_,Qa (by rw[h.st.len];exact hk)⟩
theorem At17.prune (a:At17 g10 gd PP d E gs va w fl rs vs W)(h1:1<=k)(hk:k<4):Calls Tryz.prog 23 #[Xa (some ⟨w.heap.size,0,none⟩) 4 4,I k,prV PP] W fun e g =>
  e=.returned (Xc true)/\∃b n f,(b k=true/\∀i,fl i=true->b i=true)/\At17 g10 gd PP d E gs va w b n f g:=by
 obtain⟨r,c⟩:=a.at hk;obtain⟨o,j,ha,l⟩:=a.st.prune h1 c;refine(yh1 a.m hk c ((a.st.lim h1 c).small (by decide)) j ha).mono fun e g q=>?_
 obtain⟨f,rfl,h,hb⟩:=q;exact⟨rfl,_,_,f,⟨zP rfl,fun i hi=>by simp[hi]⟩,l,h,Below.trans a.x hb.below,a.r10.keep (hb.same _ (.inl rfl)),a.rd.keep (hb.same _ (.inr rfl))⟩
theorem At17.cell (a:At17 g10 gd PP d E gs va w fl rs vs W)(h1:1<=k)(hk:k<4):∃A c,W.cell? ⟨w.heap.size,k * 5+2,none⟩=some (Xa A (if fl k then 1 else 0) c):=by
 obtain⟨r,b⟩:=a.at hk;obtain⟨v,i,h⟩:=a.m.get b;obtain⟨A,c,e,-,-⟩:=h.st.pruned.form;have f:=a.m.cell (j:=2) i rfl
 have g:r.s.pruned.length=if fl k then 1 else 0:=by rw[a.st.pruned h1 b];cases fl k<;>rfl
 exact⟨A,c,f.trans (by rw[e,g])⟩
end
theorem yiy {S gb:Nat->Prop}{l:List Deed}{G:List Deed17}{fh fi:Value}{w:Xd}(F:Sl zom w S fh l)(ez:∀d∈l,DeedOk d)(cv:Sl yhf w gb fi G)(e1:∀d∈G,DeedOk d.d) :
  Calls Tryz.prog 4 #[fh,fi] w fun r w'=>r=.returned (Xc true)/\Ext w w':=by
 obtain⟨A,c,rfl,-,-⟩:=F.form;obtain⟨g3,c2,rfl,-,-⟩:=cv.form;have dv:=zH F;have dn:=zH ez;have f4:=zH cv;have fy:=zH e1;clear F ez cv e1;go_enter Tryz.func4,Tryz.ntmps4
 by_cases cm:40<l.length
 ·have q1:decide ((40:Int)<(l.length:Int))=true:=decide_eq_true (by omega);have bw:(l.length:Int)>40:=by omega
  clear cm;go_wp2_with fail;refine(zm6 _).mono ?_;rintro r eh⟨rfl,a4⟩;go_wp2_with fail;go_ret;exact⟨rfl,a4⟩
 have q1:decide ((40:Int)<(l.length:Int))=false:=decide_eq_false (by omega);have bw:¬(l.length:Int)>40:=by omega
 have es:l.length<=40:=Nat.not_lt.1 cm;clear cm
 by_cases co:40<G.length
 ·have q3:decide ((40:Int)<(G.length:Int))=true:=decide_eq_true (by omega);have q4:(G.length:Int)>40:=(by omega);clear co es;go_wp2_with fail;refine(zm6 _).mono ?_;rintro r eh⟨rfl,a4⟩;go_wp2_with fail;go_ret;exact⟨rfl,a4⟩
 have q3:decide ((40:Int)<(G.length:Int))=false:=decide_eq_false (by omega);have q4:¬(G.length:Int)>40:=(by omega);have hq:G.length<=40:=Nat.not_lt.1 co;clear co;have gm:∀W:Xd,(Instr.makeSlice 62 (.int .i64 4) (.int .i64 4)).run Tryz.prog W=.ok (Xa (some ⟨W.heap.size,0,none⟩) 4 4) (W.alloc (.cells ((Qk 4 zvm).flatMap RepV.cells).toArray 75)):=fun W=>by kernel_rfl
 have dw:Hid (Mem (w.alloc (.cells ((Qk 4 zvm).flatMap RepV.cells).toArray 75)) w.heap.size w.heap.size (Qk 4 zvm) (Qk 4 rep0) (Xa none 0 0) []):=zH (Mem.zero (zaf w 75 _) (Qj _));go_wp2_with fail;clear gm q1 bw q3 q4
 go_loopw [6,7] (fun va i wr=>∃(pre post:List Deed) (E:List Ev) (rs:List Rep) (vs:List RepV),l=pre++post/\i=I pre.length/\RepsOk E 4 rs/\E.length<=pre.length/\Mem wr w.heap.size w.heap.size vs rs va E/\Ext w wr) (fun _ i _=>l.length-(intOf i).toNat)
 case atStart=>exact⟨[],l,[],_,_,rfl,rfl,RepsOk.zero (by decide),Qj _,dw.out,(Ext.refl w).alloc _⟩
 clear dw;obtain⟨pre,post,E,rs,vs,F,rfl,cc,a2,X,Z⟩:=hrel;have a8:=zH cc;have y:=zH X;have z:=zH Z
 cases post
 case cons m post=>
  have ca:pre.length<l.length:=(by rw[F];simp);obtain⟨b,of,D,e0,ei,ej,ek,bd,el,em⟩:=ybc dv.out Z F;subst D;have cj:=zH F;have a7:=zH (dn.out m (by rw[F];simp));have b1:=zH a2;have bk:E.length<200:=(by omega);have h:=zH (yai (n:=4) a7.out y.out a8.out (by decide) bk);have ai:=zH (a8.out.does (by decide) bk a7.out);clear F cc X Z a2;go_wp2_with fail;refine h.out.mono ?_;rintro r ac⟨hv,bx,rfl,J,ak⟩;have f7:=zH J;have fx:=zH ak;clear J ak h;go_wp2_with fail;go_roundw
  case rel=>exact⟨pre++[m],post,_,_,bx,by rw[cj.out];simp,by simp,ai.out,by have h1:=yae E rs m;have ad:=b1.out;simp;omega,f7.out,Below.trans z.out fx.out⟩
  case measure=>simp[intOf];omega
 rw[Qn]at F;subst F;have bk:E.length<200:=(by omega);have eu:E.length<=40:=(by omega);have h:=zH (yj8 X cc bk);obtain⟨hi,rfl⟩:∃Q:Xd,Q=wr:=⟨_,rfl⟩
 clear cc X Z a2;go_wp2_with fail;refine h.out.mono ?_;rintro r ac⟨r0,a,b,c,bx,c3,rfl,J,ak,-⟩;have bp:=a8.out.met c3;obtain⟨gs,a3⟩:=a8.out.stay c3
 have e6:ygz r0 a b c 4 = [r0,⟨ygo a,a.knew,a.asked⟩,⟨ygo a,a.knew,b.asked⟩,⟨ygo a,a.knew,c.asked⟩]:=by
  show[r0,{ a with s:=ygo a },(⟨zb9 b.s (ygo a),orL b.knew a.knew,b.asked⟩:Rep),⟨zb9 c.s (ygo a),orL c.knew a.knew,c.asked⟩]=_
  rw[bp.jb,bp.jc,bp.kb,bp.kc]
 rw[e6]at J;have e7:nilA [r0,⟨ygo a,a.knew,a.asked⟩,⟨ygo a,a.knew,b.asked⟩,⟨ygo a,a.knew,c.asked⟩] 4 = [⟨r0.s,r0.knew,[]⟩,⟨ygo a,a.knew,[]⟩,⟨ygo a,a.knew,[]⟩,⟨ygo a,a.knew,[]⟩]:=rfl;rw[<- e7]at a3;obtain⟨b4,cq⟩:∃x,[r0,⟨ygo a,a.knew,a.asked⟩,⟨ygo a,a.knew,b.asked⟩,(⟨ygo a,a.knew,c.asked⟩:Rep)]=x:=⟨_,rfl⟩
 have fa:b4.length=4:=(by rw[<- cq];rfl);rw[cq]at a3 J;obtain⟨PP,ey⟩:∃x,ygr a=x:=⟨_,rfl⟩
 rw[ey]at a3;have e9:mayP PP=true:=prOk_iff.2 a3.ok;obtain⟨g10,ct⟩:∃g,ac.heap.size=g:=⟨_,rfl⟩
 obtain⟨aj,b6⟩:∃Q,ac.alloc (.cells #[St PP.1,U PP.2.1,St PP.2.2.1,U PP.2.2.2] 29)=Q:=⟨_,rfl⟩
 have M:Ext ac aj:=(by rw[<- b6];exact(Ext.refl ac).alloc _);have al:RowIs aj g10 29 (prC PP) []:=(by rw[<- b6,<- ct];exact zaf ac _ _);have cw:MemX (fun b=>b=g10) aj w.heap.size w.heap.size bx b4 _ E:=(J.guard M (q:=g10) (by omega) al.lt).free fun b hb=>.inr hb
 have d8:Hid (Ext w aj):=zH (Ext.trans (show Ext w ac from Below.trans z.out ak) M);have fw:Hid (BelowX (fun b=>b=g10) w.heap.size aj aj):=zH (BelowX.refl _ cw.ltX);have dz:=zH al;have y:=zH cw;have d7:=zH a3;have d2:=zH fa;have hc:=zH e9;have dp:=zH eu;clear bp e6 e7 cq M al cw J ak c3 a8 z h a3 fa e9 eu bk es dv dn;go_wp2_with fail
 (try rw[ct])
 (try rw[b6])
 clear b6 ct ey;rename_i K hK;have dr:=zH hK;clear hK
 go_loopw [60] (fun j wr=>∃(am:Nat) (vs:List RepV),j=I am/\am<=4/\MemX (fun b=>b=g10) wr w.heap.size w.heap.size vs (nilA b4 am) u6 E/\Ext w wr/\RowIs wr g10 29 (prC PP) []) (fun j _=>4-(intOf j).toNat)
 case atStart=>exact⟨0,bx,rfl,Nat.zero_le _,by rw[yj1];exact y.out,d8.out,dz.out⟩
 clear y d8 dz fw;obtain⟨am,g0,rfl,e5,X,Z,al⟩:=hrel;have y:=zH X;have z:=zH Z;have P:=zH al;clear X Z al
 by_cases ca:am<4
 ·obtain⟨r,cy⟩:∃r,b4[am]? = some r:=⟨_,Qa (by rw[d2.out];exact ca)⟩
  have N:=ykq cy;obtain⟨v,L,B⟩:=y.out.get N;have hr:=y.out.cell (j:=4) L rfl;have hs:=y.out.row.frozen (am * 5+4);have f6:=zH (y.out.putAsked (m:=[]) (u:=Xa none 0 0) L N (Sl.nil none 0 (by decide)));have f8:=zH (yj2 cy);clear B L N cy;go_wp2_with fail;go_roundw
  case rel=>exact⟨am+1,_,by simp,ca,by rw[<- f8.out];exact f6.out,Below.mem z.out (Qj _) _,P.out.other (fun e=>y.out.loX.2 g10 rfl e.symm) _⟩
  case measure=>simp[intOf];omega
 have T:am=4:=(by omega);rw[T]at y;clear T;go_wp2_with fail;refine dr.out _ _ ?_;clear dr;go_wp2_with fail;rename_i hd ew;have ds:=zH ew;clear ew
 go_loopw [13,6] (fun i va wr=>∃(pre post:List Deed17) (E:List Ev) (rs gs:List Rep) (fl:Nat->Bool) (vs:List RepV),G=pre++post/\i=I pre.length/\Stay E PP gs rs fl/\E.length<=40+pre.length/\MemX (fun b=>b=g10) wr w.heap.size w.heap.size vs rs va E/\Ext w wr/\RowIs wr g10 29 (prC PP) []) (fun i _ _=>G.length-(intOf i).toNat)
 case atStart=>exact⟨[],G,E,_,gs,_,g0,rfl,rfl,d7.out,dp.out,y.out,z.out,P.out⟩
 clear y z P d7 dp d2;obtain⟨pre,post,ar,rs,eq,fl,fj,F,rfl,bu,a2,X,Z,N⟩:=hrel;have H:=zH bu;have b1:=zH a2;have y:=zH X;have z:=zH Z;have P:=zH N;clear bu a2 X Z N
 cases post
 case cons m post=>
  have ca:pre.length<G.length:=(by rw[F];simp);obtain⟨b,of,D,e0,ei,ej,ek,bd,el,em,be⟩:=yjn f4.out z.out F;subst D;have cj:=zH F;have a7:=zH (fy.out m (by rw[F];simp));clear F;obtain⟨k,hk⟩:∃k,1+m.d.n % 3=k:=⟨_,rfl⟩
  obtain⟨o,e8⟩:∃k,1+m.d.other % 3=k:=⟨_,rfl⟩
  have gl:(1+(m.d.n:Int) % 3)=(k:Int):=(by omega);have gn:(1+(m.d.other:Int) % 3)=(o:Int):=(by omega);have ay:1<=k/\k<4:=(by omega);have br:1<=o/\o<4:=(by omega);obtain⟨gd,b8⟩:∃g,Hid (wr.heap.size=g):=⟨_,zH rfl⟩
  obtain⟨bb,b5⟩:∃Q,Hid (wr.alloc (.cells #[K8 m.d.key,K8 m.d.do_,.int .u8 (k:Int),.int .i16 m.d.by_,K8 m.d.text,.int .u8 (o:Int),Xc m.d.asks] 70)=Q):=⟨_,zH rfl⟩
  obtain⟨av,ao⟩:∃Q,bb.drew=Q:=⟨_,rfl⟩
  have ag:Ext wr av:=by rw[<- ao,<- b5.out];exact((Ext.refl wr).alloc _).drew
  have af:RowIs bb gd 70 (yb8 (yhb m.d)) []:=by rw[<- b5.out,<- b8.out,<- hk,<- e8];exact zaf wr _ (yb8 (yhb m.d))
  have bs:RowIs av gd 70 (yb8 (yhb m.d)) []:=af.ext (by rw[<- ao];exact(Ext.refl bb).drew);have c2:av.cell? ⟨gd,2,none⟩=some (.int .u8 (k:Int)):=(bs.cell (j:=2) rfl).trans (by rw[<- hk];rfl);have gg:av.cell? ⟨gd,5,none⟩=some (.int .u8 (o:Int)):=(bs.cell (j:=5) rfl).trans (by rw[<- e8];rfl);have C:=zH (show At17 g10 gd PP (yhb m.d) ar eq u6 w fl rs fj av from⟨H.out,(y.out.guard ag (q:=gd) (by rw[<- b8.out];exact Qj _) bs.lt).free fun b hb=>hb,z.out.trans ag,P.out.ext ag,bs⟩);have dq:=zH (ag.cell be);have b2:=zH ao;clear ao ag af bs;go_wp2_with fail;rw[b5.out];simp only[b8.out];clear H y z P gl gn b5 b8 e0 ei ej ek bd el em be;refine wp_region_still_tail 9 (by kernel_rfl) (by kernel_rfl) ?_;simp only[zD];change wpStill _ _ (bb).drew (fun gf=>wpList _ _ _ _ gf (bb).drew) _ _;rw[b2.out];generalize D:Act.mk _ _=A0;repeat (refine wpStill_step (fun au ab=>?_);subst D;go_simp;(try rw[zN (by decide)]);generalize D:Act.mk _ _=A0;refine ab A0 ?_;clear ab au)
  refine wpStill_nil ?_;subst D;clear c2 gg b2;have be:=dq.out;obtain⟨an,gj⟩:∃f,f=fl:=⟨_,rfl⟩
  subst gj;obtain⟨c5,gq⟩:∃f,f=rs:=⟨_,rfl⟩
  subst gq;cases cb:m.prunes
  all_goals rw[cb]at be
  case' true=>have h:=zH (C.out.prune ay.1 ay.2);obtain⟨d0,d1,aw,ax⟩:=C.out.r10.p4;go_wp2_with fail;refine h.out.mono ?_;rintro r hf⟨rfl,an,c5,hw,-,er⟩;clear h d0 d1 aw ax C dq be;have C:=zH er;clear er
  all_goals
   have g1:=(show _=some (K8 m.d.do_)from C.out.rd.cell (j:=1) rfl)
   obtain⟨g5,hl,bi⟩:=C.out.cell ay.1 ay.2;obtain⟨g6,hm,bj⟩:=C.out.cell br.1 br.2
   by_cases gp:3<=m.d.do_ % 5
   case' neg=>have q1:decide ((3:Int)<=(m.d.do_:Int) % 5)=false:=decide_eq_false (by omega);have bw:¬(m.d.do_:Int) % 5≥3:=(by omega);have HF:=zH (fun O:3<=m.d.do_ % 5=>(absurd O gp:an k=an o))
   case' pos =>
    have q1:decide ((3:Int)<=(m.d.do_:Int) % 5)=true:=decide_eq_true (by omega);have bw:(m.d.do_:Int) % 5≥3:=by omega
    by_cases hb:an k=true ∨ an o=true
    case' neg =>
     have bm:an k=false:=by simpa using fun O=>hb (.inl O)
     have e4:an o=false:=by simpa using fun O=>hb (.inr O)
     rw[bm]at bi;rw[e4]at bj;simp only[Bool.false_eq_true,if_false]at bi bj;have HF:=zH (fun(_:3<=m.d.do_ % 5)=>bm.trans e4.symm);clear hb
    case' pos =>
     cases bm:an k
     case' false=>rw[hb.resolve_left (by rw[bm];decide)]at bj
     all_goals
      rw[bm]at bi;simp only[Bool.false_eq_true,if_true,if_false]at bi bj;have h:=zH (C.out.prune ay.1 ay.2);obtain⟨d0,d1,aw,ax⟩:=C.out.r10.p4;go_wp2_with fail;refine h.out.mono ?_;rintro r hg⟨rfl,hn,hu,hx,⟨f1,-⟩,cn⟩;clear h d0 d1 aw ax bi bj g1 q1 bw C;have h:=zH (cn.prune br.1 br.2);obtain⟨d0,d1,aw,ax⟩:=cn.r10.p4;clear cn;go_wp2_with fail;refine h.out.mono ?_;rintro r hh⟨rfl,ho,c5,hy,⟨bf,bg⟩,et⟩;have HF:=zH (fun(_:3<=m.d.do_ % 5)=>(bg k f1).trans bf.symm);have C:=zH et;clear h d0 d1 aw ax et f1 bf bg hb
  all_goals
   obtain⟨fk,b0,fn,fo,fp,fq,g2⟩:=C.out.rd.p7;have du:=zH (show(yhb m.d).n % 4=k from(show(1+m.d.n % 3) % 4=k by omega));have dy:=zH (show(yhb m.d).other % 4=o from(show(1+m.d.other % 3) % 4=o by omega));obtain⟨V,gi,e2,fc⟩:=C.out.st.does (by have:=b1.out;omega) (yix a7.out) (by rw[du.out];exact ay.1) (by rw[dy.out];exact br.1) (fun O=>by rw[du.out,dy.out];exact HF.out O);have h:=zH (yia (yix a7.out) C.out.m C.out.st.len (by decide) e2);have a9:=zH fc;clear e2 fc;go_wp2_with fail;refine h.out.mono ?_;rintro r cl⟨gz,ch,rfl,cx,cr⟩;obtain⟨⟨ci,ah⟩,cp⟩:∃p,yg3 ar V c5 (yhb m.d)=p:=⟨_,rfl⟩
   rw[cp]at cx a9;have f5:Hid (ci.length<=ar.length+1):=zH (Nat.le_trans (Nat.le_of_eq (congrArg (fun p=>p.1.length) cp).symm) (yj3 ar V _ _));have z:Hid (Ext w cl):=zH (Below.trans C.out.x cr.below);have P:=zH (C.out.r10.keep (cr.same _ (.inl rfl)));have y:=zH (cx.free (X':=fun b=>b=g10) fun b hb=>.inl hb);clear cx cr h C cp fk b0 fn fo fp fq g2;obtain⟨g4,ht,rfl,-,-⟩:=(show MemX (fun b=>b=g10) cl w.heap.size w.heap.size ch ah gz ci from y.out).ev.form;go_wp2_with fail;obtain⟨c9,gr⟩:∃c9:Xd,c9=cl:=⟨_,rfl⟩
   subst gr
   go_loopw [19] (fun i bz=>∃j:Nat,i=I j/\1<=j/\j<=4/\Ext c9 bz) (fun i _=>4-(intOf i).toNat)
   case atStart=>exact⟨1,rfl,Qj _,by decide,Ext.refl _⟩
   obtain⟨j,rfl,ae,e5,aa⟩:=hrel;have b3:=zH aa
   by_cases T:j<4
   ·obtain⟨r,N⟩:∃r,ah[j]? = some r:=⟨_,Qa (by rw[a9.out.len];exact T)⟩
    obtain⟨V2,bn,bq,bt,bo,h1,ad,bh⟩:=a9.out.tells ae N;have ap:=y.out.ext aa;obtain⟨v,L,B⟩:=ap.get N;have az:=yh6 B.kn;rw[bn]at az;have h:=zH (yif a9.out.reps.hist B.st bt bq (ap.ev.sl (S':=fun _=>True) (by decide) (fun _ _ _=>trivial) (fun _ _ _=>trivial)) az B.ask bo h1 ad bh);have R:=ap.cell (j:=0) L rfl;have c1:=ap.cell (j:=1) L rfl;have c2:=ap.cell (j:=2) L rfl;have bc:=ap.cell (j:=3) L rfl;have c4:=ap.cell (j:=4) L rfl;simp only[Nat.add_zero]at R;obtain⟨v1,v2,v3,ff,fg⟩:=v;obtain⟨fr,gu,fs,gv,ft,gw,rfl,rfl,rfl⟩:=B.st.fm;obtain⟨fu,gx,rfl,-,-⟩:=B.kn.form;obtain⟨fv,gy,rfl,-,-⟩:=B.ask.form;clear bn bq bt bo h1 ad bh ap L B az N aa;go_wp2_with fail;refine h.out.mono ?_;rintro r aj⟨rfl,M⟩;have f9:=zH (b3.out.trans M);clear M h R c1 c2 bc c4;go_wp2_with fail;go_roundw
    case rel=>exact⟨j+1,by simp,by omega,T,f9.out⟩
    case measure=>simp[intOf];omega
   obtain rfl:j=4:=by omega
   go_wp2_with fail;go_roundw
   case rel=>exact⟨pre++[m],post,ci,ah,gi,_,ch,by rw[cj.out];simp,by simp,a9.out,by have h1:=f5.out;have ad:=b1.out;simp;omega,y.out.ext b3.out,z.out.trans b3.out,P.out.ext b3.out⟩
   case measure=>simp[intOf];omega
 rw[Qn]at F;subst F;go_wp2_with fail;refine ds.out _ _ ?_;clear ds;go_wp2_with fail;rename_i K8 ex;have dt:=zH ex;clear ex
 go_loopw [20] (fun i bz=>∃(j:Nat) (rs:List Rep) (vs:List RepV) (fl:Nat->Bool),i=I j/\1<=j/\j<=4/\Stay ar PP eq rs fl/\(∀i,1<=i->i<j->fl i=true)/\MemX (fun b=>b=g10) bz w.heap.size w.heap.size vs rs u6 ar/\Ext w bz/\RowIs bz g10 29 (prC PP) []) (fun i _=>4-(intOf i).toNat)
 case atStart=>exact⟨1,rs,fj,fl,rfl,Qj _,by decide,H.out,fun i h1 ad=>absurd ad (by omega),y.out,z.out,P.out⟩
 clear y z P H;obtain⟨j,ah,ch,hp,rfl,ae,e5,bu,e3,X,Z,al⟩:=hrel;have H:=zH bu;have a1:=zH e3;have y:=zH X;have z:=zH Z;have P:=zH al;clear bu e3 X Z al
 by_cases T:j<4
 ·obtain⟨r,N⟩:∃r,ah[j]? = some r:=⟨_,Qa (by rw[H.out.len];exact T)⟩
  obtain⟨c6,cb,ha,fb⟩:=H.out.prune ae N;obtain⟨av,ao⟩:∃Q,wr.drew=Q:=⟨_,rfl⟩
  have ag:Ext wr av:=(by rw[<- ao];exact(Ext.refl wr).drew);have h:=zH (yh1 (y.out.ext ag) T N ((H.out.lim ae N).small (by decide)) cb ha);have af:=P.out.ext ag;obtain⟨d0,d1,aw,ax⟩:=af.p4;have z:=zH (z.out.trans ag);have ai:=zH af;have C:=zH (show ofM c6.all PP.1=0 by rw[ha,zcs,zP rfl]);have ck:=zH fb;have dx:=zH (show(ah.set j { r with s:=c6 })[j]? = some { r with s:=c6 } from List.getElem?_set_self (Ql.1 N).1);have b2:=zH ao;clear N cb ha fb ao ag af P y H;go_wp2_with fail;refine yii (by kernel_rfl) ?_;change wpAny _ _ _ _ _ _ _ (wr).drew;rw[b2.out];refine yhe (k:=0) (n:=3) (by kernel_rfl) (by decide) ?_;simp only[Qd,Qb,Qc,Qe,Qg,Qh,Qi];generalize D:Act.mk _ _=A0;repeat (refine wpStill_step (fun au ab=>?_);subst D;go_simp;(try rw[zN (by decide)]);generalize D:Act.mk _ _=A0;refine ab A0 ?_;clear ab au)
  refine wpStill_nil ?_;subst D;refine yh5 (k:=3) 6 (by decide) (by decide) (by kernel_rfl) ?_;simp only[Qd,Qb,Qc,Qe,Qg,Qh,Qi];go_wp2_with fail;refine h.out.mono ?_;rintro r ac⟨bx,rfl,J,ak⟩;have z:=zH (show Ext w ac from Below.trans z.out ak.below);have af:=ai.out.keep (ak.same _ rfl);have ai:=zH af;clear d0 d1 aw ax h ak;have d0:=af.cell (j:=0) rfl;obtain⟨v,L,B⟩:=J.get dx.out;obtain⟨V2,bn,bq,bt,bo,h1,ad,bh⟩:=ck.out.tells ae dx.out;have h:=zH (ze1 PP.1 B.st.all);rw[C.out]at h;have az:=yh6 B.kn;rw[bn]at az;have d3:=zH (fun(W:Xd) (t:Ext ac W)=>yif ck.out.reps.hist (B.st.ext t) bt bq ((J.ev.sl (S':=fun _=>True) (by decide) (fun _ _ _=>trivial) (fun _ _ _=>trivial)).ext (by decide) t) (az.ext (by decide) t) (B.ask.ext (by decide) t) bo h1 ad bh);obtain⟨v1,v2,v3,ff,fg⟩:=v;obtain⟨fr,gu,fs,gv,ft,gw,rfl,rfl,rfl⟩:=B.st.fm;obtain⟨fu,gx,rfl,-,-⟩:=B.kn.form;obtain⟨fv,gy,rfl,-,-⟩:=B.ask.form;have R:=J.cell (j:=0) L rfl;have c1:=J.cell (j:=1) L rfl;have c2:=J.cell (j:=2) L rfl;have bc:=J.cell (j:=3) L rfl;have c4:=J.cell (j:=4) L rfl;simp only[Nat.add_zero]at R;have y:=zH J;clear bn bq bt bo h1 ad bh L B az J af;go_wp2_with fail;refine yhe (k:=6) (n:=14) (by kernel_rfl) (by decide) ?_;simp only[Qd,Qb,Qc,Qe,Qg,Qh,Qi];generalize D:Act.mk _ _=A0;repeat (refine wpStill_step (fun au ab=>?_);subst D;go_simp;(try rw[zN (by decide)]);generalize D:Act.mk _ _=A0;refine ab A0 ?_;clear ab au)
  refine wpStill_nil ?_;subst D;refine yh5 (k:=14) 18 (by decide) (by decide) (by kernel_rfl) ?_;simp only[Qd,Qb,Qc,Qe,Qg,Qh,Qi];go_wp2_with fail;refine h.out.mono ?_;rintro r aj⟨rfl,M⟩;have z:=zH (z.out.trans M);have h:=zH (d3.out aj M);replace R:=M.cell R;replace c1:=M.cell c1;replace c2:=M.cell c2;replace bc:=M.cell bc;replace c4:=M.cell c4;have y:=zH (y.out.ext M);have ai:=zH (ai.out.ext M);clear d0 d3 M;go_wp2_with fail;refine yhe (k:=18) (n:=23) (by kernel_rfl) (by decide) ?_;simp only[Qd,Qb,Qc,Qe,Qg,Qh,Qi];generalize D:Act.mk _ _=A0;repeat (refine wpStill_step (fun au ab=>?_);subst D;go_simp;(try rw[zN (by decide)]);generalize D:Act.mk _ _=A0;refine ab A0 ?_;clear ab au)
  refine wpStill_nil ?_;subst D;refine yjk (k:=23) (by kernel_rfl) ?_;simp only[Qd,Qb,Qc,Qe,Qg,Qh,Qi];go_wp2_with fail;refine h.out.mono ?_;rintro r he⟨rfl,cg⟩;have z:=zH (z.out.trans cg);have y:=zH (y.out.ext cg);have ai:=zH (ai.out.ext cg);clear R c1 c2 bc c4 cg h;go_wp2_with fail;go_roundw
  case rel=>exact⟨j+1,_,_,_,by simp,by omega,T,ck.out,fun i h1 ad=>(by by_cases e:i=j;{ simp[e] };{ have:=a1.out i h1 (by omega);simp[e,this] }),y.out,z.out,ai.out⟩
  case measure=>simp[intOf];omega
 have bd:j=4:=(by omega);rw[bd]at a1;clear bd;obtain⟨a,ha⟩:∃r,ah[1]? = some r:=⟨_,Qa (by rw[H.out.len];decide)⟩
 obtain⟨b,hb⟩:∃r,ah[2]? = some r:=⟨_,Qa (by rw[H.out.len];decide)⟩
 obtain⟨c,b7⟩:∃r,ah[3]? = some r:=⟨_,Qa (by rw[H.out.len];decide)⟩
 have cs:=a1.out 1 (by decide) (by decide);obtain⟨T,bv,G,-⟩:=H.out.last ⟨(a1.out 2 (by decide) (by decide)).trans cs.symm,(a1.out 3 (by decide) (by decide)).trans cs.symm⟩ ha hb b7;obtain⟨ea,ae⟩:∃x,zb9 b.s c.s=x:=⟨_,rfl⟩
 obtain⟨d9,b9⟩:∃x,zb9 b.s a.s=x:=⟨_,rfl⟩
 obtain⟨ba,cu⟩:∃x,zb9 a.s ea=x:=⟨_,rfl⟩
 rw[ae,b9]at T;rw[ae]at bv;rw[b9]at G;have gc:=zH (bv.small (by decide));have ge:=zH (G.small (by decide));have f3:Hid (zb9 c.s d9=ba):=zH (by rw[<- T,cu]);have fz:=zH ae;have f0:=zH cu;have f2:=zH b9;have ee:=zH ((H.out.lim (by decide) ha).small (by decide));have ef:=zH ((H.out.lim (by decide) hb).small (by decide));have eg:=zH ((H.out.lim (by decide) b7).small (by decide));have Y:MemX (fun b=>b=g10) wr w.heap.size w.heap.size ch ah u6 ar:=y.out;obtain⟨⟨v1,v2,v3,ff,fg⟩,cd,B⟩:=Y.get ha;obtain⟨⟨c8,hz,h2,h3,h4⟩,ce,cz⟩:=Y.get hb;obtain⟨⟨b0,fn,fo,fp,fq⟩,cf,c0⟩:=Y.get b7;obtain⟨a6,f1,df,bf,dg,bg,rfl,rfl,rfl⟩:=B.st.fm;obtain⟨dh,en,di,eo,dj,ep,rfl,rfl,rfl⟩:=cz.st.fm;obtain⟨eb,bv,ec,G,ed,fd,rfl,rfl,rfl⟩:=c0.st.fm;have d4:=zH B.st;have d5:=zH cz.st;have d6:=zH c0.st;have dk:=zH (fun(W:Xd) (t:Ext wr W)=>(show W.cell? ⟨w.heap.size,5,none⟩=_/\W.cell? ⟨w.heap.size,6,none⟩=_/\W.cell? ⟨w.heap.size,7,none⟩=_ from⟨t.cell (Y.cell (j:=0) cd rfl),t.cell (Y.cell (j:=1) cd rfl),t.cell (Y.cell (j:=2) cd rfl)⟩));have dl:=zH (fun(W:Xd) (t:Ext wr W)=>(show W.cell? ⟨w.heap.size,10,none⟩=_/\W.cell? ⟨w.heap.size,11,none⟩=_/\W.cell? ⟨w.heap.size,12,none⟩=_ from⟨t.cell (Y.cell (j:=0) ce rfl),t.cell (Y.cell (j:=1) ce rfl),t.cell (Y.cell (j:=2) ce rfl)⟩));have dm:=zH (fun(W:Xd) (t:Ext wr W)=>(show W.cell? ⟨w.heap.size,15,none⟩=_/\W.cell? ⟨w.heap.size,16,none⟩=_/\W.cell? ⟨w.heap.size,17,none⟩=_ from⟨t.cell (Y.cell (j:=0) cf rfl),t.cell (Y.cell (j:=1) cf rfl),t.cell (Y.cell (j:=2) cf rfl)⟩));clear ha hb b7 cs T ae cu b9 Y cd ce cf B cz c0 y H a1 P;go_wp2_with fail;refine dt.out _ _ ?_;clear dt;go_wp2_with fail;refine zat [fun v _=>v=Xa (some ⟨w.heap.size,0,none⟩) 4 4,fun v _=>v=Xb (some ⟨w.heap.size,5,none⟩),fun v _=>v=Xb (some ⟨w.heap.size,5,none⟩),fun v _=>v=stV (Xa a6 a.s.all.length f1) (Xa df a.s.entries.length bf) (Xa dg a.s.pruned.length bg),fun v _=>v=Xa (some ⟨w.heap.size,0,none⟩) 4 4,fun v _=>v=Xb (some ⟨w.heap.size,10,none⟩),fun v _=>v=Xb (some ⟨w.heap.size,10,none⟩),fun v _=>v=stV (Xa dh b.s.all.length en) (Xa di b.s.entries.length eo) (Xa dj b.s.pruned.length ep),fun v _=>v=Xa (some ⟨w.heap.size,0,none⟩) 4 4,fun v _=>v=Xb (some ⟨w.heap.size,15,none⟩),fun v _=>v=Xb (some ⟨w.heap.size,15,none⟩),fun v _=>v=stV (Xa eb c.s.all.length bv) (Xa ec c.s.entries.length G) (Xa ed c.s.pruned.length fd),StV ea,StV ba,fun v _=>v=Xa (some ⟨w.heap.size,0,none⟩) 4 4,fun v _=>v=Xb (some ⟨w.heap.size,15,none⟩),fun v _=>v=Xb (some ⟨w.heap.size,15,none⟩),fun v _=>v=stV (Xa eb c.s.all.length bv) (Xa ec c.s.entries.length G) (Xa ed c.s.pruned.length fd),fun v _=>v=Xa (some ⟨w.heap.size,0,none⟩) 4 4,fun v _=>v=Xb (some ⟨w.heap.size,10,none⟩),fun v _=>v=Xb (some ⟨w.heap.size,10,none⟩),fun v _=>v=stV (Xa dh b.s.all.length en) (Xa di b.s.entries.length eo) (Xa dj b.s.pruned.length ep),fun v _=>v=Xa (some ⟨w.heap.size,0,none⟩) 4 4,fun v _=>v=Xb (some ⟨w.heap.size,5,none⟩),fun v _=>v=Xb (some ⟨w.heap.size,5,none⟩),fun v _=>v=stV (Xa a6 a.s.all.length f1) (Xa df a.s.entries.length bf) (Xa dg a.s.pruned.length bg),StV d9,StV ba,fun v _=>v=Xc true] rfl (by kernel_rfl) ?hR ?hstep ?hend
 case hR=>simp only[zM];exact⟨kP,kP,kP,kP,kP,kP,kP,kP,kP,kP,kP,kP,fun v _ _ O t=>O.ext t,fun v _ _ O t=>O.ext t,kP,kP,kP,kP,kP,kP,kP,kP,kP,kP,kP,kP,fun v _ _ O t=>O.ext t,fun v _ _ O t=>O.ext t,kP⟩
 case hstep =>
  simp only[zS,zD,Nat.reduceAdd,zbj]
  and_intros<;>intro x W t f
  ·have h0:x 5=Xa (some ⟨w.heap.size,0,none⟩) 4 4:=f.1;go_wp;exact sQ
  iterate 2 · have h0:_=_:=f.1;go_wp;exact sQ
  ·have h0:_=_:=f.1;obtain⟨R,c1,c2⟩:=dk.out W t;go_wp;exact sQ
  ·have h0:x 5=Xa (some ⟨w.heap.size,0,none⟩) 4 4:=f.1;go_wp;exact sQ
  iterate 2 · have h0:_=_:=f.1;go_wp;exact sQ
  ·have h0:_=_:=f.1;obtain⟨R,c1,c2⟩:=dl.out W t;go_wp;exact sQ
  ·have h0:x 5=Xa (some ⟨w.heap.size,0,none⟩) 4 4:=f.1;go_wp;exact sQ
  iterate 2 · have h0:_=_:=f.1;go_wp;exact sQ
  ·have h0:_=_:=f.1;obtain⟨R,c1,c2⟩:=dm.out W t;go_wp;exact sQ
  ·have h0:_=_:=f.1;have h1:_=_:=f.2.1;have h:=zH (zib (d5.out.ext t) (d6.out.ext t) ef.out eg.out);rw[fz.out]at h;clear f;go_wp;refine h.out.mono ?_;rintro e Q⟨a5,da,db,rfl,a0,aa⟩;dsimp only;go_wp;exact zaa a0.at.sv aa
  ·have h0:_=_:=f.1;obtain⟨dc,b0,de,a5,a6,c8,h1,aq⟩:=f.2.1;have h:=zH (zib (d4.out.ext t) aq ee.out gc.out);rw[f0.out]at h;clear f aq;go_wp;refine h.out.mono ?_;rintro e Q⟨a5,da,db,rfl,a0,aa⟩;dsimp only;go_wp;exact zaa a0.at.sv aa
  ·have h0:x 5=Xa (some ⟨w.heap.size,0,none⟩) 4 4:=f.1;go_wp;exact sQ
  iterate 2 · have h0:_=_:=f.1;go_wp;exact sQ
  ·have h0:_=_:=f.1;obtain⟨R,c1,c2⟩:=dm.out W t;go_wp;exact sQ
  ·have h0:x 5=Xa (some ⟨w.heap.size,0,none⟩) 4 4:=f.1;go_wp;exact sQ
  iterate 2 · have h0:_=_:=f.1;go_wp;exact sQ
  ·have h0:_=_:=f.1;obtain⟨R,c1,c2⟩:=dl.out W t;go_wp;exact sQ
  ·have h0:x 5=Xa (some ⟨w.heap.size,0,none⟩) 4 4:=f.1;go_wp;exact sQ
  iterate 2 · have h0:_=_:=f.1;go_wp;exact sQ
  ·have h0:_=_:=f.1;obtain⟨R,c1,c2⟩:=dk.out W t;go_wp;exact sQ
  ·have h0:_=_:=f.1;have h1:_=_:=f.2.1;have h:=zH (zib (d5.out.ext t) (d4.out.ext t) ef.out ee.out);rw[f2.out]at h;clear f;go_wp;refine h.out.mono ?_;rintro e Q⟨a5,da,db,rfl,a0,aa⟩;dsimp only;go_wp;exact zaa a0.at.sv aa
  ·have h0:_=_:=f.1;obtain⟨dc,b0,de,a5,a6,c8,h1,aq⟩:=f.2.1;have h:=zH (zib (d6.out.ext t) aq eg.out ge.out);rw[f3.out]at h;clear f aq;go_wp;refine h.out.mono ?_;rintro e Q⟨a5,da,db,rfl,a0,aa⟩;dsimp only;go_wp;exact zaa a0.at.sv aa
  obtain⟨g7,fk,g8,h5,g9,w0,h0,fe⟩:=f.1;obtain⟨dc,b0,de,a5,a6,c8,h1,aq⟩:=f.2.1;have h:=zH (zlc fe aq);rw[show zed ba ba=true from sameSt_iff.2 rfl]at h;clear f fe aq;go_wp;refine h.out.mono ?_;rintro e Q⟨rfl,aa⟩;dsimp only;go_wp;exact zaa rfl aa
 case hend=>intro x hj a4 f;have gh:x 231=Xc true:=f.2.2.2.2.2.2.2.2.2.2.2.2.2.2.2.2.2.2.2.2.2.2.2.2.2.2.2.2.1;clear f;simp only[zS,zD,zU,Nat.reduceAdd,List.filterMap_cons,zav,Act.put,gh];have ga:=zH a4;clear a4;go_wp2_with fail;refine(zm6 _).mono ?_;rintro r eh⟨rfl,gt⟩;go_wp2_with fail;go_ret;exact⟨rfl,z.out.trans (ga.out.trans gt)⟩
end
end Go.Proofs.YtaabaflgeljbjaaGreat
