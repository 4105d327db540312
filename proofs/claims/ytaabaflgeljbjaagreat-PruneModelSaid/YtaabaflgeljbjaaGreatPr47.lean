/- gossamerlaw16.Right: the walk. Printed by gen_right.py. -/
import Derived.Test.YtaabaflgeljbjaaGreatPr46
import Derived.Test.YtaabaflgeljbjaaGreatPr30
import Derived.Test.YtaabaflgeljbjaaGreatPr40
set_option linter.unusedVariables false
set_option linter.unusedSimpArgs false
set_option maxRecDepth 100000
set_option maxHeartbeats 40000000
namespace Go.Proofs.YtaabaflgeljbjaaGreat
open Go.Value renaming slice→Xa,pointer→Xb,bool→Xc
open Go.Obj renaming cells→Xd
open Ext renaming refl→Xe
open Nat renaming le_refl→Qa
section
open Go.RowKit Go.Shelf
theorem box5 {W f:World}{T:TypeId}{h i k l m a b c d e:Value}(g:((((((W.alloc (Xd #[h,i,k,l,m] T)).setCell ⟨W.heap.size,0,none⟩ a).setCell ⟨W.heap.size,1,none⟩ b).setCell ⟨W.heap.size,2,none⟩ c).setCell ⟨W.heap.size,3,none⟩ d).setCell ⟨W.heap.size,4,none⟩ e)=f) :
  RowIs f W.heap.size T [a,b,c,d,e] []/\Ext W f:=by
 subst g;have g:=(((((zaf W T [h,i,k,l,m]).set (j:=0) (by simp) a).set (j:=1) (by simp) b).set (j:=2) (by simp) c).set (j:=3) (by simp) d).set (j:=4) (by simp) e;exact⟨g,(((((((Xe W).alloc _).set (p:=⟨W.heap.size,0,none⟩) (Qa _) a).set (p:=⟨W.heap.size,1,none⟩) (Qa _) b).set (p:=⟨W.heap.size,2,none⟩) (Qa _) c).set (p:=⟨W.heap.size,3,none⟩) (Qa _) d).set (p:=⟨W.heap.size,4,none⟩) (Qa _) e)⟩
theorem box2 {W c:World}{T:TypeId}{e f a b:Value}(d:((W.alloc (Xd #[e,f] T)).setCell ⟨W.heap.size,0,none⟩ a).setCell ⟨W.heap.size,1,none⟩ b=c):RowIs c W.heap.size T [a,b] []/\Ext W c:=by
 subst d;have d:=((zaf W T [e,f]).set (j:=0) (by simp) a).set (j:=1) (by simp) b;exact⟨d,((Xe W).alloc _).set (p:=⟨W.heap.size,0,none⟩) (Qa _) a |>.set (p:=⟨W.heap.size,1,none⟩) (Qa _) b⟩
def ygs (a b:Bool)(i:Nat):List Str:=ygt (a&&decide (1<=i)) (b&&decide (2<=i))
theorem yif {E:List Ev}{V:Vec}{s:State}{an:List Mark}{F S S':Nat->Prop}{v1 v2 v3 bq br bp:Value}{w:World}(be:HistOk E)(a3:StAt w F s v1 v2 v3)(a6:SmallS s)(bj:mayS s=true)(az:Sl evT w S bp E)(ao:Sl zvd w S' bq (E.map (zao V)))(bm:Sl markT w F br an)(hk:∀k,(atE s.entries k).key=k)(h1:zb7 (atE s.entries keyN).counts=sumM V E)(R:∀a b:Bool,(a=true↔yg2 E V [97])->(b=true↔yg2 E V [98])->zdo (atE s.entries keyA).items=ygt a b)(bd:∀j,ygw E V E.length j->zio (atE s.entries keyC).cell=yhr E j) :
  Calls Tryz.prog 24 #[.agg #[v1,v2,v3,bq,br],bp] w fun r w'=>r=.returned (Xc true)/\Ext w w':=by
 obtain⟨aa,J,ab⟩:=s;obtain⟨M,U,N,X,O,Y,rfl,rfl,rfl⟩:=a3.fm;obtain⟨cb,ci,rfl,-,-⟩:=az.form;obtain⟨av,a4,rfl,-,-⟩:=ao.form;obtain⟨aw,a5,rfl,-,-⟩:=bm.form;rw[List.length_map]at ao ⊢;have ag:=(Xe w).alloc (Xd #[Xa M aa.length U,Xa N J.length X,Xa O ab.length Y,Xa av E.length a4,Xa aw an.length a5] 75);have g:=zH (zaf w 75 [Xa M aa.length U,Xa N J.length X,Xa O ab.length Y,Xa av E.length a4,Xa aw an.length a5]);have o:=zH (a3.ext ag);have ay:=zH (yjv (V:=V) be (az.ext (by decide) ag) (ao.ext (by decide) ag));have bb:=zH a6;have bw:=zH a6;have bv:=zH bj;have bt:=zH hk;have bs:=zH h1;have a7:=zH R;have a8:=zH bd;have t:=zH ag;clear be a3 a6 bj az ao bm hk h1 R bd ag;have ae:=g.out.cell (j:=3) rfl;go_enter Tryz.func24,Tryz.ntmps24;refine wpH ?_;intro K m;go_wp;refine m.out _ _ ?_;clear m K;obtain⟨cc,bf⟩:∃y,w.alloc (Xd #[Xa M aa.length U,Xa N J.length X,Xa O ab.length Y,Xa av E.length a4,Xa aw an.length a5] 75)=y:=⟨_,rfl⟩
 rw[bf]at g o ay t ae ⊢;clear bf;obtain⟨Z,b7⟩:∃r,w.heap.size=r:=⟨_,rfl⟩
 rw[b7]at g ae ⊢;refine wpH ?_;intro K m;go_wp2_with fail;refine ay.out.mono ?_;rintro r aj⟨a,b,tx,is,rfl,bn,bo,⟨j,bh,bi⟩,ar⟩;have bx:=zH (a7.out a b bn bo);have a9:=zH ((a8.out j bh).trans bi.symm);have g:=zH (g.out.ext ar);have o:=zH (o.out.ext ar);have t:=zH (t.out.trans ar);clear a7 a8 bn bo bh bi ar ay ae;go_wp2_with fail;refine m.out _ _ ?_;clear m K;have h:=(Xe aj).alloc (Xd #[Xc a,Xc b] 125);have ai:=zH (zaf aj 125 [Xc a,Xc b]);have g:=zH (g.out.ext h);have o:=zH (o.out.ext h);have t:=zH (t.out.trans h);obtain⟨B,D⟩:∃y,aj.alloc (Xd #[Xc a,Xc b] 125)=y:=⟨_,rfl⟩
 rw[D]at ai g o t h ⊢;clear D;obtain⟨cd,G⟩:∃r,aj.heap.size=r:=⟨_,rfl⟩
 rw[G]at ai ⊢;clear G h;refine wpH ?_;intro K m;go_wp2_with fail;refine m.out _ _ ?_;clear m K;refine wpH ?_;intro K m;go_wp2_with fail
 go_loopw [9,10] (fun l i wr=>∃T:Nat,i=I T/\T<=2/\Own wr B.heap.size 9 1 l (ygs a b T).length ((ygs a b T).flatMap strC)/\Ext B wr) (fun _ i _=>2-(intOf i).toNat)
 case atStart=>exact⟨0,rfl,by omega,by have C:ygs a b 0 = []:=(by cases a<;>cases b<;>rfl);rw[C];exact Own.nil _ _ _ _ _,Xe _⟩
 obtain⟨T,rfl,ce,bk,aq⟩:=hrel;have hb:=ai.out.ext aq;have bz:=hb.cell (j:=0) rfl;have b0:=hb.cell (j:=1) rfl;have L:=zH bk;have Q:=zH aq;have b9:=aq.size;obtain⟨ah,au,rfl,cf,cg⟩:=bk.form;clear aq hb;rcases(show T=0 ∨ T=1 ∨ T=2 by omega)with rfl|rfl|rfl
 ·cases a
  case false=>
   have C:ygs false b 1=ygs false b 0:=by cases b<;>rfl
   go_wp2_with fail;go_roundw
   case rel=>exact⟨1,rfl,by omega,by rw[C];exact L.out,Q.out⟩
   case measure=>simp[intOf]
  have b5:(convert 90 9 (Xa (some ⟨wr.heap.size,0,none⟩) 1 1)).run Tryz.prog (wr.alloc (Xd #[.int .u8 97] 5))=.ok (St [97]) (wr.alloc (Xd #[.int .u8 97] 5)):=zvi (n:=97) ((zaf wr 5 [.int .u8 97]).cell (j:=0) rfl);have C:ygs true b 1=ygs true b 0++[[97]]:=by cases b<;>rfl
  have b6:(ygs true b 0).length<=2:=by cases b<;>decide
  go_wp2_with (at_builtin;refine zal rfl (.tmp 30) (.tmp 36) 24 rfl B.heap.size 9 1 16 (St []) Tryz.underlying24 zd7 rfl (by omega) _ (ygs true b 0).length ((ygs true b 0).flatMap strC) rfl ((L.out.alloc _).alloc _) _ 1 1 [St [97]] rfl (Src.newAt (by simp) rfl (by intro u af;simp at af;subst af;rfl)) (by omega) (by omega) (by simp;omega) ?_;intro v' w' a2 a0)
  go_roundw
  case rel=>exact⟨1,rfl,by omega,by rw[C,List.length_append,List.flatMap_append];exact a2,Ext.grewOwn ((Q.out.alloc _).alloc _) a0 ((L.out.alloc _).alloc _) (Qa _)⟩
  case measure=>simp[intOf]
 ·cases b
  case false=>
   have C:ygs a false 2=ygs a false 1:=by cases a<;>rfl
   go_wp2_with fail;go_roundw
   case rel=>exact⟨2,rfl,by omega,by rw[C];exact L.out,Q.out⟩
   case measure=>simp[intOf]
  have b5:(convert 90 9 (Xa (some ⟨wr.heap.size,0,none⟩) 1 1)).run Tryz.prog (wr.alloc (Xd #[.int .u8 98] 5))=.ok (St [98]) (wr.alloc (Xd #[.int .u8 98] 5)):=zvi (n:=98) ((zaf wr 5 [.int .u8 98]).cell (j:=0) rfl);have C:ygs a true 2=ygs a true 1++[[98]]:=by cases a<;>rfl
  have b6:(ygs a true 1).length<=2:=by cases a<;>decide
  go_wp2_with (at_builtin;refine zal rfl (.tmp 30) (.tmp 36) 24 rfl B.heap.size 9 1 16 (St []) Tryz.underlying24 zd7 rfl (by omega) _ (ygs a true 1).length ((ygs a true 1).flatMap strC) rfl ((L.out.alloc _).alloc _) _ 1 1 [St [98]] rfl (Src.newAt (by simp) rfl (by intro u af;simp at af;subst af;rfl)) (by omega) (by omega) (by simp;omega) ?_;intro v' w' a2 a0)
  go_roundw
  case rel=>exact⟨2,rfl,by omega,by rw[C,List.length_append,List.flatMap_append];exact a2,Ext.grewOwn ((Q.out.alloc _).alloc _) a0 ((L.out.alloc _).alloc _) (Qa _)⟩
  case measure=>simp[intOf]
 have R:ygs a b 2=ygt a b:=by cases a<;>cases b<;>rfl
 rw[R]at L ⊢;have ba:=zH (zjq L.out);have g:=zH (g.out.ext Q.out);have o:=zH (o.out.ext Q.out);have t:=zH (t.out.trans Q.out);clear Q L bz b0 b9 ai;go_wp2_with fail;refine m.out _ _ ?_;clear m;refine wpH ?_;intro K m;go_wp2_with fail;refine m.out _ _ ?_;clear m K;have h:=(Xe wr).alloc (Xd #[.int .u8 1,I (sumM V E),Xa none 0 0,St [],Xc false] 51);have z:=zH (zaf wr 51 [.int .u8 1,I (sumM V E),Xa none 0 0,St [],Xc false]);have g:=zH (g.out.ext h);have o:=zH (o.out.ext h);have t:=zH (t.out.trans h);have P:=zH h;obtain⟨ak,D⟩:∃y,wr.alloc (Xd #[.int .u8 1,I (sumM V E),Xa none 0 0,St [],Xc false] 51)=y:=⟨_,rfl⟩
 rw[D]at z g o t h P ⊢;clear D;obtain⟨b1,G⟩:∃r,wr.heap.size=r:=⟨_,rfl⟩
 rw[G]at z ⊢;clear G h
 skip
 refine wpH ?_;intro K m;go_wp2_with fail;refine m.out _ _ ?_;clear m K;have h:=(Xe ak).alloc (Xd #[.int .u8 2,I 0,Xa ah (ygt a b).length au,St [],Xc false] 51);have H:=zH (zaf ak 51 [.int .u8 2,I 0,Xa ah (ygt a b).length au,St [],Xc false]);have g:=zH (g.out.ext h);have o:=zH (o.out.ext h);have z:=zH (z.out.ext h);have t:=zH (t.out.trans h);have P:=zH (P.out.trans h);obtain⟨al,D⟩:∃y,ak.alloc (Xd #[.int .u8 2,I 0,Xa ah (ygt a b).length au,St [],Xc false] 51)=y:=⟨_,rfl⟩
 rw[D]at H g o z t h P ⊢;clear D;obtain⟨b2,G⟩:∃r,ak.heap.size=r:=⟨_,rfl⟩
 rw[G]at H ⊢;clear G h;refine wpH ?_;intro K m;go_wp2_with fail;refine m.out _ _ ?_;clear m K;have h:=(Xe al).alloc (Xd #[.int .u8 3,I 0,Xa none 0 0,St tx,Xc is] 51);have ac:=zH (zaf al 51 [.int .u8 3,I 0,Xa none 0 0,St tx,Xc is]);have g:=zH (g.out.ext h);have o:=zH (o.out.ext h);have z:=zH (z.out.ext h);have H:=zH (H.out.ext h);have t:=zH (t.out.trans h);have P:=zH (P.out.trans h);obtain⟨am,D⟩:∃y,al.alloc (Xd #[.int .u8 3,I 0,Xa none 0 0,St tx,Xc is] 51)=y:=⟨_,rfl⟩
 rw[D]at ac g o z H t h P ⊢;clear D;obtain⟨b3,G⟩:∃r,al.heap.size=r:=⟨_,rfl⟩
 rw[G]at ac ⊢;clear G h;obtain⟨bc,bg⟩:∃c,(atE J keyC).cell=c:=⟨_,rfl⟩
 have a1:=bt.out;have bu:=zH (fun(y:World) (d:Ext am y)=>ba.out.ext (by decide) (P.out.trans d));rw[bg]at a9;have ax:Hid (∀(y:World) (k:Str),Ext am y->Calls Tryz.prog 19 #[(stV (Xa M aa.length U) (Xa N J.length X) (Xa O ab.length Y)),St k] y fun r w'=>∃v,r=.returned v/\ValAt w' y.heap.size (atE J k) v/\Ext y w'):=zH fun y k d=>zzy k (o.out.ext d) (fun e d=>bb.out.each e d)
 clear bb ba;refine wpH ?_;intro K m;refine zat [fun v _=>v=Xb (some ⟨Z,0,none⟩),fun v _=>v=(stV (Xa M aa.length U) (Xa N J.length X) (Xa O ab.length Y)),fun v _=>v=.iface 2 (I (sumM V E)),fun v _=>v=.agg #[.int .u8 1,I (sumM V E),Xa none 0 0,St [],Xc false],fun v _=>v=Xc true,fun v _=>v=Xc true,fun v _=>v=Xb (some ⟨Z,0,none⟩),fun v _=>v=(stV (Xa M aa.length U) (Xa N J.length X) (Xa O ab.length Y)),fun v W=>∃s,v=.iface 24 s/\Own W am.heap.size 9 1 s (ygt a b).length ((ygt a b).flatMap strC),fun v _=>v=.agg #[.int .u8 2,I 0,Xa ah (ygt a b).length au,St [],Xc false],fun v _=>v=Xc true,fun v _=>v=Xc true,fun v _=>v=Xc true,fun v _=>v=Xb (some ⟨Z,0,none⟩),fun v _=>v=(stV (Xa M aa.length U) (Xa N J.length X) (Xa O ab.length Y)),fun v _=>v=zkd bc,fun v _=>v=.agg #[.int .u8 3,I 0,Xa none 0 0,St tx,Xc is],fun v _=>v=Xc true,fun v _=>v=Xc true,fun v _=>v=Xc true,fun v _=>v=Xb (some ⟨Z,0,none⟩),fun v _=>v=(stV (Xa M aa.length U) (Xa N J.length X) (Xa O ab.length Y)),fun v _=>v=Xc true,fun v _=>v=Xc true] rfl (by kernel_rfl) ?hR ?hstep ?hend
 case hR=>simp only[zM];exact⟨kP,kP,kP,kP,kP,kP,kP,kP,fun v _ _ C d=>by obtain⟨s,h1,R⟩:=C;exact⟨s,h1,R.ext d⟩,kP,kP,kP,kP,kP,kP,kP,kP,kP,kP,kP,kP,kP,kP,kP⟩
 case hstep =>
  simp only[zS,zD,Nat.reduceAdd,zbj]
  and_intros<;>intro x W d f
  ·have h0:x 2=Xb (some ⟨Z,0,none⟩):=f.1;go_wp;exact sQ
  ·have h0:_=_:=f.1;have ad:=(g.out.ext d).cell (j:=0) rfl;have c1:=(g.out.ext d).cell (j:=1) rfl;have c2:=(g.out.ext d).cell (j:=2) rfl;go_wp;exact sQ
  ·have h0:_=_:=f.1;have q:=zH (ax.out W keyN d);rw[show keyN = [35,110]from rfl]at q;go_wp;refine q.out.mono ?_;rintro r B⟨v,rfl,p,A⟩;rw[<- show keyN = [35,110]from rfl]at p;unfold ValAt at p;rw[a1 keyN,show zas keyN=1 from by kernel_rfl]at p;simp only[if_true]at p;rw[bs.out]at p;subst p;dsimp only;go_wp;exact zaa rfl A
  ·have h0:x 11=Xb (some ⟨b1,0,none⟩):=f.1;have ad:=(z.out.ext d).cell (j:=0) rfl;have c1:=(z.out.ext d).cell (j:=1) rfl;have c2:=(z.out.ext d).cell (j:=2) rfl;have ae:=(z.out.ext d).cell (j:=3) rfl;have c4:=(z.out.ext d).cell (j:=4) rfl;go_wp;exact sQ
  ·have h0:_=_:=f.1;have h1:_=_:=f.2.1;have q:=zH (ykr (sumM V E) (sumM V E) none 0 0 [] false W);go_wp;refine q.out.mono ?_;rintro r B⟨rfl,A⟩;dsimp only;go_wp;exact zaa (by simp) A
  ·have h0:_=_:=f.1;go_wp;exact sQ
  ·have h0:x 2=Xb (some ⟨Z,0,none⟩):=f.1;have h1:_=_:=f.2.1;go_wp;exact sQ
  ·have h0:_=_:=f.1;have h1:_=_:=f.2.1;have ad:=(g.out.ext d).cell (j:=0) rfl;have c1:=(g.out.ext d).cell (j:=1) rfl;have c2:=(g.out.ext d).cell (j:=2) rfl;go_wp;exact sQ
  ·have h0:_=_:=f.1;have h1:_=_:=f.2.1;have q:=zH (ax.out W keyA d);rw[show keyA = [64,115]from rfl]at q;go_wp;refine q.out.mono ?_;rintro r B⟨v,rfl,p,A⟩;rw[<- show keyA = [64,115]from rfl]at p;unfold ValAt at p;rw[a1 keyA,show zas keyA=2 from by kernel_rfl]at p;rw[zN (by decide),zP rfl]at p;rw[bx.out]at p;obtain⟨s,rfl,ap⟩:=p;have b8:=d.size;dsimp only;go_wp;exact zaa (v:=.iface 24 s) ⟨s,rfl,ap.lower b8⟩ A
  ·have h0:x 12=Xb (some ⟨b2,0,none⟩):=f.1;have h1:_=_:=f.2.1;have ad:=(H.out.ext d).cell (j:=0) rfl;have c1:=(H.out.ext d).cell (j:=1) rfl;have c2:=(H.out.ext d).cell (j:=2) rfl;have ae:=(H.out.ext d).cell (j:=3) rfl;have c4:=(H.out.ext d).cell (j:=4) rfl;go_wp;exact sQ
  ·obtain⟨s,h0,ap⟩:∃s,x 53=.iface 24 s/\Own W am.heap.size 9 1 s (ygt a b).length ((ygt a b).flatMap strC):=f.1;obtain⟨ca,ch,rfl,-,-⟩:=ap.form;have h1:_=_:=f.2.1;have R:_=_:=f.2.2.1;have q:=zH (yks (zjq ap) (bu.out W d) [] false 0);go_wp;refine q.out.mono ?_;rintro r B⟨rfl,A⟩;dsimp only;go_wp;exact zaa (by simp) A
  ·have h0:_=_:=f.1;have h1:_=_:=f.2.1;go_wp;exact sQ
  ·have h0:_=_:=f.1;go_wp;exact sQ
  ·have h0:x 2=Xb (some ⟨Z,0,none⟩):=f.1;have h1:_=_:=f.2.1;go_wp;exact sQ
  ·have h0:_=_:=f.1;have h1:_=_:=f.2.1;have ad:=(g.out.ext d).cell (j:=0) rfl;have c1:=(g.out.ext d).cell (j:=1) rfl;have c2:=(g.out.ext d).cell (j:=2) rfl;go_wp;exact sQ
  ·have h0:_=_:=f.1;have h1:_=_:=f.2.1;have q:=zH (ax.out W keyC d);rw[show keyC = [61,99]from rfl]at q;go_wp;refine q.out.mono ?_;rintro r B⟨v,rfl,p,A⟩;rw[<- show keyC = [61,99]from rfl]at p;unfold ValAt at p;rw[a1 keyC,show zas keyC=3 from by kernel_rfl]at p;rw[zN (by decide),zN (by decide),zP rfl,bg]at p;subst p;dsimp only;go_wp;exact zaa rfl A
  ·have h0:x 13=Xb (some ⟨b3,0,none⟩):=f.1;have h1:_=_:=f.2.1;have ad:=(ac.out.ext d).cell (j:=0) rfl;have c1:=(ac.out.ext d).cell (j:=1) rfl;have c2:=(ac.out.ext d).cell (j:=2) rfl;have ae:=(ac.out.ext d).cell (j:=3) rfl;have c4:=(ac.out.ext d).cell (j:=4) rfl;go_wp;exact sQ
  ·have h0:_=_:=f.1;have h1:_=_:=f.2.1;have R:_=_:=f.2.2.1;have q:=zH (ykp bc 0 none 0 0 W);rw[a9.out]at q;go_wp;refine q.out.mono ?_;rintro r B⟨rfl,A⟩;dsimp only;go_wp;exact zaa (by simp) A
  ·have h0:_=_:=f.1;have h1:_=_:=f.2.1;go_wp;exact sQ
  ·have h0:_=_:=f.1;go_wp;exact sQ
  ·have h0:x 2=Xb (some ⟨Z,0,none⟩):=f.1;have h1:_=_:=f.2.1;go_wp;exact sQ
  ·have h0:_=_:=f.1;have h1:_=_:=f.2.1;have ad:=(g.out.ext d).cell (j:=0) rfl;have c1:=(g.out.ext d).cell (j:=1) rfl;have c2:=(g.out.ext d).cell (j:=2) rfl;go_wp;exact sQ
  ·have h0:_=_:=f.1;have h1:_=_:=f.2.1;have q:=zH (zng (o.out.ext d) bw.out);rw[bv.out]at q;go_wp;refine q.out.mono ?_;rintro r B⟨rfl,A⟩;dsimp only;go_wp;exact zaa (by simp) A
  have h0:_=_:=f.1;have h1:_=_:=f.2.1;go_wp;exact sQ
 case hend=>intro x W d f;have b4:x 68=Xc true:=f.2.2.2.2.2.2.2.2.2.2.2.2.2.2.2.2.2.2.2.2.2.2.2.1;clear f;simp only[zS,zD,zU,Nat.reduceAdd,List.filterMap_cons,zav,Act.put,b4];go_wp;refine m.out _ _ ?_;clear m;go_wp2_with fail;go_ret;exact⟨rfl,t.out.trans d⟩
end
end Go.Proofs.YtaabaflgeljbjaaGreat
