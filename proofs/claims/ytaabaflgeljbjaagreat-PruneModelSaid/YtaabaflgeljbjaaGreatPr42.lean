/- Laws. -/
import Derived.Test.YtaabaflgeljbjaaGreatPr40
import Derived.Test.YtaabaflgeljbjaaGreatPr37
import Derived.Test.YtaabaflgeljbjaaGreatPr39
import Derived.Test.YtaabaflgeljbjaaGreatPr26
set_option linter.unusedVariables false
set_option linter.unusedSimpArgs false
set_option maxRecDepth 100000
set_option maxHeartbeats 40000000
namespace Go.Proofs.YtaabaflgeljbjaaGreat
open Go.Value renaming slice→Xa,pointer→Xb,bool→Xc
open Go renaming World→Xd,Value→Xe
open Nat renaming reduceAdd→Qa
section
open Go.RowKit Go.Shelf
theorem ybj {W:Xd}{g T:Nat}{a b c d x y z u:Xe}(e:RowIs W g T [a,b,c,d] []):RowIs ((((W.setCell ⟨g,0,none⟩ x).setCell ⟨g,1,none⟩ y).setCell ⟨g,2,none⟩ z).setCell ⟨g,3,none⟩ u) g T [x,y,z,u] []:=by
 have h0:=e.set (j:=0) (Nat.succ_pos _) x;have h1:=h0.set (j:=1) (by simp) y;have f:=h1.set (j:=2) (by simp) z;exact f.set (j:=3) (by simp) u
def StV (s:State)(v:Xe)(W:Xd):Prop:=∃C1 x1 C2 x2 C3 x3,v=stV (Xa C1 s.all.length x1) (Xa C2 s.entries.length x2) (Xa C3 s.pruned.length x3)/\StAt W (fun _=>True) s (Xa C1 s.all.length x1) (Xa C2 s.entries.length x2) (Xa C3 s.pruned.length x3)
theorem StV.ext {s:State}{v:Xe}{W b:Xd}(a:StV s v W)(g:Ext W b):StV s v b:=by
 obtain⟨c,h,d,i,f,j,e,a⟩:=a;exact⟨c,h,d,i,f,j,e,a.ext g⟩
theorem StAt.sv {S:Nat->Prop}{s:State}{v1 v2 v3:Xe}{W:Xd}(a:StAt W S s v1 v2 v3):StV s (stV v1 v2 v3) W:=by
 obtain⟨b,e,c,f,d,g,rfl,rfl,rfl⟩:=a.fm;exact⟨b,e,c,f,d,g,rfl,a.mono fun _ _ _=>trivial⟩
def SlS (s:State)(i:Nat)(st:Nat->Option Xe)(W:Xd):Prop:=∀v,st i=some v->StV s v W
theorem SlS.ext {s:State}{i:Nat}{st:Nat->Option Xe}{W a:Xd}(b:SlS s i st W)(c:Ext W a):SlS s i st a:=fun v d=>(b v d).ext c
theorem SlS.other {s:State}{i j:Nat}{st:Nat->Option Xe}{u:Xe}{W:Xd}(b:i≠j)(a:SlS s i st W):SlS s i (zfo st j u) W:=fun v c=>a v (by rwa[zah st _ b]at c)
theorem SlS.set {s:State}{i:Nat}{st:Nat->Option Xe}{v:Xe}{W:Xd}(b:StV s v W):SlS s i (zfo st i v) W:=fun u a=>by rw[zb2]at a;cases a;exact b
theorem yh1 {Q:Nat->Prop}{E:List Ev}{rs:List Rep}{vs:List RepV}{ai:Xe}{base R k:Nat}{i:PrD}{r:Rep}{d:State}{W:Xd}(af:MemX Q W base R vs rs ai E)(hk:k<4)(H:rs[k]? = some r)(ar:SmallS r.s)(a9:zbh r.s i=(d,0))(ha:d.all=zau r.s.all i.1) :
  Calls Tryz.prog 23 #[Xa (some ⟨R,0,none⟩) 4 4,I k,prV i] W fun e ay=>∃bu,e=.returned (Xc true)/\MemX Q ay base R bu (rs.set k { r with s:=d }) ai E/\BelowX Q base W ay:=by
 have V:=(Ext.refl W).alloc (.cells #[St i.1,U i.2.1,St i.2.2.1,U i.2.2.2] 29);have u:=zH (zaf W 29 (prC i));have M:=zH (ygp (BelowX.refl base af.ltX) af.bl V);have h:=zH (af.ext V);have bh:=zH a9;have bd:=zH ha;have bm:=zH ar;have bn:=zH (Nat.le_trans ar.all (show 549755813888<=1099511627776 by decide));have bi:=zH H;obtain⟨⟨v1,v2,v3,b2,b3⟩,ab,aq⟩:=h.out.get H;obtain⟨aj,a1,au,a2,av,a3,rfl,rfl,rfl⟩:=aq.st.fm;have L:=zH ab;have Z:=zH aq.st;clear af a9 ha ar H ab aq V;go_enter Tryz.func23,Tryz.ntmps23;obtain⟨z,ao⟩:∃g,W.heap.size=g:=⟨_,rfl⟩
 obtain⟨ae,ag⟩:∃l,W.alloc (.cells #[St i.1,U i.2.1,St i.2.2.1,U i.2.2.2] 29)=l:=⟨_,rfl⟩
 have u:Hid (RowIs ae z 29 (prC i) []):=zH (by rw[<- ag,<- ao];exact u.out);rw[ag]at M h Z;have N:=zH (fun(l:Xd) (a:Ext ae l)=>(show l.cell? ⟨R,k * 5,none⟩=some (Xa aj r.s.all.length a1)/\l.cell? ⟨R,k * 5+1,none⟩=some (Xa au r.s.entries.length a2)/\l.cell? ⟨R,k * 5+2,none⟩=some (Xa av r.s.pruned.length a3)from⟨a.cell (h.out.cell (j:=0) L.out rfl),a.cell (h.out.cell (j:=1) L.out rfl),a.cell (h.out.cell (j:=2) L.out rfl)⟩));go_wp2_with fail
 (try rw[ao])
 (try rw[ag])
 clear ao ag;rename_i K hK;have F:=zH hK;clear hK;refine zc7 [some fun v=>v=Xa (some ⟨R,0,none⟩) 4 4,some fun v=>v=I k,some fun v=>v=Xb (some ⟨R,k * 5,none⟩),some fun v=>v=Xb (some ⟨R,k * 5,none⟩),some fun v=>v=stV (Xa aj r.s.all.length a1) (Xa au r.s.entries.length a2) (Xa av r.s.pruned.length a3),some fun v=>v=prV i,none,none,none,some fun v=>v=I 0,none,none] (fun st w'=>BoxK ae.heap.size 26 zol (CSt ae.heap.size d) (tupS 0) agS 6 7 8 10 11 st w') rfl (by kernel_rfl) ?hK ?h0 ?hstep ?hend
 case hK=>exact fun st w w' G a=>G.ext CSt.keep a
 case h0=>exact BoxK.start _
 case hstep =>
  simp only[zS,zD,Qa,zew,zf6]
  and_intros<;>intro x W st a hK
  ·intro f;have h0:x 0=Xa (some ⟨R,0,none⟩) 4 4:=f.1;clear hK;go_wp;exact sQ
  ·intro f;have h0:x 1=I k:=f.1;clear hK;go_wp;exact sQ
  ·intro f;have h0:_=_:=f.1;have h1:_=_:=f.2.1;clear hK;go_wp;exact sQ
  ·intro f;have h0:_=_:=f.1;clear hK;go_wp;exact sQ
  ·intro f;have h0:_=_:=f.1;clear hK;obtain⟨az,c1,c2⟩:=N.out W a;go_wp;exact sQ
  ·intro f;have h0:_=_:=f.1;clear hK;have d0:=(u.out.ext a).cell (j:=0) rfl;have d1:=(u.out.ext a).cell (j:=1) rfl;have al:=(u.out.ext a).cell (j:=2) rfl;have am:=(u.out.ext a).cell (j:=3) rfl;go_wp;exact sQ
  ·intro n f;have h0:_=_:=f.1;have h1:_=_:=f.2.1;have J:=zH (ziv i (Z.out.ext a) bm.out);rw[bh.out]at J;have o:=zH hK;clear hK f;go_wp;refine J.out.mono ?_;rintro r l⟨bz,b0,b1,rfl,ap,X⟩;obtain⟨p,B,q,C,t,D,rfl,rfl,rfl⟩:=ap.fm;have bg:=zH ap;clear ap;dsimp only;go_wp;exact za2 ⟨o.out.call (xs:=[Xa p d.all.length B,Xa q d.entries.length C,Xa t d.pruned.length D]) (by decide) n X a.size ⟨p,B,q,C,t,D,rfl,bg.out.mono fun b hb G=>⟨⟨G,hb⟩,Nat.le_trans a.size G⟩⟩,a.trans X⟩
  ·intro n f;have h0:st 6=some (x 16):=f.1;have o:=zH (hK.move (by decide) h0);clear hK;go_wp;exact za2 ⟨o.out,a⟩
  ·intro n f;have h0:st 7=some (x 9):=f.1;obtain⟨xs,S,ab,⟨p,B,q,C,t,D,rfl,-⟩,aa⟩:=hK.part (by decide) h0;have o:=zH aa;clear hK aa;go_wp;exact za2 ⟨o.out,a⟩
  ·intro f;have h0:st 7=some (x 9):=f.1;obtain⟨xs,S,ab,⟨p,B,q,C,t,D,rfl,-⟩,aa⟩:=hK.part (by decide) h0;have o:=zH aa;clear hK aa;go_wp;exact sQ
  ·intro n f;have o:=zH hK;clear hK;go_wp;exact za2 ⟨o.out.alloc CSt.keep (by decide) n a.size,a.alloc _⟩
  intro n f;have h0:st 10=some (x 7):=f.1;have h1:st 8=some (x 17):=f.2.1;obtain⟨xs,S,z,ab,bv,an,H,⟨p,B,q,C,t,D,rfl,-⟩,a8⟩:=hK.store CSt.keep (by decide) h1 h0 n;obtain⟨r0,r1,bx⟩:=H.p3;obtain⟨b4,b5,b6⟩:=H.q3;have a7:=a8 (((W.setCell ⟨z,0,none⟩ (Xa p d.all.length B)).setCell ⟨z,1,none⟩ (Xa q d.entries.length C)).setCell ⟨z,2,none⟩ (Xa t d.pruned.length D)) (Xc true) (zi0 H) (Nat.le_of_eq (zjl W z (Xa p d.all.length B) (Xa q d.entries.length C) (Xa t d.pruned.length D)).symm) (fun y bs=>zht W z (Xa p d.all.length B) (Xa q d.entries.length C) (Xa t d.pruned.length D) y bs);have bc:=zi1 a an (Xa p d.all.length B) (Xa q d.entries.length C) (Xa t d.pruned.length D);have o:=zH a7;have bk:=zH bc;clear hK a8 a7 bc H h0 h1;go_wp;exact za2 (v:=Xc true) ⟨o.out,bk.out⟩
 case hend =>
  intro x bo st V hK n f;have a6:st 10=some (x 7):=f.2.2.2.2.2.2.2.2.2.2.1;have a0:x 18=I 0:=f.2.2.2.2.2.2.2.2.2.1;obtain⟨xs,S,a5,a4,an,ba,⟨ak,d1,aw,al,ax,am,rfl,bb⟩,br⟩:=hK.done a6 (n 11 (show 11<12 by decide) rfl);have ac:=zH ba;have ad:=zH (bb.mono (S':=ygq Q R vs ai) fun b _ hb=>h.out.free_new hb.2);have O:=zH V;clear hK n f ba bb br a6 V;simp only[zS,zD,zU,Qa,List.filterMap_cons,zav,Act.put,a4,a0];go_wp;refine F.out _ _ ?_;clear F K a4 a0;have u:=zH (u.out.ext O.out);have M:=zH (ygp M.out h.out.bl O.out);have h:=zH (h.out.ext O.out);have Z:=zH (Z.out.ext O.out);have N:=zH (fun(l:Xd) (a:Ext bo l)=>N.out l (O.out.trans a));clear O an;refine wpH ?_;intro K F;refine wpH ?_;intro K F;refine zat [fun v _=>v=I 0,fun v _=>v=Xc false,fun v _=>v=Xc false,fun v _=>v=Xb (some ⟨a5,0,none⟩),fun v _=>v=Xa ak d.all.length d1,fun v _=>v=Xa (some ⟨R,0,none⟩) 4 4,fun v _=>v=I k,fun v _=>v=Xb (some ⟨R,k * 5,none⟩),fun v _=>v=Xb (some ⟨R,k * 5,none⟩),fun v _=>v=Xb (some ⟨R,k * 5,none⟩),fun v _=>v=Xa aj r.s.all.length a1,fun v _=>v=Xb (some ⟨z,0,none⟩),fun v _=>v=St i.1,fun v W=>∃A c,v=Xa A (zau r.s.all i.1).length c/\Sl markT W (fun _=>True) (Xa A (zau r.s.all i.1).length c) (zau r.s.all i.1),fun v _=>v=Xc true,fun v _=>v=Xc false] rfl (by kernel_rfl) ?hR ?hstep ?hend
  case hR=>simp only[zM];exact⟨kP,kP,kP,kP,kP,kP,kP,kP,kP,kP,kP,kP,kP,fun v _ _ G a=>by obtain⟨A,c,e,G⟩:=G;exact⟨A,c,e,G.ext (by decide) a⟩,kP,kP⟩
  case hstep =>
   simp only[zS,zD,Qa,zbj]
   and_intros<;>intro x W a f
   ·have h0:x 8=I 0:=f.1;go_wp;exact sQ
   iterate 2 · have h0:_=_:=f.1;go_wp;exact sQ
   ·have m:_=_:=f.2.1;have h0:x 7=Xb (some ⟨a5,0,none⟩):=f.1;go_wp;exact sQ
   ·have m:_=_:=f.2.1;have h0:_=_:=f.1;have bt:=(ac.out.ext a).cell (j:=0) rfl;go_wp;exact sQ
   ·have m:_=_:=f.2.1;have h0:x 0=Xa (some ⟨R,0,none⟩) 4 4:=f.1;go_wp;exact sQ
   ·have m:_=_:=f.2.1;have h0:x 1=I k:=f.1;go_wp;exact sQ
   ·have m:_=_:=f.2.2.1;have h0:_=_:=f.1;have h1:_=_:=f.2.1;go_wp;exact sQ
   ·have m:_=_:=f.2.1;have h0:_=_:=f.1;go_wp;exact sQ
   ·have m:_=_:=f.2.1;have h0:_=_:=f.1;go_wp;exact sQ
   ·have m:_=_:=f.2.1;have h0:_=_:=f.1;obtain⟨az,c1,c2⟩:=N.out W a;go_wp;exact sQ
   ·have m:_=_:=f.2.1;have h0:x 5=Xb (some ⟨z,0,none⟩):=f.1;go_wp;exact sQ
   ·have m:_=_:=f.2.1;have h0:_=_:=f.1;have d0:=(u.out.ext a).cell (j:=0) rfl;go_wp;exact sQ
   ·have m:_=_:=f.2.2.1;have h0:_=_:=f.1;have h1:_=_:=f.2.1;have m:_=_:=f.2.2.1;have J:=zH (zkr i.1 (Z.out.all.ext (by decide) a) bn.out);go_wp;refine J.out.mono ?_;rintro e l⟨v2,rfl,n,X⟩;have T:=(zbb n).mono (S':=fun _=>True) (by decide) fun _ _ _=>trivial
    obtain⟨A,c,rfl,-,-⟩:=T.form;have bj:=zH T;clear n T;dsimp only;go_wp;exact zaa ⟨A,c,rfl,bj.out⟩ X
   ·have m:_=_:=f.2.2.1;have h0:_=_:=f.1;obtain⟨A,c,h1,T⟩:=f.2.1;have m:_=_:=f.2.2.1;have J:=zH (zhf (ad.out.all.ext (by decide) a) T);rw[decide_eq_true bd.out]at J;clear T f;go_wp;refine J.out.mono ?_;rintro e l⟨rfl,X⟩;dsimp only;go_wp;exact zaa rfl X
   have m:_=_:=f.2.1;have h0:_=_:=f.1;have m:_=_:=f.2.1;go_wp;exact sQ
  case hend=>intro x P Y f;have bp:x 21=Xc false:=f.2.2.1;have bq:x 34=Xc false:=f.2.2.2.2.2.2.2.2.2.2.2.2.2.2.2.1;clear f;simp only[zS,zD,zU,Qa,List.filterMap_cons,zav,Act.put,bp,bq];go_wp;refine F.out _ _ ?_;clear F K;have M:=zH (ygp M.out h.out.bl Y);have h:=zH (h.out.ext Y);have ad:=zH (ad.out.ext Y);have ac:=zH (ac.out.ext Y);have N:=zH (fun(l:Xd) (a:Ext P l)=>N.out l (Y.trans a));clear Y;go_wp2_with fail;refine F.out _ _ ?_;clear F K;obtain⟨bt,q1,bw⟩:=ac.out.p3;have az:P.cell? ⟨R,k * 5,none⟩=_:=h.out.cell (j:=0) L.out rfl;have c1:P.cell? ⟨R,k * 5+1,none⟩=_:=h.out.cell (j:=1) L.out rfl;have c2:P.cell? ⟨R,k * 5+2,none⟩=_:=h.out.cell (j:=2) L.out rfl;have b7:=h.out.row.frozen (k * 5);have b8:=h.out.row.frozen (k * 5+1);have b9:=h.out.row.frozen (k * 5+2);have ah:=h.out.loX;have bf:Hid (MemX Q (((P.setCell ⟨R,k * 5,none⟩ (Xa ak d.all.length d1)).setCell ⟨R,k * 5+1,none⟩ (Xa aw d.entries.length al)).setCell ⟨R,k * 5+2,none⟩ (Xa ax d.pruned.length am)) base R _ _ ai E):=zH (h.out.putS (k:=k) L.out bi.out ad.out);have be:Hid (BelowX Q base W (((P.setCell ⟨R,k * 5,none⟩ (Xa ak d.all.length d1)).setCell ⟨R,k * 5+1,none⟩ (Xa aw d.entries.length al)).setCell ⟨R,k * 5+2,none⟩ (Xa ax d.pruned.length am))):=zH (((M.out.setCell ah _).setCell ah _).setCell ah _);clear ah;go_wp2_with fail;go_ret;exact⟨rfl,⟨_,bf.out⟩,be.out⟩
end
end Go.Proofs.YtaabaflgeljbjaaGreat
