/- Package state: May. Printed by gen_statemay.py. -/
import Derived.Test.YtaabaflgeljbjaaGreatPr26
import Derived.Test.YtaabaflgeljbjaaGreatPr22
import Derived.Test.YtaabaflgeljbjaaGreatPr28
import Derived.Test.YtaabaflgeljbjaaGreatPr15
set_option linter.unusedVariables false
set_option linter.unusedSimpArgs false
set_option maxRecDepth 100000
set_option maxHeartbeats 40000000
namespace Go.Proofs.YtaabaflgeljbjaaGreat
open Go.Value renaming slice→Xa,pointer→Xb,bool→Xc,tuple→Xd
open List renaming eq_nil_of_length_eq_zero→Qc,filterMap_cons→Qd,append_nil→Qf
open Nat renaming reduceAdd→Qa,le_trans→Qb,eq_zero_or_pos→Qe
section
open Go.RowKit Go.Shelf
def zeh (all:List Mark):Option Str->List Entry->Bool
 | _,[]=>true
 | prev,e::r=>mayE e&&((match prev with|none=>true|some k=>ltS k e.key)&&(zbm all e.seen&&zeh all (some e.key) r))
def zdt (all:List Mark):Option Str->List Str->Bool
 | _,[]=>true
 | prev,p::r=>!p.isEmpty&&((match prev with|none=>true|some k=>ltS k p)&&(decide (ofM all p=0)&&zdt all (some p) r))
def mayS (s:State):Bool:=mayM s.all&&(zeh s.all none s.entries&&zdt s.all none s.pruned)
theorem zng {S:Nat->Prop}{s:State}{v1 v2 v3:Value}{w:World}(L:StAt w S s v1 v2 v3)(aq:SmallS s) :
  Calls Tryz.prog 8 #[stV v1 v2 v3] w fun r w'=>r=.returned (Xc (mayS s))/\Ext w w':=by
 obtain⟨c,g,h⟩:=s;obtain⟨N,aa,ag,ab,ah,ao,rfl,rfl,rfl⟩:=L.fm;have br:=L.entries;have bs:=L.pruned;have bn:=zH (fun(pre post:List Entry) (m:Entry) (wr:World) (F:Ext w wr) (C:g=pre++m::post)=>zea br F C);have bq:=zH (fun(pre post:List Str) (m:Str) (wr:World) (F:Ext w wr) (C:h=pre++m::post)=>zg0 bs F C);have bk:=zH L;have b4:=zH aq;have be:=(Ext.refl w).alloc (.cells #[Xa N c.length aa,Xa ag g.length ab,Xa ah h.length ao] 26);have bw:=zaf w 26 [Xa N c.length aa,Xa ag g.length ab,Xa ah h.length ao];have bm:=zH (ztv (L.all.ext (by decide) be));have ar:=zH (show mayS ⟨c,g,h⟩=(mayM c&&(zeh c none g&&zdt c none h))from rfl);have bv:c.length<=549755813888:=aq.all;have cu:g.length<=549755813888:=aq.entries;have cv:h.length<=549755813888:=aq.pruned;clear L br bs aq;go_enter Tryz.func8,Tryz.ntmps8;go_wp2_with fail;generalize w.alloc (.cells #[Xa N c.length aa,Xa ag g.length ab,Xa ah h.length ao] 26)=cm at *;refine bm.out.mono ?_;rintro r cn⟨rfl,bf⟩;have ap:=bw.ext bf;have a5:=be.trans bf;have co:=ap.cell (j:=1) rfl;have cp:=ap.lt;clear bw be bf bm
 cases bc:mayM c
 case false=>have b1:=zH (show mayS ⟨c,g,h⟩=false by rw[ar.out,bc];rfl);have A:=zH a5;clear a5 ap ar;go_wp2_with fail;go_ret;exact⟨by rw[b1.out];rfl,A.out⟩
 have ac:=zH (show mayS ⟨c,g,h⟩=(zeh c none g&&zdt c none h) by rw[ar.out,bc];rfl);have b0:=zH ap;have b3:=zH a5;clear bc ar ap a5;go_wp2_with fail
 go_loopw [14] (fun i wr=>∃pre post,g=pre++post/\i=I pre.length/\Hid (zeh c none g=zeh c (pre.getLast?.map (·.key)) post)/\Hid (RowIs wr w.heap.size 26 [Xa N c.length aa,Xa ag g.length ab,Xa ah h.length ao] [])/\Ext w wr) (fun i _=>g.length-(intOf i).toNat)
 case atStart=>exact⟨[],g,rfl,rfl,zH rfl,b0,b3.out⟩
 obtain⟨pre,post,C,rfl,ax,a0,F⟩:=hrel
 cases post
 case cons m post=>
  obtain⟨b,o,a1,a2,a3,rfl,e0,b7,b8,b9,ca,cb,cc,ba⟩:=bn.out pre post m wr F C;obtain⟨H,c1,O,c2,P,V,rfl,rfl,rfl⟩:=ba.fm;have cs:pre.length<g.length:=(by rw[C];simp);have bo:=zH C;have af:SmallE m:=b4.out.each m (by show m∈g;rw[C];simp);have an:=(Ext.refl wr).alloc (.cells #[St m.key,Xa H m.seen.length c1,Xa O m.counts.length c2,Xa P m.items.length V,U m.cell.1,St m.cell.2.1,Xc m.cell.2.2] 46);have d:=zaf wr 46 [St m.key,Xa H m.seen.length c1,Xa O m.counts.length c2,Xa P m.items.length V,U m.cell.1,St m.cell.2.1,Xc m.cell.2.2]
  have am:(pre.length=0/\pre.getLast?.map (·.key)=none) ∨ (0<pre.length/\∃q:Entry,pre.getLast?.map (·.key)=some q.key/\wr.cell? ⟨b,o+(pre.length-1) * 7,none⟩=some (St q.key)):=by
   rcases Qe pre.length with h0|h0
   ·exact .inl ⟨h0,by rw[Qc h0];rfl⟩
   obtain⟨bh,q,f1,a7,a8⟩:=zin h0;obtain⟨b6,o',_,_,_,e,D,-⟩:=bn.out bh (m::post) q wr F (by rw[C,f1];simp);cases e;rw[a8]at D;exact .inr ⟨h0,q,by rw[a7];rfl,D⟩
  have ae:=(ba.ext F).ext an;have E:=zH (a0.out.ext an);have bg:=F.trans an;have K:=zH (show zeh c none g=(mayE m&&((match pre.getLast?.map (·.key)with|none=>true|some k=>ltS k m.key)&&(zbm c m.seen&&zeh c (some m.key) post)))from ax.out);clear C ba ax a0 F;go_wp2_with fail;generalize ce:wr.alloc (.cells #[St m.key,Xa H m.seen.length c1,Xa O m.counts.length c2,Xa P m.items.length V,U m.cell.1,St m.cell.2.1,Xc m.cell.2.2] 46)=b5 at *
  have cf:(pre.length=0/\pre.getLast?.map (·.key)=none) ∨ (0<pre.length/\∃q:Entry,pre.getLast?.map (·.key)=some q.key/\b5.cell? ⟨b,o+(pre.length-1) * 7,none⟩=some (St q.key)):=by
   rcases am with L|⟨h0,q,h1,B⟩
   ·exact .inl L
   exact .inr ⟨h0,q,h1,an.cell B⟩
  have av:=zH (bk.out.all.ext (by decide) bg);clear ce am an e0 b7 b8 b9 ca cb cc;have aw:=zH bg;clear bg
  cases hb:mayE m
  case false=>
   have y:=zH (show mayS ⟨c,g,h⟩=false by rw[ac.out,K.out,hb];rfl)
   refine zat [fun v _=>v=entV m (Xa H m.seen.length c1) (Xa O m.counts.length c2) (Xa P m.items.length V),fun v _=>v=Xc false,fun v _=>v=Xc true,fun v _=>v=Xc true,fun v _=>v=Xd #[],fun v _=>v=Xd #[],fun v _=>v=Xd #[],fun v _=>v=Xd #[],fun v _=>v=Xd #[],fun v _=>v=Xd #[],fun v _=>v=Xd #[],fun v _=>v=Xd #[],fun v _=>v=Xd #[],fun v _=>v=Xd #[],fun v _=>v=Xd #[],fun v _=>v=Xd #[],fun v _=>v=Xd #[],fun v _=>v=Xd #[],fun v _=>v=Xc true,fun v _=>v=Xc true,fun v _=>v=Xd #[],fun v _=>v=Xd #[],fun v _=>v=Xd #[],fun v _=>v=Xd #[],fun v _=>v=Xd #[],fun v _=>v=Xd #[]] rfl (by kernel_rfl) ?hR ?hstep ?hend
   case hR=>simp only[zM];exact⟨kP,kP,kP,kP,kP,kP,kP,kP,kP,kP,kP,kP,kP,kP,kP,kP,kP,kP,kP,kP,kP,kP,kP,kP,kP,kP⟩
   case hstep =>
    simp only[zS,zD,Qa,zbj]
    and_intros<;>intro x W a f
    ·have h0:x 4=Xb (some ⟨wr.heap.size,0,none⟩):=f.1;have D:=(d.ext a).cell (j:=0) rfl;have q1:=(d.ext a).cell (j:=1) rfl;have t:=(d.ext a).cell (j:=2) rfl;have q3:=(d.ext a).cell (j:=3) rfl;have q4:=(d.ext a).cell (j:=4) rfl;have bi:=(d.ext a).cell (j:=5) rfl;have bj:=(d.ext a).cell (j:=6) rfl;go_wp;exact sQ
    ·have h0:_=_:=f.1;have u:=zH (zkx (ae.ext a) (Qb af.items (by decide)));rw[hb]at u;go_wp;refine u.out.mono ?_;rintro r T⟨rfl,n⟩;dsimp only;go_wp;exact zaa rfl n
    iterate 2 · have h0:_=_:=f.1;go_wp;exact sQ
    ·have h0:x 3=I pre.length:=f.1;have h1:_=_:=f.2.1;go_wp;exact sQ
    iterate 2 · have h0:_=_:=f.1;have h1:_=_:=f.2.1;go_wp;exact sQ
    ·have h0:x 1=Xb (some ⟨w.heap.size,0,none⟩):=f.1;have h1:_=_:=f.2.1;go_wp;exact sQ
    ·have h0:_=_:=f.1;have h1:_=_:=f.2.1;have c1:=(E.out.ext a).cell (j:=1) rfl;go_wp;exact sQ
    ·have h0:x 3=I pre.length:=f.1;have h1:_=_:=f.2.1;go_wp;exact sQ
    iterate 4 · first|(have h0:_=_:=f.1;have h1:_=_:=f.2.1;have B:_=_:=f.2.2.1;go_wp;exact sQ)|(have h0:_=_:=f.1;have h1:_=_:=f.2.1;go_wp;exact sQ)
    ·have h0:x 4=Xb (some ⟨wr.heap.size,0,none⟩):=f.1;have h1:_=_:=f.2.1;go_wp;exact sQ
    ·have h0:_=_:=f.1;have h1:_=_:=f.2.1;have D:=(d.ext a).cell (j:=0) rfl;go_wp;exact sQ
    iterate 2 · have h0:_=_:=f.1;have h1:_=_:=f.2.1;have B:_=_:=f.2.2.1;go_wp;exact sQ
    ·have h0:_=_:=f.1;have h1:_=_:=f.2.1;go_wp;exact sQ
    ·have h0:_=_:=f.1;go_wp;exact sQ
    ·have h0:x 1=Xb (some ⟨w.heap.size,0,none⟩):=f.1;have h1:_=_:=f.2.1;go_wp;exact sQ
    ·have h0:_=_:=f.1;have h1:_=_:=f.2.1;have c1:=(E.out.ext a).cell (j:=0) rfl;go_wp;exact sQ
    ·have h0:x 4=Xb (some ⟨wr.heap.size,0,none⟩):=f.1;have h1:_=_:=f.2.1;go_wp;exact sQ
    ·have h0:_=_:=f.1;have h1:_=_:=f.2.1;have q1:=(d.ext a).cell (j:=1) rfl;go_wp;exact sQ
    ·have h0:_=_:=f.1;have h1:_=_:=f.2.1;have B:_=_:=f.2.2.1;go_wp;exact sQ
    have h0:_=_:=f.1;have h1:_=_:=f.2.1;go_wp;exact sQ
   case hend=>intro x W a f;have X:x 38=Xc true:=f.2.2.2.2.2.2.2.2.2.2.2.2.2.2.2.2.2.2.2.1;clear f;have A:=zH (aw.out.trans a);have ai:=zH (E.out.ext a);simp only[zS,zD,zU,Qa,Qd,zav,Act.put,X];clear a;go_wp;go_wp2_with fail;go_ret;exact⟨by rw[y.out];rfl,A.out⟩
  rw[hb]at K;rcases cf with⟨h0,J⟩|⟨h0,q,J,bd⟩
  ·rw[J]at K;have cg:(pre.length:Int)=0:=(by omega);have cw:I (pre.length:Int)=I 0:=by rw[cg]
   refine zat [fun v _=>v=entV m (Xa H m.seen.length c1) (Xa O m.counts.length c2) (Xa P m.items.length V),fun v _=>v=Xc true,fun v _=>v=Xc false,fun v _=>v=Xc false,fun v _=>v=I 0,fun v _=>v=Xc false,fun v _=>v=Xc false,fun v _=>v=Xd #[],fun v _=>v=Xd #[],fun v _=>v=Xd #[],fun v _=>v=Xd #[],fun v _=>v=Xd #[],fun v _=>v=Xd #[],fun v _=>v=Xd #[],fun v _=>v=Xd #[],fun v _=>v=Xd #[],fun v _=>v=Xd #[],fun v _=>v=Xc false,fun v _=>v=Xc false,fun v _=>v=Xc false,fun v _=>v=Xb (some ⟨w.heap.size,0,none⟩),fun v _=>v=Xa N c.length aa,fun v _=>v=Xb (some ⟨wr.heap.size,1,none⟩),fun v _=>v=Xa H m.seen.length c1,fun v _=>v=Xc (zbm c m.seen),fun v _=>v=Xc (!zbm c m.seen)] rfl (by kernel_rfl) ?hR ?hstep ?hend
   case hR=>simp only[zM];exact⟨kP,kP,kP,kP,kP,kP,kP,kP,kP,kP,kP,kP,kP,kP,kP,kP,kP,kP,kP,kP,kP,kP,kP,kP,kP,kP⟩
   case hstep =>
    simp only[zS,zD,Qa,zbj]
    and_intros<;>intro x W a f
    ·have h0:x 4=Xb (some ⟨wr.heap.size,0,none⟩):=f.1;have D:=(d.ext a).cell (j:=0) rfl;have q1:=(d.ext a).cell (j:=1) rfl;have t:=(d.ext a).cell (j:=2) rfl;have q3:=(d.ext a).cell (j:=3) rfl;have q4:=(d.ext a).cell (j:=4) rfl;have bi:=(d.ext a).cell (j:=5) rfl;have bj:=(d.ext a).cell (j:=6) rfl;go_wp;exact sQ
    ·have h0:_=_:=f.1;have u:=zH (zkx (ae.ext a) (Qb af.items (by decide)));rw[hb]at u;go_wp;refine u.out.mono ?_;rintro r T⟨rfl,n⟩;dsimp only;go_wp;exact zaa rfl n
    iterate 2 · have h0:_=_:=f.1;go_wp;exact sQ
    ·have h0:x 3=I pre.length:=f.1;have h1:_=_:=f.2.1;go_wp;exact sQ
    iterate 2 · have h0:_=_:=f.1;have h1:_=_:=f.2.1;go_wp;exact sQ
    ·have h0:x 1=Xb (some ⟨w.heap.size,0,none⟩):=f.1;have h1:_=_:=f.2.1;go_wp;exact sQ
    ·have h0:_=_:=f.1;have h1:_=_:=f.2.1;have c1:=(E.out.ext a).cell (j:=1) rfl;go_wp;exact sQ
    ·have h0:x 3=I pre.length:=f.1;have h1:_=_:=f.2.1;go_wp;exact sQ
    iterate 4 · first|(have h0:_=_:=f.1;have h1:_=_:=f.2.1;have B:_=_:=f.2.2.1;go_wp;exact sQ)|(have h0:_=_:=f.1;have h1:_=_:=f.2.1;go_wp;exact sQ)
    ·have h0:x 4=Xb (some ⟨wr.heap.size,0,none⟩):=f.1;have h1:_=_:=f.2.1;go_wp;exact sQ
    ·have h0:_=_:=f.1;have h1:_=_:=f.2.1;have D:=(d.ext a).cell (j:=0) rfl;go_wp;exact sQ
    iterate 2 · have h0:_=_:=f.1;have h1:_=_:=f.2.1;have B:_=_:=f.2.2.1;go_wp;exact sQ
    ·have h0:_=_:=f.1;have h1:_=_:=f.2.1;go_wp;exact sQ
    ·have h0:_=_:=f.1;go_wp;exact sQ
    ·have h0:x 1=Xb (some ⟨w.heap.size,0,none⟩):=f.1;have h1:_=_:=f.2.1;go_wp;exact sQ
    ·have h0:_=_:=f.1;have h1:_=_:=f.2.1;have c1:=(E.out.ext a).cell (j:=0) rfl;go_wp;exact sQ
    ·have h0:x 4=Xb (some ⟨wr.heap.size,0,none⟩):=f.1;have h1:_=_:=f.2.1;go_wp;exact sQ
    ·have h0:_=_:=f.1;have h1:_=_:=f.2.1;have q1:=(d.ext a).cell (j:=1) rfl;go_wp;exact sQ
    ·have h0:_=_:=f.1;have h1:_=_:=f.2.1;have B:_=_:=f.2.2.1;have u:=zH (zil (av.out.ext (by decide) a) (ae.seen.ext (by decide) a) (Qb bv (by decide)) (Qb af.seen (by decide)));go_wp;refine u.out.mono ?_;rintro r T⟨rfl,n⟩;dsimp only;go_wp;exact zaa rfl n
    have h0:_=_:=f.1;have h1:_=_:=f.2.1;go_wp;exact sQ
   case hend =>
    intro x W a f;have X:x 38=Xc false:=f.2.2.2.2.2.2.2.2.2.2.2.2.2.2.2.2.2.2.2.1;have a9:x 44=Xc (!zbm c m.seen):=f.2.2.2.2.2.2.2.2.2.2.2.2.2.2.2.2.2.2.2.2.2.2.2.2.2.1;clear f;have A:=zH (aw.out.trans a);have ai:=zH (E.out.ext a);simp only[zS,zD,zU,Qa,Qd,zav,Act.put,X,a9]
    cases al:zbm c m.seen
    case false=>have y:=zH (show mayS ⟨c,g,h⟩=false by rw[ac.out,K.out,al];rfl);clear a;go_wp;go_wp2_with fail;go_ret;exact⟨by rw[y.out];rfl,A.out⟩
    have R:=zH (show zeh c none g=zeh c ((pre++[m]).getLast?.map (·.key)) post by rw[K.out,al];simp);clear a;go_wp;go_wp2_with fail;go_roundw
    case rel=>exact⟨pre++[m],post,by rw[bo.out];simp,by simp<;>omega,R,ai,A.out⟩
    case measure=>simp[intOf];omega
  rw[J]at K;have ch:=zg9 h0 (by omega);have ci:((pre.length-1:Nat):Int)<(g.length:Int):=(by omega);have cj:(0:Int)<=((pre.length-1:Nat):Int):=(by omega);have ck:(((pre.length-1:Nat):Int)).toNat=pre.length-1:=(by omega);have cl:(0:Int)<(pre.length:Int):=by omega
  cases bb:ltS q.key m.key
  case false=>
   have y:=zH (show mayS ⟨c,g,h⟩=false by rw[ac.out,K.out];simp only[bb];rfl)
   refine zat [fun v _=>v=entV m (Xa H m.seen.length c1) (Xa O m.counts.length c2) (Xa P m.items.length V),fun v _=>v=Xc true,fun v _=>v=Xc false,fun v _=>v=Xc false,fun v _=>v=I pre.length,fun v _=>v=Xc true,fun v _=>v=Xc true,fun v _=>v=Xb (some ⟨w.heap.size,1,none⟩),fun v _=>v=Xa (some ⟨b,o,none⟩) g.length ab,fun v _=>v=I pre.length,fun v _=>v=I ((pre.length-1:Nat):Int),fun v _=>v=Xb (some ⟨b,o+(pre.length-1) * 7,none⟩),fun v _=>v=Xb (some ⟨b,o+(pre.length-1) * 7,none⟩),fun v _=>v=St q.key,fun v _=>v=Xb (some ⟨wr.heap.size,0,none⟩),fun v _=>v=St m.key,fun v _=>v=Xc true,fun v _=>v=Xc true,fun v _=>v=Xc true,fun v _=>v=Xc true,fun v _=>v=Xd #[],fun v _=>v=Xd #[],fun v _=>v=Xd #[],fun v _=>v=Xd #[],fun v _=>v=Xd #[],fun v _=>v=Xd #[]] rfl (by kernel_rfl) ?hR ?hstep ?hend
   case hR=>simp only[zM];exact⟨kP,kP,kP,kP,kP,kP,kP,kP,kP,kP,kP,kP,kP,kP,kP,kP,kP,kP,kP,kP,kP,kP,kP,kP,kP,kP⟩
   case hstep =>
    simp only[zS,zD,Qa,zbj]
    and_intros<;>intro x W a f
    ·have h0:x 4=Xb (some ⟨wr.heap.size,0,none⟩):=f.1;have D:=(d.ext a).cell (j:=0) rfl;have q1:=(d.ext a).cell (j:=1) rfl;have t:=(d.ext a).cell (j:=2) rfl;have q3:=(d.ext a).cell (j:=3) rfl;have q4:=(d.ext a).cell (j:=4) rfl;have bi:=(d.ext a).cell (j:=5) rfl;have bj:=(d.ext a).cell (j:=6) rfl;go_wp;exact sQ
    ·have h0:_=_:=f.1;have u:=zH (zkx (ae.ext a) (Qb af.items (by decide)));rw[hb]at u;go_wp;refine u.out.mono ?_;rintro r T⟨rfl,n⟩;dsimp only;go_wp;exact zaa rfl n
    iterate 2 · have h0:_=_:=f.1;go_wp;exact sQ
    ·have h0:x 3=I pre.length:=f.1;have h1:_=_:=f.2.1;go_wp;exact sQ
    iterate 2 · have h0:_=_:=f.1;have h1:_=_:=f.2.1;go_wp;exact sQ
    ·have h0:x 1=Xb (some ⟨w.heap.size,0,none⟩):=f.1;have h1:_=_:=f.2.1;go_wp;exact sQ
    ·have h0:_=_:=f.1;have h1:_=_:=f.2.1;have c1:=(E.out.ext a).cell (j:=1) rfl;go_wp;exact sQ
    ·have h0:x 3=I pre.length:=f.1;have h1:_=_:=f.2.1;go_wp;exact sQ
    iterate 3 · first|(have h0:_=_:=f.1;have h1:_=_:=f.2.1;have B:_=_:=f.2.2.1;go_wp;exact sQ)|(have h0:_=_:=f.1;have h1:_=_:=f.2.1;go_wp;exact sQ)
    ·have h0:_=_:=f.1;have h1:_=_:=f.2.1;have c1:=a.cell bd;go_wp;exact sQ
    ·have h0:x 4=Xb (some ⟨wr.heap.size,0,none⟩):=f.1;have h1:_=_:=f.2.1;go_wp;exact sQ
    ·have h0:_=_:=f.1;have h1:_=_:=f.2.1;have D:=(d.ext a).cell (j:=0) rfl;go_wp;exact sQ
    iterate 2 · have h0:_=_:=f.1;have h1:_=_:=f.2.1;have B:_=_:=f.2.2.1;go_wp;exact sQ
    ·have h0:_=_:=f.1;have h1:_=_:=f.2.1;go_wp;exact sQ
    ·have h0:_=_:=f.1;go_wp;exact sQ
    ·have h0:x 1=Xb (some ⟨w.heap.size,0,none⟩):=f.1;have h1:_=_:=f.2.1;go_wp;exact sQ
    ·have h0:_=_:=f.1;have h1:_=_:=f.2.1;have c1:=(E.out.ext a).cell (j:=0) rfl;go_wp;exact sQ
    ·have h0:x 4=Xb (some ⟨wr.heap.size,0,none⟩):=f.1;have h1:_=_:=f.2.1;go_wp;exact sQ
    ·have h0:_=_:=f.1;have h1:_=_:=f.2.1;have q1:=(d.ext a).cell (j:=1) rfl;go_wp;exact sQ
    ·have h0:_=_:=f.1;have h1:_=_:=f.2.1;have B:_=_:=f.2.2.1;go_wp;exact sQ
    have h0:_=_:=f.1;have h1:_=_:=f.2.1;go_wp;exact sQ
   case hend=>intro x W a f;have X:x 38=Xc true:=f.2.2.2.2.2.2.2.2.2.2.2.2.2.2.2.2.2.2.2.1;clear f;have A:=zH (aw.out.trans a);have ai:=zH (E.out.ext a);simp only[zS,zD,zU,Qa,Qd,zav,Act.put,X];clear a;go_wp;go_wp2_with fail;go_ret;exact⟨by rw[y.out];rfl,A.out⟩
  have G:=zH (show zeh c none g=(zbm c m.seen&&zeh c (some m.key) post) by rw[K.out];simp only[bb];rfl)
  refine zat [fun v _=>v=entV m (Xa H m.seen.length c1) (Xa O m.counts.length c2) (Xa P m.items.length V),fun v _=>v=Xc true,fun v _=>v=Xc false,fun v _=>v=Xc false,fun v _=>v=I pre.length,fun v _=>v=Xc true,fun v _=>v=Xc true,fun v _=>v=Xb (some ⟨w.heap.size,1,none⟩),fun v _=>v=Xa (some ⟨b,o,none⟩) g.length ab,fun v _=>v=I pre.length,fun v _=>v=I ((pre.length-1:Nat):Int),fun v _=>v=Xb (some ⟨b,o+(pre.length-1) * 7,none⟩),fun v _=>v=Xb (some ⟨b,o+(pre.length-1) * 7,none⟩),fun v _=>v=St q.key,fun v _=>v=Xb (some ⟨wr.heap.size,0,none⟩),fun v _=>v=St m.key,fun v _=>v=Xc false,fun v _=>v=Xc false,fun v _=>v=Xc false,fun v _=>v=Xc false,fun v _=>v=Xb (some ⟨w.heap.size,0,none⟩),fun v _=>v=Xa N c.length aa,fun v _=>v=Xb (some ⟨wr.heap.size,1,none⟩),fun v _=>v=Xa H m.seen.length c1,fun v _=>v=Xc (zbm c m.seen),fun v _=>v=Xc (!zbm c m.seen)] rfl (by kernel_rfl) ?hR ?hstep ?hend
  case hR=>simp only[zM];exact⟨kP,kP,kP,kP,kP,kP,kP,kP,kP,kP,kP,kP,kP,kP,kP,kP,kP,kP,kP,kP,kP,kP,kP,kP,kP,kP⟩
  case hstep =>
   simp only[zS,zD,Qa,zbj]
   and_intros<;>intro x W a f
   ·have h0:x 4=Xb (some ⟨wr.heap.size,0,none⟩):=f.1;have D:=(d.ext a).cell (j:=0) rfl;have q1:=(d.ext a).cell (j:=1) rfl;have t:=(d.ext a).cell (j:=2) rfl;have q3:=(d.ext a).cell (j:=3) rfl;have q4:=(d.ext a).cell (j:=4) rfl;have bi:=(d.ext a).cell (j:=5) rfl;have bj:=(d.ext a).cell (j:=6) rfl;go_wp;exact sQ
   ·have h0:_=_:=f.1;have u:=zH (zkx (ae.ext a) (Qb af.items (by decide)));rw[hb]at u;go_wp;refine u.out.mono ?_;rintro r T⟨rfl,n⟩;dsimp only;go_wp;exact zaa rfl n
   iterate 2 · have h0:_=_:=f.1;go_wp;exact sQ
   ·have h0:x 3=I pre.length:=f.1;have h1:_=_:=f.2.1;go_wp;exact sQ
   iterate 2 · have h0:_=_:=f.1;have h1:_=_:=f.2.1;go_wp;exact sQ
   ·have h0:x 1=Xb (some ⟨w.heap.size,0,none⟩):=f.1;have h1:_=_:=f.2.1;go_wp;exact sQ
   ·have h0:_=_:=f.1;have h1:_=_:=f.2.1;have c1:=(E.out.ext a).cell (j:=1) rfl;go_wp;exact sQ
   ·have h0:x 3=I pre.length:=f.1;have h1:_=_:=f.2.1;go_wp;exact sQ
   iterate 3 · first|(have h0:_=_:=f.1;have h1:_=_:=f.2.1;have B:_=_:=f.2.2.1;go_wp;exact sQ)|(have h0:_=_:=f.1;have h1:_=_:=f.2.1;go_wp;exact sQ)
   ·have h0:_=_:=f.1;have h1:_=_:=f.2.1;have c1:=a.cell bd;go_wp;exact sQ
   ·have h0:x 4=Xb (some ⟨wr.heap.size,0,none⟩):=f.1;have h1:_=_:=f.2.1;go_wp;exact sQ
   ·have h0:_=_:=f.1;have h1:_=_:=f.2.1;have D:=(d.ext a).cell (j:=0) rfl;go_wp;exact sQ
   iterate 2 · have h0:_=_:=f.1;have h1:_=_:=f.2.1;have B:_=_:=f.2.2.1;go_wp;exact sQ
   ·have h0:_=_:=f.1;have h1:_=_:=f.2.1;go_wp;exact sQ
   ·have h0:_=_:=f.1;go_wp;exact sQ
   ·have h0:x 1=Xb (some ⟨w.heap.size,0,none⟩):=f.1;have h1:_=_:=f.2.1;go_wp;exact sQ
   ·have h0:_=_:=f.1;have h1:_=_:=f.2.1;have c1:=(E.out.ext a).cell (j:=0) rfl;go_wp;exact sQ
   ·have h0:x 4=Xb (some ⟨wr.heap.size,0,none⟩):=f.1;have h1:_=_:=f.2.1;go_wp;exact sQ
   ·have h0:_=_:=f.1;have h1:_=_:=f.2.1;have q1:=(d.ext a).cell (j:=1) rfl;go_wp;exact sQ
   ·have h0:_=_:=f.1;have h1:_=_:=f.2.1;have B:_=_:=f.2.2.1;have u:=zH (zil (av.out.ext (by decide) a) (ae.seen.ext (by decide) a) (Qb bv (by decide)) (Qb af.seen (by decide)));go_wp;refine u.out.mono ?_;rintro r T⟨rfl,n⟩;dsimp only;go_wp;exact zaa rfl n
   have h0:_=_:=f.1;have h1:_=_:=f.2.1;go_wp;exact sQ
  case hend =>
   intro x W a f;have X:x 38=Xc false:=f.2.2.2.2.2.2.2.2.2.2.2.2.2.2.2.2.2.2.2.1;have a9:x 44=Xc (!zbm c m.seen):=f.2.2.2.2.2.2.2.2.2.2.2.2.2.2.2.2.2.2.2.2.2.2.2.2.2.1;clear f;have A:=zH (aw.out.trans a);have ai:=zH (E.out.ext a);simp only[zS,zD,zU,Qa,Qd,zav,Act.put,X,a9]
   cases al:zbm c m.seen
   case false=>have y:=zH (show mayS ⟨c,g,h⟩=false by rw[ac.out,G.out,al];rfl);clear a;go_wp;go_wp2_with fail;go_ret;exact⟨by rw[y.out];rfl,A.out⟩
   have R:=zH (show zeh c none g=zeh c ((pre++[m]).getLast?.map (·.key)) post by rw[G.out,al];simp);clear a;go_wp;go_wp2_with fail;go_roundw
   case rel=>exact⟨pre++[m],post,by rw[bo.out];simp,by simp<;>omega,R,ai,A.out⟩
   case measure=>simp[intOf];omega
 rw[Qf]at C;have cq:g.length=pre.length:=(by rw[C]);have aj:=zH (show mayS ⟨c,g,h⟩=zdt c none h by rw[ac.out,ax.out];simp[zeh]);have c2:=a0.out.cell (j:=2) rfl;have A:=zH F;have av:=zH bk.out.all;clear C ax F ac;go_wp2_with fail;obtain⟨bx,rfl⟩:∃bx:World,bx=wr:=⟨_,rfl⟩
 go_loopw [50] (fun i bz=>∃l t,h=l++t/\i=I l.length/\Hid (zdt c none h=zdt c l.getLast? t)/\Hid (RowIs bz w.heap.size 26 [Xa N c.length aa,Xa ag g.length ab,Xa ah h.length ao] [])/\Ext w bz) (fun i _=>h.length-(intOf i).toNat)
 case atStart=>exact⟨[],h,rfl,rfl,zH rfl,a0,A.out⟩
 obtain⟨l,t,M,rfl,ay,a4,n⟩:=hrel
 cases t with
 | cons p t =>
  obtain⟨b,o,rfl,e0⟩:=bq.out l t p wr n M;have bb:l.length<h.length:=(by rw[M];simp);have bp:=zH M
  have am:(l.length=0/\l.getLast? = none) ∨ (0<l.length/\∃q:Str,l.getLast? = some q/\wr.cell? ⟨b,o+(l.length-1),none⟩=some (St q)):=by
   rcases Qe l.length with h0|h0
   ·exact .inl ⟨h0,by rw[Qc h0];rfl⟩
   obtain⟨bh,q,f1,a7,a8⟩:=zin h0;obtain⟨b6,o',e,D⟩:=bq.out bh (p::t) q wr n (by rw[M,f1];simp);cases e;rw[a8]at D;exact .inr ⟨h0,q,a7,D⟩
  have r0:=a4.out.cell (j:=0) rfl;have cx:=a4.out.cell (j:=2) rfl;have Q:=zH (show zdt c none h=(!p.isEmpty&&((match l.getLast? with|none=>true|some k=>ltS k p)&&(decide (ofM c p=0)&&zdt c (some p) t)))from ay.out);have ad:=zH n;have au:=zH (ze1 p (av.out.ext (by decide) n));clear M ay n
  by_cases az:p = []
  ·subst az;have y:=zH (show mayS ⟨c,g,h⟩=false by rw[aj.out,Q.out];rfl);clear am au;go_wp2_with fail;go_ret;exact⟨by rw[y.out];rfl,ad.out⟩
  have ct:(p==[])=false:=(by simpa using az);have bu:p.isEmpty=false:=by cases p with|nil=>exact absurd rfl az|cons _ _=>rfl
  rw[bu]at Q;clear az bu;rcases am with⟨h0,J⟩|⟨h0,q,J,bd⟩
  ·rw[J]at Q;obtain rfl:=Qc h0;simp only[List.length_nil,Nat.add_zero]at e0;have G:=zH (show zdt c none h=(decide (ofM c p=0)&&zdt c (some p) t)from Q.out);clear J;go_wp2_with fail;refine au.out.mono ?_;rintro r T⟨rfl,Y⟩;have ak:=zH (ad.out.trans Y);have a6:=zH (a4.out.ext Y);obtain⟨z,Z⟩:∃z,ofM c p=z:=⟨_,rfl⟩
   rw[Z]at G;rw[Z];clear Y Z;rcases Qe z with h9|h9
   ·subst h9;have R:=zH (show zdt c none h=zdt c ((([]:List Str)++[p]).getLast?) t by rw[G.out];simp);go_wp2_with fail;go_roundw
    case rel=>exact⟨[]++[p],t,by rw[bp.out];simp,by simp,R,a6,ak.out⟩
    case measure=>simp[intOf];omega
   have y:=zH (show mayS ⟨c,g,h⟩=false by rw[aj.out,G.out];simp;omega);have cd:(z:Int)>0:=(by omega);go_wp2_with fail;go_ret;exact⟨by rw[y.out];rfl,ak.out⟩
  rw[J]at Q;have ch:=zg9 h0 (by omega);have ci:((l.length-1:Nat):Int)<(h.length:Int):=(by omega);have cj:(0:Int)<=((l.length-1:Nat):Int):=(by omega);have ck:(((l.length-1:Nat):Int)).toNat=l.length-1:=(by omega);have cl:(0:Int)<(l.length:Int):=(by omega);clear J
  cases bt:ltS q p
  case false=>have y:=zH (show mayS ⟨c,g,h⟩=false by rw[aj.out,Q.out];simp only[bt];rfl);clear au;go_wp2_with fail;go_ret;exact⟨by rw[y.out];rfl,ad.out⟩
  have G:=zH (show zdt c none h=(decide (ofM c p=0)&&zdt c (some p) t) by rw[Q.out];simp only[bt];rfl);go_wp2_with fail;refine au.out.mono ?_;rintro r T⟨rfl,Y⟩;have ak:=zH (ad.out.trans Y);have a6:=zH (a4.out.ext Y);obtain⟨z,Z⟩:∃z,ofM c p=z:=⟨_,rfl⟩
  rw[Z]at G;rw[Z];clear Y Z;rcases Qe z with h9|h9
  ·subst h9;have R:=zH (show zdt c none h=zdt c ((l++[p]).getLast?) t by rw[G.out];simp);go_wp2_with fail;go_roundw
   case rel=>exact⟨l++[p],t,by rw[bp.out];simp,by simp<;>omega,R,a6,ak.out⟩
   case measure=>simp[intOf];omega
  have y:=zH (show mayS ⟨c,g,h⟩=false by rw[aj.out,G.out];simp;omega);have cd:(z:Int)>0:=(by omega);go_wp2_with fail;go_ret;exact⟨by rw[y.out];rfl,ak.out⟩
 | nil=>rw[Qf]at M;have cr:h.length=l.length:=(by rw[M]);have b2:=zH (show mayS ⟨c,g,h⟩=true by rw[aj.out,ay.out];rfl);have ad:=zH n;clear M ay n;go_wp2_with fail;go_ret;exact⟨by rw[b2.out];rfl,ad.out⟩
end
end Go.Proofs.YtaabaflgeljbjaaGreat
