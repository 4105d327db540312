/- Laws. -/
import Derived.Test.YtaabaflgeljbjaaGreatPr22
import Derived.Test.YtaabaflgeljbjaaGreatPr11
import Derived.Test.YtaabaflgeljbjaaGreatPr23
import Derived.Test.YtaabaflgeljbjaaGreatPr05
import Derived.Test.YtaabaflgeljbjaaGreatPr15
set_option linter.unusedVariables false
set_option linter.unusedSimpArgs false
set_option maxRecDepth 100000
set_option maxHeartbeats 40000000
namespace Go.Proofs.YtaabaflgeljbjaaGreat
open Go.Value renaming slice→Xa,bool→Xb,agg→Xc
open Go.Obj renaming cells→Xd
open Go.Ending renaming returned→Xe
open Go renaming World→Xf,Value→Xg
open Ext renaming refl→Xh
open List renaming getElem?_eq_some_iff→Qa,append_nil→Qb,eq_nil_of_length_eq_zero→Qc,getElem?_eq_getElem→Qe,append_assoc→Qf,getElem?_append_right→Qg,map_cons→Qh,map_nil→Qj,findIdx?_cons→Ql,getElem?_append_left→Qn,length_nil→Qp,nil_append→Qq,getElem_cons_drop→Qr,take_append_drop→Qs,getElem?_eq_none→Qt,getElem?_map→Qu,flatten_nil→Qv,cons_append→Qw
open Nat renaming le_trans→Qi,le_refl→Qk,le_of_lt→Qo
open Option renaming some.injEq→Qd,map_map→Qx
open Int renaming ofNat_inj→Qm
section
open Go.RowKit Go.Shelf
section
set_option maxRecDepth 100000
theorem zw4 (d:Nat)(x y:Mark)(w:Xf):(Op.equalIn (d+1+1) 97 (Xc #[St x.1,U x.2]) (Xc #[St y.1,U y.2])).run Tryz.prog w=.ok (decide (x=y)) w:=by
 have g:Tryz.prog.underlying 97=some (.struct (Tryz.prog.fieldsOf 97)):=by kernel_rfl
 have h:Tryz.prog.stoodInHeld 97=false:=by kernel_rfl
 have k:=Tryz.underlying9;have l:=Tryz.underlying27;have a1:=Tryz.isAgg9;have a2:=Tryz.isAgg27;have m:=Tryz.sizeOf9;have n:=Tryz.sizeOf27;rw[run_equalIn_agg w (d+1) 97 _ _ g h];simp only[Program.fieldsOf,Tryz.underlying97];go_simp;obtain⟨i,b⟩:=x;obtain⟨j,c⟩:=y
 by_cases h1:i=j
 ·by_cases a:b=c
  ·subst h1;subst a;simp
  subst h1;have f:¬(b:Int)=c:=fun e=>a (Qm.1 e)
  simp[f,a]
 simp[h1]
theorem zuj (d:Nat)(x y:zag)(w:Xf):(Op.equalIn (d+1+1) 54 (Xc #[St x.1,U x.2.1,U x.2.2]) (Xc #[St y.1,U y.2.1,U y.2.2])).run Tryz.prog w=.ok (decide (x=y)) w:=by
 have j:Tryz.prog.underlying 54=some (.struct (Tryz.prog.fieldsOf 54)):=by kernel_rfl
 have k:Tryz.prog.stoodInHeld 54=false:=by kernel_rfl
 have n:=Tryz.underlying9;have o:=Tryz.underlying27;have a1:=Tryz.isAgg9;have a2:=Tryz.isAgg27;have p:=Tryz.sizeOf9;have q:=Tryz.sizeOf27;rw[run_equalIn_agg w (d+1) 54 _ _ j k];simp only[Program.fieldsOf,Tryz.underlying54];go_simp;obtain⟨l,f,g⟩:=x;obtain⟨m,h,i⟩:=y
 by_cases h1:l=m
 ·by_cases a:f=h
  ·by_cases b:g=i
   ·subst h1;subst a;subst b;simp
   subst h1;subst a;have c:¬(g:Int)=i:=fun e=>b (Qm.1 e)
   simp[c,b]
  subst h1;have c:¬(f:Int)=h:=fun e=>a (Qm.1 e)
  simp[c,a]
 simp[h1]
theorem zkv (x y:Mark)(w:Xf):(binOp .neq 97 (Xc #[St x.1,U x.2]) (Xc #[St y.1,U y.2])).run Tryz.prog w=.ok (Xb (!decide (x=y))) w:=by
 rw[run_neq_struct,show(10000:Nat)=9998+1+1 from rfl,zw4];rfl
theorem zmg (x y:Dot)(w:Xf):(binOp .neq 59 (Xc #[St x.1,U x.2]) (Xc #[St y.1,U y.2])).run Tryz.prog w=.ok (Xb (!decide (x=y))) w:=by
 rw[run_neq_struct,show(10000:Nat)=9998+1+1 from rfl,zna];simp only[Result.andThen_ok]
 by_cases a:x=y
 ·subst a;rfl
 have b:¬y=x:=fun e=>a e.symm
 simp[a,b]
theorem zju (x y:zag)(w:Xf):(binOp .neq 54 (Xc #[St x.1,U x.2.1,U x.2.2]) (Xc #[St y.1,U y.2.1,U y.2.2])).run Tryz.prog w=.ok (Xb (!decide (x=y))) w:=by
 rw[run_neq_struct,show(10000:Nat)=9998+1+1 from rfl,zuj];rfl
end
theorem zuk {S S':Nat->Prop}{v z:Xg}{A B:List (Mark)}{w:Xf}(ha:Sl markT w S v A)(hb:Sl markT w S' z B) :
  Calls Tryz.prog 197 #[v,z] w fun e w'=>e=Xe (Xb (decide (A=B)))/\Ext w w':=by
 have o:=ha;have p:=hb;obtain⟨H,M,rfl,h1,O⟩:=ha.form;obtain⟨J,N,rfl,P,Q⟩:=hb.form;clear ha hb
 by_cases f:A.length=B.length
 ·have E:=zH f;have t:((A.length:Int) !=(B.length:Int))=false:=by simp[f]
  have G:(A.length !=B.length)=false:=by simp[f]
  have u:((A.length:Int)==(B.length:Int))=true:=by simp[f]
  have C:=zH (fun(pre post:List (Mark)) (m:Mark) (wr:Xf) (n:Ext w wr) (j:A=pre++m::post)=>zf1 o n j);have D:=zH (fun(pre post:List (Mark)) (m:Mark) (wr:Xf) (n:Ext w wr) (j:B=pre++m::post)=>zf1 p n j);have T:A.length<=B.length:=by omega
  clear f o p;go_enter Tryz.func197,Tryz.ntmps197;go_wp2_with fail;clear t G u
  go_loopw [13] (fun i wr=>∃pre d c,A=pre++d/\B=pre++c/\i=I pre.length/\Ext w wr) (fun i _=>A.length-(intOf i).toNat)
  case atStart=>exact⟨[],A,B,rfl,rfl,rfl,Xh _⟩
  obtain⟨pre,d,c,a,b,rfl,g⟩:=hrel;have k:d.length=c.length:=by have:=E.out;rw[a,b]at this;simpa using this
  cases d with
  | cons x d =>
   cases c
   case nil=>simp at k
   rename_i y c
   obtain⟨K,ab,rfl,X,Y⟩:=C.out pre d x wr g a;obtain⟨L,ac,rfl,Z,aa⟩:=D.out pre c y wr g b;have U:pre.length<A.length:=(by rw[a];simp);have V:pre.length<B.length:=(by rw[b];simp);have r:=zH a;have s:=zH b;have h:=zH g;clear a b k g;have R:Tryz.prog.eqGuardType Tryz.prog.depth 97=false:=by kernel_rfl
   by_cases l:x=y
   ·subst l;have q:=fun W=>zkv x x W
    simp only[decide_true,Bool.not_true]at q;go_wp2_with fail;go_quiet (fail);go_wp2_with fail;go_roundw
    case rel=>exact⟨pre++[x],d,c,by rw[r.out];simp,by rw[s.out];simp,by simp,h.out.drewN _⟩
    case measure=>simp[intOf];omega
   have q:=fun W=>zkv x y W
   simp only[l,decide_false,Bool.not_false]at q
   have HF:=zH (show decide (A=B)=false by rw[r.out,s.out];simp[l])
   clear l;go_wp2_with fail;go_quiet (fail);go_wp2_with fail;go_ret;exact⟨by rw[HF.out];rfl,h.out.drewN _⟩
  | nil=>have F:c = []:=Qc (by simpa using k.symm);subst F;rw[Qb]at a b;have j:A.length=pre.length:=(by rw[a]);have HF:=zH (show decide (A=B)=true by rw[a,b];simp);have h:=zH g;clear a b k g;go_wp2_with fail;go_ret;exact⟨by rw[HF.out];rfl,h.out⟩
 have HF:=zH (show decide (A=B)=false by simp;intro e;exact f (by rw[e]));have t:((A.length:Int) !=(B.length:Int))=true:=by simp;omega
 have u:((A.length:Int)==(B.length:Int))=false:=by rw[beq_eq_false_iff_ne];omega
 clear o p;go_enter Tryz.func197,Tryz.ntmps197;go_wp2_with fail;go_ret;exact⟨by rw[HF.out];rfl,Xh _⟩
theorem zw5 {S S':Nat->Prop}{v z:Xg}{A B:List (Dot)}{w:Xf}(ha:Sl markT w S v A)(hb:Sl markT w S' z B) :
  Calls Tryz.prog 201 #[v,z] w fun e w'=>e=Xe (Xb (decide (A=B)))/\Ext w w':=by
 have o:=ha;have p:=hb;obtain⟨H,M,rfl,h1,O⟩:=ha.form;obtain⟨J,N,rfl,P,Q⟩:=hb.form;clear ha hb
 by_cases f:A.length=B.length
 ·have E:=zH f;have t:((A.length:Int) !=(B.length:Int))=false:=by simp[f]
  have G:(A.length !=B.length)=false:=by simp[f]
  have u:((A.length:Int)==(B.length:Int))=true:=by simp[f]
  have C:=zH (fun(pre post:List (Dot)) (m:Dot) (wr:Xf) (n:Ext w wr) (j:A=pre++m::post)=>zje o n j);have D:=zH (fun(pre post:List (Dot)) (m:Dot) (wr:Xf) (n:Ext w wr) (j:B=pre++m::post)=>zje p n j);have T:A.length<=B.length:=by omega
  clear f o p;go_enter Tryz.func201,Tryz.ntmps201;go_wp2_with fail;clear t G u
  go_loopw [13] (fun i wr=>∃pre d c,A=pre++d/\B=pre++c/\i=I pre.length/\Ext w wr) (fun i _=>A.length-(intOf i).toNat)
  case atStart=>exact⟨[],A,B,rfl,rfl,rfl,Xh _⟩
  obtain⟨pre,d,c,a,b,rfl,g⟩:=hrel;have k:d.length=c.length:=by have:=E.out;rw[a,b]at this;simpa using this
  cases d with
  | cons x d =>
   cases c
   case nil=>simp at k
   rename_i y c
   obtain⟨K,ab,rfl,X,Y⟩:=C.out pre d x wr g a;obtain⟨L,ac,rfl,Z,aa⟩:=D.out pre c y wr g b;have U:pre.length<A.length:=(by rw[a];simp);have V:pre.length<B.length:=(by rw[b];simp);have r:=zH a;have s:=zH b;have h:=zH g;clear a b k g;have R:Tryz.prog.eqGuardType Tryz.prog.depth 59=false:=by kernel_rfl
   by_cases l:x=y
   ·subst l;have q:=fun W=>zmg x x W
    simp only[decide_true,Bool.not_true]at q;go_wp2_with fail;go_quiet (fail);go_wp2_with fail;go_roundw
    case rel=>exact⟨pre++[x],d,c,by rw[r.out];simp,by rw[s.out];simp,by simp,h.out.drewN _⟩
    case measure=>simp[intOf];omega
   have q:=fun W=>zmg x y W
   simp only[l,decide_false,Bool.not_false]at q
   have HF:=zH (show decide (A=B)=false by rw[r.out,s.out];simp[l])
   clear l;go_wp2_with fail;go_quiet (fail);go_wp2_with fail;go_ret;exact⟨by rw[HF.out];rfl,h.out.drewN _⟩
  | nil=>have F:c = []:=Qc (by simpa using k.symm);subst F;rw[Qb]at a b;have j:A.length=pre.length:=(by rw[a]);have HF:=zH (show decide (A=B)=true by rw[a,b];simp);have h:=zH g;clear a b k g;go_wp2_with fail;go_ret;exact⟨by rw[HF.out];rfl,h.out⟩
 have HF:=zH (show decide (A=B)=false by simp;intro e;exact f (by rw[e]));have t:((A.length:Int) !=(B.length:Int))=true:=by simp;omega
 have u:((A.length:Int)==(B.length:Int))=false:=by rw[beq_eq_false_iff_ne];omega
 clear o p;go_enter Tryz.func201,Tryz.ntmps201;go_wp2_with fail;go_ret;exact⟨by rw[HF.out];rfl,Xh _⟩
theorem zsv {S S':Nat->Prop}{v z:Xg}{A B:List (zag)}{w:Xf}(ha:Sl zcl w S v A)(hb:Sl zcl w S' z B) :
  Calls Tryz.prog 198 #[v,z] w fun e w'=>e=Xe (Xb (decide (A=B)))/\Ext w w':=by
 have o:=ha;have p:=hb;obtain⟨H,M,rfl,h1,O⟩:=ha.form;obtain⟨J,N,rfl,P,Q⟩:=hb.form;clear ha hb
 by_cases f:A.length=B.length
 ·have E:=zH f;have t:((A.length:Int) !=(B.length:Int))=false:=by simp[f]
  have G:(A.length !=B.length)=false:=by simp[f]
  have u:((A.length:Int)==(B.length:Int))=true:=by simp[f]
  have C:=zH (fun(pre post:List (zag)) (m:zag) (wr:Xf) (n:Ext w wr) (j:A=pre++m::post)=>zgg o n j);have D:=zH (fun(pre post:List (zag)) (m:zag) (wr:Xf) (n:Ext w wr) (j:B=pre++m::post)=>zgg p n j);have T:A.length<=B.length:=by omega
  clear f o p;go_enter Tryz.func198,Tryz.ntmps198;go_wp2_with fail;clear t G u
  go_loopw [13] (fun i wr=>∃pre d c,A=pre++d/\B=pre++c/\i=I pre.length/\Ext w wr) (fun i _=>A.length-(intOf i).toNat)
  case atStart=>exact⟨[],A,B,rfl,rfl,rfl,Xh _⟩
  obtain⟨pre,d,c,a,b,rfl,g⟩:=hrel;have k:d.length=c.length:=by have:=E.out;rw[a,b]at this;simpa using this
  cases d with
  | cons x d =>
   cases c
   case nil=>simp at k
   rename_i y c
   obtain⟨K,ad,rfl,X,Y,Z⟩:=C.out pre d x wr g a;obtain⟨L,ae,rfl,aa,ab,ac⟩:=D.out pre c y wr g b;have U:pre.length<A.length:=(by rw[a];simp);have V:pre.length<B.length:=(by rw[b];simp);have r:=zH a;have s:=zH b;have h:=zH g;clear a b k g;have R:Tryz.prog.eqGuardType Tryz.prog.depth 54=false:=by kernel_rfl
   by_cases l:x=y
   ·subst l;have q:=fun W=>zju x x W
    simp only[decide_true,Bool.not_true]at q;go_wp2_with fail;go_quiet (fail);go_wp2_with fail;go_roundw
    case rel=>exact⟨pre++[x],d,c,by rw[r.out];simp,by rw[s.out];simp,by simp,h.out.drewN _⟩
    case measure=>simp[intOf];omega
   have q:=fun W=>zju x y W
   simp only[l,decide_false,Bool.not_false]at q
   have HF:=zH (show decide (A=B)=false by rw[r.out,s.out];simp[l])
   clear l;go_wp2_with fail;go_quiet (fail);go_wp2_with fail;go_ret;exact⟨by rw[HF.out];rfl,h.out.drewN _⟩
  | nil=>have F:c = []:=Qc (by simpa using k.symm);subst F;rw[Qb]at a b;have j:A.length=pre.length:=(by rw[a]);have HF:=zH (show decide (A=B)=true by rw[a,b];simp);have h:=zH g;clear a b k g;go_wp2_with fail;go_ret;exact⟨by rw[HF.out];rfl,h.out⟩
 have HF:=zH (show decide (A=B)=false by simp;intro e;exact f (by rw[e]));have t:((A.length:Int) !=(B.length:Int))=true:=by simp;omega
 have u:((A.length:Int)==(B.length:Int))=false:=by rw[beq_eq_false_iff_ne];omega
 clear o p;go_enter Tryz.func198,Tryz.ntmps198;go_wp2_with fail;go_ret;exact⟨by rw[HF.out];rfl,Xh _⟩
def ze9 (a b:Item):Bool:=decide (a=b)
theorem zxd {S S':Nat->Prop}{i j:Xg}{a b:Item}{w:Xf}(ha:Sl markT w S i a.2)(hb:Sl markT w S' j b.2) :
  Calls Tryz.prog 200 #[Xc #[St a.1,i],Xc #[St b.1,j]] w fun e w'=>e=Xe (Xb (ze9 a b))/\Ext w w':=by
 obtain⟨at_,g⟩:=a;obtain⟨c,h⟩:=b;have f:=((Xh w).alloc (Xd #[St at_,i] 57)).alloc (Xd #[St c,j] 57);have k:=zH (zw5 (ha.ext (by decide) f) (hb.ext (by decide) f));obtain⟨m,o,rfl,-,-⟩:=ha.form;obtain⟨n,p,rfl,-,-⟩:=hb.form;clear ha hb
 by_cases d:at_=c
 ·subst d;have HF:=zH (show ze9 (at_,g) (at_,h)=decide (g=h) by simp[ze9]);go_enter Tryz.func200,Tryz.ntmps200;go_wp2_with fail;refine k.out.mono ?_;rintro e q⟨rfl,l⟩;go_wp2;go_ret;exact⟨by rw[HF.out];rfl,f.trans l⟩
 have HF:=zH (show ze9 (at_,g) (c,h)=false by simp[ze9,d]);have h1:(at_==c)=false:=by simpa using d
 clear d;go_enter Tryz.func200,Tryz.ntmps200;go_wp2;go_ret;exact⟨by rw[HF.out];rfl,f⟩
theorem zoz {S S':Nat->Prop}{p q:Xg}{A B:List Item}{w:Xf}(ha:Sl itemT w S p A)(hb:Sl itemT w S' q B) :
  Calls Tryz.prog 199 #[p,q,.func (.func 200) #[] #[]] w fun e w'=>e=Xe (Xb (decide (A=B)))/\Ext w w':=by
 have s:=ha;have t:=hb;obtain⟨Y,ae,rfl,h1,aj⟩:=ha.form;obtain⟨Z,af,rfl,ak,al⟩:=hb.form;have ai:∀args w,(callFunc 200 args).run Tryz.prog w=.ok (.enter 200 args) w:=enters_of Tryz.func200 (by kernel_rfl) rfl;clear ha hb
 by_cases j:A.length=B.length
 ·have N:=zH j;have J:((A.length:Int) !=(B.length:Int))=false:=by simp[j]
  have U:(A.length !=B.length)=false:=by simp[j]
  have K:((A.length:Int)==(B.length:Int))=true:=by simp[j]
  have L:=zH (fun(pre post:List Item) (m:Item) (wr:Xf) (r:Ext w wr) (k:A=pre++m::post)=>zgr s r k);have M:=zH (fun(pre post:List Item) (m:Item) (wr:Xf) (r:Ext w wr) (k:B=pre++m::post)=>zgr t r k);have am:A.length<=B.length:=by omega
  have O:=zH (fun(S S':Nat->Prop) (p q:Xg) (a b:Item) (W:Xf)=>@zxd S S' p q a b W);clear j s t;go_enter Tryz.func199,Tryz.ntmps199;go_wp2_with fail;clear J U K
  go_loopw [17] (fun i wr=>∃pre h f,A=pre++h/\B=pre++f/\i=I pre.length/\Ext w wr) (fun i _=>A.length-(intOf i).toNat)
  case atStart=>exact⟨[],A,B,rfl,rfl,rfl,Xh _⟩
  obtain⟨pre,h,f,c,d,rfl,g⟩:=hrel;have l:h.length=f.length:=by have:=N.out;rw[c,d]at this;simpa using this
  cases h with
  | cons x h =>
   cases f
   case nil=>simp at l
   rename_i y f
   obtain⟨ac,av,C,rfl,ap,aq,u⟩:=L.out pre h x wr g c;obtain⟨ad,aw,V,rfl,R,T,v⟩:=M.out pre f y wr g d;have an:pre.length<A.length:=(by rw[c];simp);have ao:pre.length<B.length:=(by rw[d];simp);have E:=zH c;have F:=zH d;have G:=zH g;have n:=g.trans (((Xh wr).alloc (Xd #[St x.1,C] 57)).alloc (Xd #[St y.1,V] 57));have ar:=((Xh wr).alloc (Xd #[St x.1,C] 57)).cell R;have au:=((Xh wr).alloc (Xd #[St x.1,C] 57)).cell T;have D:=zH (O.out _ _ _ _ _ _ _ (u.ext (by decide) n) (v.ext (by decide) n));have H:=zH n;obtain⟨aa,ag,rfl,-,-⟩:=u.form;obtain⟨ab,ah,rfl,-,-⟩:=v.form;clear c d l g u v n
   by_cases o:x=y
   ·subst o;go_wp2_with fail;refine D.out.mono ?_;rintro e X⟨rfl,z⟩;rw[show ze9 x x=true by simp[ze9]];go_wp2_with fail;go_roundw
    case rel=>exact⟨pre++[x],h,f,by rw[E.out];simp,by rw[F.out];simp,by simp,H.out.trans z⟩
    case measure=>simp[intOf];omega
   have HF:=zH (show decide (A=B)=false by
    rw[E.out,F.out];simp[o])
   have P:=zH o;clear o;go_wp2_with fail;refine D.out.mono ?_;rintro e X⟨rfl,z⟩;rw[show ze9 x y=false by simp[ze9,P.out]];go_wp2_with fail;go_ret;exact⟨by rw[HF.out];rfl,H.out.trans z⟩
  | nil=>have Q:f = []:=Qc (by simpa using l.symm);subst Q;rw[Qb]at c d;have k:A.length=pre.length:=(by rw[c]);have HF:=zH (show decide (A=B)=true by rw[c,d];simp);have G:=zH g;clear c d l g;go_wp2_with fail;go_ret;exact⟨by rw[HF.out];rfl,G.out⟩
 have HF:=zH (show decide (A=B)=false by simp;intro e;exact j (by rw[e]));have J:((A.length:Int) !=(B.length:Int))=true:=by simp;omega
 have K:((A.length:Int)==(B.length:Int))=false:=by rw[beq_eq_false_iff_ne];omega
 clear s t;go_enter Tryz.func199,Tryz.ntmps199;go_wp2_with fail;go_ret;exact⟨by rw[HF.out];rfl,Xh _⟩
abbrev entC (e:Entry)(v1 v2 v3:Xg):Array Xg:=#[St e.key,v1,v2,v3,U e.cell.1,St e.cell.2.1,Xb e.cell.2.2]
abbrev entV (e:Entry)(v1 v2 v3:Xg):Xg:=Xc (entC e v1 v2 v3)
structure EntAt (w:Xf) (S:Nat->Prop) (e:Entry) (v1 v2 v3:Xg):Prop where
 seen:Sl markT w S v1 e.seen
 counts:Sl zcl w S v2 e.counts
 items:Sl itemT w S v3 e.items
theorem EntAt.fm {w:Xf}{S:Nat→Prop}{e:Entry}{v1 v2 v3:Xg}(d:EntAt w S e v1 v2 v3):∃A a B b C c,v1=Xa A e.seen.length a∧v2=Xa B e.counts.length b∧v3=Xa C e.items.length c:=by obtain⟨A,a,h1,-,-⟩:=d.seen.form;obtain⟨B,b,f,-,-⟩:=d.counts.form;obtain⟨C,c,g,-,-⟩:=d.items.form;exact⟨A,a,B,b,C,c,h1,f,g⟩
theorem EntAt.ext {w w':Xf}{S:Nat->Prop}{e:Entry}{v1 v2 v3:Xg}(a:EntAt w S e v1 v2 v3)(b:Ext w w'):EntAt w' S e v1 v2 v3 :=
 ⟨a.seen.ext (by decide) b,a.counts.ext (by decide) b,a.items.ext (by decide) b⟩
theorem EntAt.mono {w:Xf}{S S':Nat->Prop}{e:Entry}{v1 v2 v3:Xg}(a:EntAt w S e v1 v2 v3)(c:∀b,b<w.heap.size->S b->S' b):EntAt w S' e v1 v2 v3 :=
 ⟨a.seen.mono (by decide) c,a.counts.mono (by decide) c,a.items.mono (by decide) c⟩
section
set_option maxRecDepth 100000
theorem zxe (d:Nat)(x y:Cell)(w:Xf):(Op.equalIn (d+1+1) 44 (Xc #[U x.1,St x.2.1,Xb x.2.2]) (Xc #[U y.1,St y.2.1,Xb y.2.2])).run Tryz.prog w=.ok (decide (x=y)) w:=by
 have g:Tryz.prog.underlying 44=some (.struct (Tryz.prog.fieldsOf 44)):=by kernel_rfl
 have h:Tryz.prog.stoodInHeld 44=false:=by kernel_rfl
 have m:=Tryz.underlying9;have n:=Tryz.underlying27;have o:=Tryz.underlying4;have a1:=Tryz.isAgg9;have a2:=Tryz.isAgg27;have a3:=Tryz.isAgg4;have p:=Tryz.sizeOf9;have q:=Tryz.sizeOf27;have r:=Tryz.sizeOf4;rw[run_equalIn_agg w (d+1) 44 _ _ g h];simp only[Program.fieldsOf,Tryz.underlying44];go_simp;obtain⟨b,i,j⟩:=x;obtain⟨c,k,l⟩:=y
 by_cases h1:b=c
 ·by_cases a:i=k
  ·subst h1;subst a;cases j<;>cases l<;>simp
  subst h1;simp[a]
 have f:¬(b:Int)=c:=fun e=>h1 (Qm.1 e)
 simp[f,h1]
theorem znc (x y:Cell)(w:Xf):(binOp .eql 44 (Xc #[U x.1,St x.2.1,Xb x.2.2]) (Xc #[U y.1,St y.2.1,Xb y.2.2])).run Tryz.prog w=.ok (Xb (decide (x=y))) w:=by
 rw[run_eql_struct,show(10000:Nat)=9998+1+1 from rfl,zxe];rfl
end
def zbl (a b:Entry):Bool:=decide (a.key=b.key)&&(decide (a.cell=b.cell)&&(decide (a.seen=b.seen)&&(decide (a.counts=b.counts)&&decide (a.items=b.items))))
theorem sameE_iff {a b:Entry}:zbl a b=true↔a=b:=by
 unfold zbl;obtain⟨a1,a2,a3,c,d⟩:=a;obtain⟨e,f,g,h,i⟩:=b;simp only[Bool.and_eq_true,decide_eq_true_eq,Entry.mk.injEq]
 constructor
 ·rintro⟨h1,h2,h3,h4,h5⟩;exact⟨h1,h3,h4,h5,h2⟩
 rintro⟨h1,h3,h4,h5,h2⟩;exact⟨h1,h2,h3,h4,h5⟩
theorem zxf {S S':Nat->Prop}{a b:Entry}{a1 a2 a3 R T U:Xg}{w:Xf}(ha:EntAt w S a a1 a2 a3)(hb:EntAt w S' b R T U) :
  Calls Tryz.prog 153 #[entV a a1 a2 a3,entV b R T U] w fun e w'=>e=Xe (Xb (zbl a b))/\Ext w w':=by
 have aj:Tryz.prog.eqGuardType Tryz.prog.depth 44=false:=by kernel_rfl
 obtain⟨c,l,h,i,d,f,g⟩:=a;obtain⟨H,bs,j,k,D,r,o⟩:=b;have n:=((Xh w).alloc (Xd (entC ⟨c,l,h,i,d,f,g⟩ a1 a2 a3) 46)).alloc (Xd (entC ⟨H,bs,j,k,D,r,o⟩ R T U) 46);have O:=zH ha;have P:=zH hb;obtain⟨E,N,s,B,t,C,rfl,rfl,rfl⟩:=ha.fm;obtain⟨F,M,u,z,v,A,rfl,rfl,rfl⟩:=hb.fm;clear ha hb
 by_cases hk:c=H
 ·by_cases x:d=D
  ·by_cases y:f=r
   ·by_cases I:g=o
    ·subst hk x y I;have V:=zH (show zbl ⟨c,l,h,i,d,f,g⟩ ⟨c,bs,j,k,d,f,g⟩=(decide (l=bs)&&(decide (h=j)&&decide (i=k))) by simp[zbl]);have ac:=zH (zuk (O.out.seen.ext (by decide) n) (P.out.seen.ext (by decide) n));have c2:((w.alloc (Xd (entC ⟨c,l,h,i,d,f,g⟩ (Xa E l.length N) (Xa s h.length B) (Xa t i.length C)) 46)).alloc (Xd (entC ⟨c,bs,j,k,d,f,g⟩ (Xa F bs.length M) (Xa u j.length z) (Xa v k.length A)) 46)).cell? ⟨w.heap.size,2,none⟩=some (Xa s h.length B):=(by simp[go_sem]);have W:((w.alloc (Xd (entC ⟨c,l,h,i,d,f,g⟩ (Xa E l.length N) (Xa s h.length B) (Xa t i.length C)) 46)).alloc (Xd (entC ⟨c,bs,j,k,d,f,g⟩ (Xa F bs.length M) (Xa u j.length z) (Xa v k.length A)) 46)).cell? ⟨w.heap.size,3,none⟩=some (Xa t i.length C):=(by simp[go_sem]);have X:((w.alloc (Xd (entC ⟨c,l,h,i,d,f,g⟩ (Xa E l.length N) (Xa s h.length B) (Xa t i.length C)) 46)).alloc (Xd (entC ⟨c,bs,j,k,d,f,g⟩ (Xa F bs.length M) (Xa u j.length z) (Xa v k.length A)) 46)).cell? ⟨w.heap.size+1,2,none⟩=some (Xa u j.length z):=(by simp[go_sem]);have Y:((w.alloc (Xd (entC ⟨c,l,h,i,d,f,g⟩ (Xa E l.length N) (Xa s h.length B) (Xa t i.length C)) 46)).alloc (Xd (entC ⟨c,bs,j,k,d,f,g⟩ (Xa F bs.length M) (Xa u j.length z) (Xa v k.length A)) 46)).cell? ⟨w.heap.size+1,3,none⟩=some (Xa v k.length A):=(by simp[go_sem]);go_enter Tryz.func153,Tryz.ntmps153;go_wp2_with fail;refine ac.out.mono ?_;rintro e al⟨rfl,q⟩;have af:=q.cell c2;have Z:=q.cell W;have ag:=q.cell X;have aa:=q.cell Y;have J:=n.trans q;have ad:=zH (zsv (O.out.counts.ext (by decide) J) (P.out.counts.ext (by decide) J));clear c2 W X Y q
     by_cases h1:l=bs
     ·have G:=zH (show zbl ⟨c,l,h,i,d,f,g⟩ ⟨c,bs,j,k,d,f,g⟩=(decide (h=j)&&decide (i=k)) by rw[V.out];simp[h1]);rw[decide_eq_true h1];clear h1;go_wp2_with fail;refine ad.out.mono ?_;rintro e am⟨rfl,L⟩;have ai:=L.cell Z;have ak:=L.cell aa;have K:=J.trans L;have ae:=zH (zoz (O.out.items.ext (by decide) K) (P.out.items.ext (by decide) K));clear af Z ag aa L
      by_cases p:h=j
      ·have Q:=zH (show zbl ⟨c,l,h,i,d,f,g⟩ ⟨c,bs,j,k,d,f,g⟩=decide (i=k) by rw[G.out];simp[p]);rw[decide_eq_true p];clear p;go_wp2_with fail;refine ae.out.mono ?_;rintro e an⟨rfl,ah⟩;go_wp2_with fail;go_ret;exact⟨by rw[Q.out];rfl,K.trans ah⟩
      have Q:=zH (show zbl ⟨c,l,h,i,d,f,g⟩ ⟨c,bs,j,k,d,f,g⟩=false by rw[G.out];simp[p]);rw[decide_eq_false p];clear p;go_wp2_with fail;go_ret;exact⟨by rw[Q.out];rfl,K⟩
     have G:=zH (show zbl ⟨c,l,h,i,d,f,g⟩ ⟨c,bs,j,k,d,f,g⟩=false by rw[V.out];simp[h1]);rw[decide_eq_false h1];clear h1;go_wp2_with fail;go_ret;exact⟨by rw[G.out];rfl,J⟩
    subst hk x y;have m:=zH (show zbl ⟨c,l,h,i,d,f,g⟩ ⟨c,bs,j,k,d,f,o⟩=false by simp[zbl,I]);cases g<;>cases o
    all_goals first|exact absurd rfl I|skip
    all_goals
     clear I;go_enter Tryz.func153,Tryz.ntmps153;go_wp2_with fail;go_ret;exact⟨by rw[m.out];rfl,n⟩
   subst hk x;have m:=zH (show zbl ⟨c,l,h,i,d,f,g⟩ ⟨c,bs,j,k,d,r,o⟩=false by simp[zbl,y]);have ab:(f==r)=false:=(by simpa using y);clear y;go_enter Tryz.func153,Tryz.ntmps153;go_wp2_with fail;go_ret;exact⟨by rw[m.out];rfl,n⟩
  subst hk;have m:=zH (show zbl ⟨c,l,h,i,d,f,g⟩ ⟨c,bs,j,k,D,r,o⟩=false by simp[zbl,x]);have ab:((d:Int)==(D:Int))=false:=(by rw[beq_eq_false_iff_ne];omega);clear x;go_enter Tryz.func153,Tryz.ntmps153;go_wp2_with fail;go_ret;exact⟨by rw[m.out];rfl,n⟩
 have m:=zH (show zbl ⟨c,l,h,i,d,f,g⟩ ⟨H,bs,j,k,D,r,o⟩=false by simp[zbl,hk]);have ab:(c==H)=false:=by simpa using hk
 clear hk;go_enter Tryz.func153,Tryz.ntmps153;go_wp2_with fail;go_ret;exact⟨by rw[m.out];rfl,n⟩
def zak:Entry:=⟨[],[],[],[],0,[],false⟩
theorem zpm {S:Nat->Prop}{a:Entry}{a1 a2 a3:Xg}{w:Xf}(ha:EntAt w S a a1 a2 a3) :
  Calls Tryz.prog 110 #[entV a a1 a2 a3] w fun e w'=>e=Xe (Xb (zbl a zak))/\Ext w w':=by
 have c:=(Xh w).alloc (Xd (entC a a1 a2 a3) 46)
 have b:EntAt (w.alloc (Xd (entC a a1 a2 a3) 46)) (fun _=>False) zak (Xa none 0 0) (Xa none 0 0) (Xa none 0 0) :=
  ⟨Sl.nil (T:=markT) none 0 (by omega),Sl.nil (T:=zcl) none 0 (by omega),Sl.nil (T:=itemT) none 0 (by omega)⟩
 have d:=zH (zxf (ha.ext c) b);obtain⟨g,j,h,k,i,l,rfl,rfl,rfl⟩:=ha.fm;clear ha b;go_enter Tryz.func110,Tryz.ntmps110;go_wp2_with fail;refine d.out.mono ?_;rintro e m⟨rfl,f⟩;go_wp2_with fail;go_ret;exact⟨rfl,c.trans f⟩
def HalfRow (W:Xf)(base:Nat)(S:Nat->Prop)(v:Xg)(A B:List Item):Prop :=
 ∃va vb:List (List Xg),va.length=A.length/\vb.length=B.length/\(∀(i:Nat) x vs,A[i]? = some x->va[i]? = some vs->itemT.rd W (fun b=>base<=b/\¬zad v b) x vs)/\(∀(i:Nat) x vs,B[i]? = some x->vb[i]? = some vs->itemT.rd W S x vs) /\
  Own W base 57 2 v (A.length+B.length) (va.flatten++vb.flatten)
theorem HalfRow.start {W:Xf}{base:Nat}{S:Nat->Prop}{v:Xg}{B:List Item}(a:OwnL itemT 57 W base S v B):HalfRow W base S v [] B:=by
 obtain⟨vss,h1,b,c⟩:=a;refine⟨[],vss,rfl,h1,by simp,b,?_⟩;simp only[Qp,Nat.zero_add,Qv,Qq];exact c
theorem HalfRow.done {W:Xf}{base:Nat}{S:Nat->Prop}{v:Xg}{A:List Item}(a:HalfRow W base S v A []):OwnL itemT 57 W base (fun b=>base<=b) v A:=by
 obtain⟨h,j,h1,d,e,k,c⟩:=a;obtain rfl:j = []:=Qc d;refine⟨h,h1,fun i x vs g f=>itemT.mono (e i x vs g f) (fun b _ a=>a.1),?_⟩;simp only[Qp,Nat.add_zero,Qv,Qb]at c;exact c
theorem HalfRow.ext {W e:Xf}{base:Nat}{S:Nat->Prop}{v:Xg}{A B:List Item}(f:HalfRow W base S v A B)(a:Ext W e):HalfRow e base S v A B:=by
 obtain⟨l,m,h1,g,h,j,k⟩:=f;exact⟨l,m,h1,g,fun i x vs d c=>itemT.keep (h i x vs d c) (fun b _ hb=>a.block b hb),fun i x vs d c=>itemT.keep (j i x vs d c) (fun b _ hb=>a.block b hb),k.ext a⟩
theorem HalfRow.next {W:Xf}{base:Nat}{S:Nat->Prop}{v:Xg}{A B:List Item}{it:Item}(h:HalfRow W base S v A (it::B)) :
  ∃g b a,v=Xa (some ⟨g,0,none⟩) (A.length+(B.length+1)) b/\A.length+(B.length+1)<=b/\b<=9223372036854775807/\base<=g/\W.cell? ⟨g,A.length * 2+1,none⟩=some a/\W.frozen? ⟨g,A.length * 2+1,none⟩=false/\Sl markT W S a it.2:=by
 obtain⟨r,d,h1,i,j,k,l⟩:=h
 cases d
 case nil=>simp at i
 rename_i c d
 obtain⟨a,rfl,q⟩:=k 0 it c rfl rfl;have n:=zh7 h1 j;obtain⟨g,b,tail,rfl,o,e,m,p,s⟩:=l.row (by simp;omega);have f:(r.flatten++([St it.1,a]::d).flatten)[A.length * 2+1]? = some a:=by rw[<- n,Qg (by omega)];simp
 exact⟨g,b,a,rfl,m,p,o,e.cell f,e.frozen _,q⟩
theorem HalfRow.put {W:Xf}{base g m l:Nat}{S:Nat->Prop}{A B:List Item}{it:Item}{d:Xg}(hk:∀b,S b->b<base)(H:HalfRow W base S (Xa (some ⟨g,0,none⟩) (A.length+(B.length+1)) m) A (it::B))(C:Own W l 59 2 d it.2.length (it.2.flatMap zaj))(T:base<=l)(V:g<l) :
  HalfRow (W.setCell ⟨g,A.length * 2+1,none⟩ d) base S (Xa (some ⟨g,0,none⟩) (A.length+(B.length+1)) m) (A++[it]) B:=by
 obtain⟨p,h,h1,q,u,r,I⟩:=H
 cases h
 case nil=>simp at q
 rename_i c h
 obtain⟨F,rfl,X⟩:=r 0 it c rfl rfl;have o:=zh7 h1 u;obtain⟨Q,P,tail,e,J,O,v,M,z⟩:=I.row (by simp;omega);cases e;have U:A.length+(B.length+1)<=m:=v;have N:zad (Xa (some ⟨g,0,none⟩) (A.length+(B.length+1)) m) g:=⟨g,_,_,rfl,by omega,rfl⟩
 have E:=O.set (j:=A.length * 2+1) (by simp[o]) d
 have G:(p.flatten++([St it.1,F]::h).flatten).set (A.length * 2+1) d=(p++[[St it.1,d]]).flatten++h.flatten:=by rw[<- o,List.set_append_right _ _ (by omega)];simp
 rw[G]at E;have w:(h.flatten).length=B.length * 2:=zh7 (W:=W) (S:=S) (by simpa using q) (fun i x vs a f=>r (i+1) x vs a f)
 have D:Own (W.setCell ⟨g,A.length * 2+1,none⟩ d) l 59 2 d it.2.length (it.2.flatMap zaj) :=
  C.keep fun b hb L=>Below.heap_setCell _ _ _ _ (fun e=>by have:=(C.base_le hb).1;have t:b=g:=e;omega)
 refine⟨p++[[St it.1,d]],h,by simp[h1],by simpa using q,fun i x vs a f=>?_,fun i x vs a f=>?_,?_⟩
 ·by_cases K:i<A.length
  ·rw[Qn K]at a;rw[Qn (by omega)]at f;exact itemT.keep (u i x vs a f) fun b hb _=>Below.heap_setCell _ _ _ _ (fun e=>hb.2 (e▸N))
  rw[Qg (by omega)]at a;rw[Qg (by omega)]at f
  have y:i-A.length=0:=by have:=(Qa.1 a).1;simp at this;exact this
  rw[y]at a;rw[h1,y]at f;simp at a f;subst a;subst f;refine⟨d,rfl,D.slOwn.mono (by decide) fun b L hb=>?_⟩;have:=(D.base_le hb).1;exact⟨by omega,fun⟨R,Y,c2,e,_,t⟩=>by cases e;omega⟩
 ·exact itemT.keep (r (i+1) x vs a f) fun b hb _=>Below.heap_setCell _ _ _ _ (fun e=>by have:=hk b hb;have t:b=g:=e;omega)
 have s:((p++[[St it.1,d]]).flatten++h.flatten).length=(A.length+(B.length+1)) * 2:=by simp[o,w];omega
 have:=E.own (k:=2) (n:=A.length+(B.length+1)) J v M (by simp only[List.length_append]at z s ⊢;simp[o,w]at z ⊢;omega) (List.take_of_length_le (by rw[s];exact Qk _)) s
 rw[show(A++[it]).length+B.length=A.length+(B.length+1) by simp;omega];exact this
structure EntNew (w:Xf) (base:Nat) (e:Entry) (v1 v2 v3:Xg):Prop where
 seen:Own w base 97 2 v1 e.seen.length (e.seen.flatMap zaj)
 counts:Own w base 54 3 v2 e.counts.length (e.counts.flatMap zbx)
 items:OwnL itemT 57 w base (fun b=>base<=b) v3 e.items
theorem EntNew.fm {w:Xf}{S:Nat}{e:Entry}{v1 v2 v3:Xg}(d:EntNew w S e v1 v2 v3):∃A a B b C c,v1=Xa A e.seen.length a∧v2=Xa B e.counts.length b∧v3=Xa C e.items.length c:=by obtain⟨A,a,h1,-,-⟩:=d.seen.form;obtain⟨B,b,f,-,-⟩:=d.counts.form;obtain⟨C,c,g,-,-⟩:=d.items.form;exact⟨A,a,B,b,C,c,h1,f,g⟩
theorem EntNew.ext {w w':Xf}{base:Nat}{e:Entry}{v1 v2 v3:Xg}(a:EntNew w base e v1 v2 v3)(b:Ext w w'):EntNew w' base e v1 v2 v3:=⟨a.seen.ext b,a.counts.ext b,a.items.ext b⟩
theorem EntNew.lower {w:Xf}{base base':Nat}{e:Entry}{v1 v2 v3:Xg}(h:EntNew w base e v1 v2 v3)(hb:base'<=base):EntNew w base' e v1 v2 v3 :=
 ⟨h.seen.lower hb,h.counts.lower hb,(h.items.lower hb).mono fun b _ h=>Qi hb h⟩
theorem EntNew.at {w:Xf}{base:Nat}{e:Entry}{v1 v2 v3:Xg}(h:EntNew w base e v1 v2 v3):EntAt w (fun b=>base<=b) e v1 v2 v3 :=
 ⟨zbb h.seen,(OwnL.flat_iff (S:=fun b=>base<=b).2 h.counts).sl (by decide) (fun _ _ h=>h) (fun _ h _=>h),h.items.sl (by decide) (fun _ _ h=>h) (fun _ h _=>h)⟩
theorem zea {w wr:Xf}{S:Nat->Prop}{A:Option Addr}{n c:Nat}{l pre post:List Entry}{m:Entry}(d:Sl entryT w S (Xa A n c) l)(hb:Ext w wr)(g:l=pre++m::post) :
  ∃b o v1 v2 v3,A=some ⟨b,o,none⟩/\wr.cell? ⟨b,o+pre.length * 7,none⟩=some (St m.key)/\wr.cell? ⟨b,o+pre.length * 7+1,none⟩=some v1/\wr.cell? ⟨b,o+pre.length * 7+2,none⟩=some v2 /\
   wr.cell? ⟨b,o+pre.length * 7+3,none⟩=some v3/\wr.cell? ⟨b,o+pre.length * 7+4,none⟩=some (U m.cell.1)/\wr.cell? ⟨b,o+pre.length * 7+5,none⟩=some (St m.cell.2.1)/\wr.cell? ⟨b,o+pre.length * 7+6,none⟩=some (Xb m.cell.2.2)/\EntAt w S m v1 v2 v3:=by
 obtain⟨b,o,vs,i,h,j,⟨v1,v2,v3,rfl,h1,e,f⟩,a⟩:=d.at_ g;injection h with e1 e2 e3
 subst e1;exact⟨b,o,v1,v2,v3,rfl,hb.cell (a 0 _ rfl),hb.cell (a 1 _ rfl),hb.cell (a 2 _ rfl),hb.cell (a 3 _ rfl),hb.cell (a 4 _ rfl),hb.cell (a 5 _ rfl),hb.cell (a 6 _ rfl),⟨h1,e,f⟩⟩
def plF:Nat->List (Str×Int)->List Entry->List (Str×Int)
 | _,L,[]=>L
 | i,L,e::r=>plF (i+1) (if e.key∈L.map Prod.fst then L else putL L e.key (i:Int)) r
def zdd {κ ν:Type}[DecidableEq κ](L:List (κ×ν))(k:κ):Option ν:=L.lookup k
theorem zfa {κ ν:Type}[DecidableEq κ](p:κ×ν)(L:List (κ×ν))(k:κ):zdd (p::L) k=if k=p.1 then some p.2 else zdd L k:=by
 obtain⟨a,b⟩:=p;unfold zdd
 by_cases c:k=a
 ·subst c;simp
 have:(k==a)=false:=by simpa using c
 simp[List.lookup_cons,this,c]
theorem zuv {κ ν:Type}[DecidableEq κ]{L:List (κ×ν)}{k x:κ}{v:ν}(a:k∉L.map Prod.fst):zdd (L++[(k,v)]) x=match zdd L x with|some u=>some u|none=>if x=k then some v else none:=by
 induction L with
 | nil=>simp only[Qq,zfa];rfl
 | cons p l c =>
  simp only[Qh,List.mem_cons,not_or]at a;simp only[Qw,zfa]
  by_cases b:x=p.1
  ·simp[b]
  simp only[zN b];exact c a.2
theorem zgv {κ ν:Type}[DecidableEq κ]{L:List (κ×ν)}{k:κ}:decide (k∈L.map Prod.fst)=(zdd L k).isSome:=by
 induction L with
 | nil=>rfl
 | cons p l b =>
  rw[zfa]
  by_cases a:k=p.1
  ·simp[a]
  rw[zN a,<- b];simp[a]
theorem zhc:∀(l:List Entry) (i:Nat) (L:List (Str×Int)) (k:Str),zdd (plF i L l) k=match zdd L k with|some v=>some v|none=>(l.findIdx? (fun e=>decide (e.key=k))).map fun j=>((i+j:Nat):Int)
 | [],i,L,k=>by simp only[plF,List.findIdx?_nil,Option.map_none];cases zdd L k<;>rfl
 | e::r,i,L,k=>by
  rw[plF,zhc r]
  by_cases a:e.key∈L.map Prod.fst
  ·rw[zP a]
   cases b:zdd L k
   case some v=>rfl
   have hk:e.key≠k:=by rintro rfl;have:=zgv (L:=L) (k:=e.key);rw[b]at this;simp[a]at this
   simp only[Ql,decide_eq_false hk,Bool.false_eq_true,if_false,Qx]
   congr 1
   funext j
   simp;omega
  rw[zN a,putL,zN a,zuv a]
  cases b:zdd L k
  case some v=>rfl
  by_cases hk:k=e.key
  ·subst hk;simp[Ql]
  simp only[zN hk,Ql,decide_eq_false (Ne.symm hk),Bool.false_eq_true,if_false,Qx]
  congr 1
  funext j
  simp;omega
theorem zrg (n:Int)(w:Xf):(Instr.makeMap 129 (some (I n))).run Tryz.prog w=.ok (.map (some w.heap.size)) (w.alloc (.map #[] 0)):=by
 simp[Instr.makeMap,run_underlying Tryz.underlying129,asInt,asIntOf]
theorem zk0 {S:Nat->Prop}{v:Xg}{l:List Entry}{w:Xf}(r:Sl entryT w S v l) :
  Calls Tryz.prog 58 #[v] w fun e w'=>∃m,e=Xe (.map (some m))/\w.heap.size<=m/\MapIs St I w' m (plF 0 [] l)/\Ext w w':=by
 have B:=r;obtain⟨A,c,rfl,aa,ab⟩:=r.form;have G:=zH (fun(pre post:List Entry) (m:Entry) (wr:Xf) (J:Ext w wr) (a:l=pre++m::post)=>zea B J a);have ae:=zrg;clear r B;go_enter Tryz.func58,Tryz.ntmps58;go_wp2_with fail
 go_loopw [13] (fun i wr=>∃pre post L,l=pre++post/\i=I pre.length/\Hid (plF 0 [] l=plF pre.length L post)/\MapIs St I wr w.heap.size L/\Ext w wr) (fun i _=>l.length-(intOf i).toNat)
 case atStart=>exact⟨[],l,[],rfl,rfl,zH rfl,MapIs.new w,(Xh w).alloc _⟩
 obtain⟨pre,post,L,a,rfl,p,j,g⟩:=hrel
 cases post with
 | cons m post =>
  obtain⟨b,o,v1,v2,v3,rfl,e0,R,T,V,W,X,Y,u⟩:=G.out pre post m wr g a;obtain⟨D,K,E,M,F,N,rfl,rfl,rfl⟩:=u.fm;have ad:pre.length<l.length:=(by rw[a];simp);have t:=zH a;have s:=(Xh wr).alloc (Xd #[St m.key,Xa D m.seen.length K,Xa E m.counts.length M,Xa F m.items.length N,U m.cell.1,St m.cell.2.1,Xb m.cell.2.2] 46);have k:=j.ext s;have q:=(zbi (P:=Tryz.prog) (z:=0) Tryz.underlying129 zd8 zmf k m.key).2;have Z:=j.lt;obtain⟨z,C⟩:∃z,getL 0 L m.key=z:=⟨_,rfl⟩
  rw[C]at q;have n:=zH (g.trans s);have O:=zH g;have d:=zH (show plF 0 [] l=plF (pre.length+1) (if m.key∈L.map Prod.fst then L else putL L m.key (pre.length:Int)) post from p.out);clear a u p j g s C
  by_cases f:m.key∈L.map Prod.fst
  ·simp only[f,decide_true]at q;rw[zP f]at d;have h:=zH k;clear f k;go_wp2_with fail;go_roundw
   case rel=>exact⟨pre++[m],post,L,by rw[t.out];simp,by simp,by simpa using d,h.out,n.out⟩
   case measure=>simp[intOf];omega
  simp only[f,decide_false]at q;rw[zN f]at d;obtain⟨Q,af,x,y⟩:=zaw (P:=Tryz.prog) Tryz.underlying129 zd8 k m.key (pre.length:Int);have h:=zH x;have H:=zH (n.out.turned y (Qk _));clear f k x y;go_wp2_with fail;go_roundw
  case rel=>exact⟨pre++[m],post,_,by rw[t.out];simp,by simp,by simpa using d,h.out,H.out⟩
  case measure=>simp[intOf];omega
 | nil=>rw[Qb]at a;have ac:l.length=pre.length:=(by rw[a]);have h:=zH j;have n:=zH g;have d:=p;clear a p j g;go_wp2_with fail;go_ret;exact⟨_,rfl,Qk _,by rw[d.out];exact h.out,n.out⟩
attribute [local go_sem] Oper.semAt_some
def zcf:List Str->List Str->List Str
 | [],[]=>[]
 | a::r,[]=>a::zcf r []
 | [],b::s=>b::zcf [] s
 | a::r,b::s =>
  if a==b then b::zcf r s
  else if ltS a b then a::zcf r (b::s)
  else b::zcf (a::r) s
termination_by a b=>a.length+b.length
theorem zo1 (a:Str)(r:List Str):zcf (a::r) []=a::zcf r []:=by rw[zcf]
theorem zo2 (b:Str)(s:List Str):zcf [] (b::s)=b::zcf [] s:=by rw[zcf]
theorem zz1 (r s:List Str)(k:Str):zcf (k::r) (k::s)=k::zcf r s:=by rw[zcf];simp
theorem zz2 {a b:Str}(r s:List Str)(h1:(a==b)=false)(c:ltS a b=true):zcf (a::r) (b::s)=a::zcf r (b::s):=by rw[zcf,zN (by simp[h1]),zP c]
theorem zz3 {a b:Str}(r s:List Str)(h1:(a==b)=false)(c:ltS a b=false):zcf (a::r) (b::s)=b::zcf (a::r) s:=by rw[zcf,zN (by simp[h1]),zN (by simp[c])]
abbrev zb8 (a b:List Entry):List Str:=zcf (a.map (·.key)) (b.map (·.key))
theorem zch {w wr:Xf}{S:Nat->Prop}{A:Option Addr}{n c d:Nat}{l pre post:List Entry}{m:Entry}(f:Sl entryT w S (Xa A n c) l)(j:∀b,S b->b<w.heap.size->b<d)(hb:KpS S d w wr)(i:l=pre++m::post) :
  ∃b o,A=some ⟨b,o,none⟩/\wr.cell? ⟨b,o+pre.length * 7,none⟩=some (St m.key):=by
 obtain⟨b,o,vs,p,k,e,⟨v1,v2,v3,rfl,h1,q,r⟩,h⟩:=f.at_ i;injection k with e1 e2 e3
 subst e1;have h0:=h 0 _ rfl;have g:b<w.heap.size:=zae h0;exact⟨b,o,rfl,(World.cell?_of_block (a:=⟨b,_,none⟩) (hb.2 b e (j b e g))).trans h0⟩
theorem zz4 (n l R T n₀:Nat){S:Nat->Prop}{ar au:Xg}{A B:List Entry}(K ap:List Str->Xf->Prop)(a7:1<=n)(W:Xf)(hJ:AbidesFrom W.heap.size K)(P:n₀<=W.heap.size)(E:∀pre x W,K pre W->pre.length<(zb8 A B).length->YieldAt Fence.wide (n-1) Tryz.prog l #[St x] W fun e L=>(e=Xe (Xb true)/\K (pre++[x]) L/\KpS S n₀ W L) ∨ (e=Xe (Xb false)/\ap (pre++[x]) L))(h1:W.cell? ⟨R,0,none⟩=some ar)(M:W.cell? ⟨T,0,none⟩=some au)(s:S R/\R<n₀)(t:S T/\T<n₀)(ha:Sl entryT W S ar A)(hb:Sl entryT W S au B)(h:∀b,S b->b<W.heap.size->b<n₀)(h0:K [] W) :
  CallsIn Fence.wide n Tryz.prog 109 #[.func (.yield l) #[] #[],.pointer (some ⟨R,0,none⟩),.pointer (some ⟨T,0,none⟩)] W fun e L=>(∃v,e=Xe v) /\
   ((∃av,av=zb8 A B/\K av L) ∨ (∃pre,pre <+: zb8 A B/\ap pre L)):=by
 obtain⟨az,a1,rfl,a3,a4⟩:=ha.form;obtain⟨a0,a2,rfl,a5,a6⟩:=hb.form;refine callsIn_of_wp Tryz.func109 rfl trivial ?_ rfl;simp only[Tryz.ntmps109,List.size_toArray,List.length_cons,Qp,Nat.reduceAdd,Nat.reduceSub,Array.replicate_succ,Array.replicate_zero,List.push_toArray,List.append_toArray,Qq,Qw]
 gi_wp2
 gi_loopw [4,5] (fun i j wr=>∃o r preB m done,A=o++r/\B=preB++m/\i=I o.length/\j=I preB.length/\zb8 A B=done++zb8 r m/\K done wr/\KpS S n₀ W wr)
  (fun i j _=>A.length+B.length-(intOf i).toNat-(intOf j).toNat)
 case atStart=>exact⟨[],A,[],B,[],rfl,rfl,rfl,rfl,rfl,h0,KpS.refl _ _ _⟩
 obtain⟨o,r,preB,m,done,f,g,rfl,rfl,u,D,hk⟩:=hrel;have c1:=zds h1 s.1 s.2 hk;have c2:=zds M t.1 t.2 hk
 cases r
 case nil=>
  cases m
  case nil=>
   rw[Qb]at f g;subst f;subst g;have d:=zH u;clear u
   gi_wp2
   go_end0
   exact⟨⟨_,rfl⟩,.inl ⟨_,rfl,by rw[d.out];simp only[zb8,Qj];rw[zcf,Qb];exact D⟩⟩
  rename_i b m
  have O:=zH hb;rw[Qb]at f;subst f;obtain⟨ah,an,rfl,ad⟩:=zch hb h hk g;have ak:preB.length<B.length:=(by rw[g];simp);have y:=zH g;have d:=zH (show zb8 A B=done++b.key::zb8 [] m from by rw[u];simp only[zb8,Qh,Qj];rw[zo2]);have F:=zH hJ;have J:=zH E;have p:=zH hk;have H:=zH D;have X:((A.length:Int)==A.length)=true:=(by simp);have Y:((preB.length:Int)==B.length)=false:=(by rw[beq_eq_false_iff_ne];omega);clear u hJ E hk D hb ha g
  gi_wp2
  gi_quiet (fail)
  obtain⟨Z,tmps,assign,body,aa,hR⟩:=J.out done (b.key) (wr.drewN nq) (F.out done wr ((wr.drewN nq)) none H.out (zb3 ((Xh wr).drewN nq)) (by simp)) (by rw[d.out];simp)
  gi_wp2
  refine hR.mono ?_;rintro e U (⟨rfl,hJ3,hk3⟩|⟨rfl,hJx3⟩)
  ·have c:=zH ((p.out.trans (((Xh wr).drewN nq).kpS (Qi P p.out.1))).trans hk3);have G:=zH hJ3;clear hk3 hJ3;have d1:=zds h1 s.1 s.2 c.out;have V:=zds M t.1 t.2 c.out;obtain⟨ai,ao,C,ae⟩:=zch O.out h c.out y.out;simp only[Qd,Addr.mk.injEq,and_true]at C;obtain⟨rfl,rfl⟩:=C
   gi_wp2
   go_roundw
   case rel=>exact⟨A,[],preB++[b],m,done++[b.key],by simp,by rw[y.out];simp,by simp,by simp,by rw[d.out];simp,G.out,c.out⟩
   case measure=>simp[intOf];omega
  gi_wp2
  refine bodyPost_ret (results_none rfl _ _ _) rfl ?_;exact⟨⟨_,rfl⟩,.inr ⟨done++[b.key],⟨_,by rw[d.out,Qf];rfl⟩,hJx3⟩⟩
 rename_i a r
 cases m
 case nil=>
  have N:=zH ha;rw[Qb]at g;subst g;obtain⟨af,al,rfl,ab⟩:=zch ha h hk f;have aj:o.length<A.length:=(by rw[f];simp);have w:=zH f;have d:=zH (show zb8 A B=done++a.key::zb8 r []from by rw[u];simp only[zb8,Qh,Qj];rw[zo1]);have F:=zH hJ;have J:=zH E;have p:=zH hk;have H:=zH D;have X:((o.length:Int)==A.length)=false:=(by rw[beq_eq_false_iff_ne];omega);have Y:((B.length:Int)==B.length)=true:=(by simp);clear u hJ E hk D hb ha f
  gi_wp2
  gi_quiet (fail)
  obtain⟨Z,tmps,assign,body,aa,hR⟩:=J.out done (a.key) (wr.drewN nq) (F.out done wr ((wr.drewN nq)) none H.out (zb3 ((Xh wr).drewN nq)) (by simp)) (by rw[d.out];simp)
  gi_wp2
  refine hR.mono ?_;rintro e U (⟨rfl,hJ3,hk3⟩|⟨rfl,hJx3⟩)
  ·have c:=zH ((p.out.trans (((Xh wr).drewN nq).kpS (Qi P p.out.1))).trans hk3);have G:=zH hJ3;clear hk3 hJ3;have d1:=zds h1 s.1 s.2 c.out;have V:=zds M t.1 t.2 c.out;obtain⟨ag,am,z,ac⟩:=zch N.out h c.out w.out;simp only[Qd,Addr.mk.injEq,and_true]at z;obtain⟨rfl,rfl⟩:=z
   gi_wp2
   go_roundw
   case rel=>exact⟨o++[a],r,B,[],done++[a.key],by rw[w.out];simp,by simp,by simp,by simp,by rw[d.out];simp,G.out,c.out⟩
   case measure=>simp[intOf];omega
  gi_wp2
  refine bodyPost_ret (results_none rfl _ _ _) rfl ?_;exact⟨⟨_,rfl⟩,.inr ⟨done++[a.key],⟨_,by rw[d.out,Qf];rfl⟩,hJx3⟩⟩
 rename_i b m
 have N:=zH ha;have O:=zH hb;rcases zfp a.key b.key with⟨q1,ax,q3,q4,ay⟩|q|⟨q1,ax,q3,q4,ay⟩
 ·skip
  obtain⟨af,al,rfl,ab⟩:=zch ha h hk f;obtain⟨ah,an,rfl,ad⟩:=zch hb h hk g;have aj:o.length<A.length:=(by rw[f];simp);have w:=zH f;have ak:preB.length<B.length:=(by rw[g];simp);have y:=zH g;have d:=zH (show zb8 A B=done++a.key::zb8 r (b::m)from by rw[u];simp only[zb8,Qh,Qj];rw[zz2 _ _ q3 q1]);have F:=zH hJ;have J:=zH E;have p:=zH hk;have H:=zH D;have X:((o.length:Int)==A.length)=false:=(by rw[beq_eq_false_iff_ne];omega);have Y:((preB.length:Int)==B.length)=false:=(by rw[beq_eq_false_iff_ne];omega);clear u hJ E hk D hb ha f g
  gi_wp2
  gi_quiet (fail)
  obtain⟨Z,tmps,assign,body,aa,hR⟩:=J.out done (a.key) (wr.drewN nq) (F.out done wr ((wr.drewN nq)) none H.out (zb3 ((Xh wr).drewN nq)) (by simp)) (by rw[d.out];simp)
  gi_wp2
  refine hR.mono ?_;rintro e U (⟨rfl,hJ3,hk3⟩|⟨rfl,hJx3⟩)
  ·have c:=zH ((p.out.trans (((Xh wr).drewN nq).kpS (Qi P p.out.1))).trans hk3);have G:=zH hJ3;clear hk3 hJ3;have d1:=zds h1 s.1 s.2 c.out;have V:=zds M t.1 t.2 c.out;obtain⟨ag,am,z,ac⟩:=zch N.out h c.out w.out;simp only[Qd,Addr.mk.injEq,and_true]at z;obtain⟨rfl,rfl⟩:=z;obtain⟨ai,ao,C,ae⟩:=zch O.out h c.out y.out;simp only[Qd,Addr.mk.injEq,and_true]at C;obtain⟨rfl,rfl⟩:=C
   gi_wp2
   go_roundw
   case rel=>exact⟨o++[a],r,preB,b::m,done++[a.key],by rw[w.out];simp,y.out,by simp,by simp,by rw[d.out];simp,G.out,c.out⟩
   case measure=>simp[intOf];omega
  gi_wp2
  refine bodyPost_ret (results_none rfl _ _ _) rfl ?_;exact⟨⟨_,rfl⟩,.inr ⟨done++[a.key],⟨_,by rw[d.out,Qf];rfl⟩,hJx3⟩⟩
 ·obtain⟨Q,aq⟩:∃k,a.key=k:=⟨_,rfl⟩
  have aw:b.key=Q:=q.symm.trans aq;clear q;obtain⟨af,al,rfl,ab⟩:=zch ha h hk f;obtain⟨ah,an,rfl,ad⟩:=zch hb h hk g;have aj:o.length<A.length:=(by rw[f];simp);have w:=zH f;have ak:preB.length<B.length:=(by rw[g];simp);have y:=zH g;have d:=zH (show zb8 A B=done++Q::zb8 r m from by rw[u];simp only[zb8,Qh,Qj];rw[aq,aw,zz1]);have F:=zH hJ;have J:=zH E;have p:=zH hk;have H:=zH D;have X:((o.length:Int)==A.length)=false:=(by rw[beq_eq_false_iff_ne];omega);have Y:((preB.length:Int)==B.length)=false:=(by rw[beq_eq_false_iff_ne];omega);clear u hJ E hk D hb ha f g
  gi_wp2
  gi_quiet (fail)
  obtain⟨Z,tmps,assign,body,aa,hR⟩:=J.out done (Q) (wr.drewN nq) (F.out done wr ((wr.drewN nq)) none H.out (zb3 ((Xh wr).drewN nq)) (by simp)) (by rw[d.out];simp)
  gi_wp2
  refine hR.mono ?_;rintro e U (⟨rfl,hJ3,hk3⟩|⟨rfl,hJx3⟩)
  ·have c:=zH ((p.out.trans (((Xh wr).drewN nq).kpS (Qi P p.out.1))).trans hk3);have G:=zH hJ3;clear hk3 hJ3;have d1:=zds h1 s.1 s.2 c.out;have V:=zds M t.1 t.2 c.out;obtain⟨ag,am,z,ac⟩:=zch N.out h c.out w.out;simp only[Qd,Addr.mk.injEq,and_true]at z;obtain⟨rfl,rfl⟩:=z;obtain⟨ai,ao,C,ae⟩:=zch O.out h c.out y.out;simp only[Qd,Addr.mk.injEq,and_true]at C;obtain⟨rfl,rfl⟩:=C
   gi_wp2
   go_roundw
   case rel=>exact⟨o++[a],r,preB++[b],m,done++[Q],by rw[w.out];simp,by rw[y.out];simp,by simp,by simp,by rw[d.out];simp,G.out,c.out⟩
   case measure=>simp[intOf];omega
  gi_wp2
  refine bodyPost_ret (results_none rfl _ _ _) rfl ?_;exact⟨⟨_,rfl⟩,.inr ⟨done++[Q],⟨_,by rw[d.out,Qf];rfl⟩,hJx3⟩⟩
 skip
 obtain⟨af,al,rfl,ab⟩:=zch ha h hk f;obtain⟨ah,an,rfl,ad⟩:=zch hb h hk g;have aj:o.length<A.length:=(by rw[f];simp);have w:=zH f;have ak:preB.length<B.length:=(by rw[g];simp);have y:=zH g;have d:=zH (show zb8 A B=done++b.key::zb8 (a::r) m from by rw[u];simp only[zb8,Qh,Qj];rw[zz3 _ _ q3 q1]);have F:=zH hJ;have J:=zH E;have p:=zH hk;have H:=zH D;have X:((o.length:Int)==A.length)=false:=(by rw[beq_eq_false_iff_ne];omega);have Y:((preB.length:Int)==B.length)=false:=(by rw[beq_eq_false_iff_ne];omega);clear u hJ E hk D hb ha f g
 gi_wp2
 gi_quiet (fail)
 obtain⟨Z,tmps,assign,body,aa,hR⟩:=J.out done (b.key) (wr.drewN nq) (F.out done wr ((wr.drewN nq)) none H.out (zb3 ((Xh wr).drewN nq)) (by simp)) (by rw[d.out];simp)
 gi_wp2
 refine hR.mono ?_;rintro e U (⟨rfl,hJ3,hk3⟩|⟨rfl,hJx3⟩)
 ·have c:=zH ((p.out.trans (((Xh wr).drewN nq).kpS (Qi P p.out.1))).trans hk3);have G:=zH hJ3;clear hk3 hJ3;have d1:=zds h1 s.1 s.2 c.out;have V:=zds M t.1 t.2 c.out;obtain⟨ag,am,z,ac⟩:=zch N.out h c.out w.out;simp only[Qd,Addr.mk.injEq,and_true]at z;obtain⟨rfl,rfl⟩:=z;obtain⟨ai,ao,C,ae⟩:=zch O.out h c.out y.out;simp only[Qd,Addr.mk.injEq,and_true]at C;obtain⟨rfl,rfl⟩:=C
  gi_wp2
  go_roundw
  case rel=>exact⟨o,a::r,preB++[b],m,done++[b.key],w.out,by rw[y.out];simp,by simp,by simp,by rw[d.out];simp,G.out,c.out⟩
  case measure=>simp[intOf];omega
 gi_wp2
 refine bodyPost_ret (results_none rfl _ _ _) rfl ?_;exact⟨⟨_,rfl⟩,.inr ⟨done++[b.key],⟨_,by rw[d.out,Qf];rfl⟩,hJx3⟩⟩
end
section
open Go.RowKit Go.Shelf
theorem zyc (m:Entry)(v1 v2 v3:Xg)(s:Str)(W:Xf):Calls Tryz.prog 86 #[entV m v1 v2 v3,St s] W fun e w'=>e=Xe (I (cmpS m.key s))/\Ext W w':=by
 have a:=zH zhl;go_enter Tryz.func86,Tryz.ntmps86;go_wp2_with fail;refine(a.out _ _ _).mono ?_;rintro e w'⟨rfl,rfl⟩;go_wp2;go_ret;exact⟨rfl,(Xh _).alloc _⟩
theorem zm4 {S:Nat->Prop}{v:Xg}{l:List Entry}{w:Xf}(s:Str)(J:Sl entryT w S v l)(hR:RiseS (l.map (·.key)))(al:l.length<=1099511627776) :
  Calls Tryz.prog 85 #[v,St s,.func (.func 86) #[] #[]] w fun e w'=>∃(i:Nat) (is:Bool),e=Xe (.tuple #[I i,Xb is])/\Found (l.map (·.key)) s i is/\Ext w w':=by
 have R:=J;obtain⟨A,c,rfl,h1,ah⟩:=J.form;have ag:∀args w,(callFunc 86 args).run Tryz.prog w=.ok (.enter 86 args) w:=enters_of Tryz.func86 (by kernel_rfl) rfl;have M:=zH zyc;have O:=zH hR
 have L:=zH (fun(k:Nat) (m:Entry) (wr:Xf) (d:Ext w wr) (f:l[k]? = some m)=>by
  have ad:=(Qa.1 f).1
  have af:l=l.take k++m::l.drop (k+1):=by have e:=(Qa.1 f).2;rw[<- e,Qr,Qs]
  have:=zea R d af
  rwa[show(l.take k).length=k by simp;omega]at this)
 clear J R hR;go_enter Tryz.func85,Tryz.ntmps85;go_wp2_with fail
 go_loopw [9,10] (fun a b wr=>∃i j:Nat,a=I i/\b=I j/\i<=j/\j<=l.length/\Hid (Cut (l.map (·.key)) s i j)/\Ext w wr) (fun a b _=>(intOf b).toNat-(intOf a).toNat)
 case atStart=>exact⟨0,l.length,rfl,rfl,Nat.zero_le _,Qk _,zH ⟨fun k x hk=>by omega,fun k x hk p=>by have:=(Qa.1 p).1;simp at this;omega⟩,Xh _⟩
 obtain⟨i,j,rfl,rfl,ak,P,hcut,p⟩:=hrel
 by_cases ad:i<j
 ·obtain⟨d,ai⟩:∃d,(i+j) / 2=d:=⟨_,rfl⟩
  have ab:i<=d:=(by omega);have aj:d<j:=(by omega);have ac:d<l.length:=(by omega);obtain⟨m,f⟩:∃m,l[d]? = some m:=⟨_,Qe ac⟩
  obtain⟨b,o,a1,a2,a3,rfl,e0,V,W,X,Y,Z,aa,y⟩:=L.out d m wr p f;obtain⟨B,c1,C,c2,D,G,rfl,rfl,rfl⟩:=y.fm;clear y;have t:=zH (M.out m (Xa B m.seen.length c1) (Xa C m.counts.length c2) (Xa D m.items.length G) s wr);have U:=zH f;have g:=zH p;clear f p;have an:IntKind.i64.wrap ((i:Int)+j)=(i:Int)+j:=IntWalk.i64_in _ (by omega);have Q:∀n:Int,n=(i+j) / 2->n=d:=fun n am=>by omega
  have N:=zH Q;clear Q;have z:(l.map (·.key))[d]? = some m.key:=(by rw[Qu,U.out];rfl);have u:=zH z;clear z;cases h:ltS m.key s
  ·have ae:¬cmpS m.key s<0:=fun k=>by rw[cmpS_lt.1 k]at h;cases h
   have F:=zH h;clear h;go_wp2_with fail;refine t.out.mono ?_;rintro e K⟨rfl,q⟩;go_wp2_with fail;go_roundw
   case rel=>exact⟨i,d,rfl,congrArg (Value.int .i64) (N.out _ rfl),ab,by omega,zH (Cut.right O.out hcut.out u.out F.out),g.out.trans q⟩
   case measure=>simp only[intOf];omega
  have ae:cmpS m.key s<0:=cmpS_lt.2 h;have F:=zH h;clear h;go_wp2_with fail;refine t.out.mono ?_;rintro e K⟨rfl,q⟩;go_wp2_with fail;go_roundw
  case rel=>exact⟨d+1,j,congrArg (Value.int .i64) (by have:=N.out _ rfl;omega),rfl,by omega,P,zH (Cut.left O.out hcut.out u.out F.out),g.out.trans q⟩
  case measure=>simp only[intOf];omega
 obtain rfl:i=j:=by omega
 have g:=zH p;clear p
 by_cases H:i<l.length
 ·obtain⟨m,f⟩:∃m,l[i]? = some m:=⟨_,Qe H⟩
  obtain⟨b,o,a1,a2,a3,rfl,e0,V,W,X,Y,Z,aa,y⟩:=L.out i m wr g.out f;obtain⟨B,c1,C,c2,D,G,rfl,rfl,rfl⟩:=y.fm;clear y;have t:=zH (M.out m (Xa B m.seen.length c1) (Xa C m.counts.length c2) (Xa D m.items.length G) s wr);have z:(l.map (·.key))[i]? = some m.key:=(by rw[Qu,f];rfl);have u:=zH z;clear z f
  by_cases r:m.key=s
  ·have h0:cmpS m.key s=0:=cmpS_eq.2 r;have E:=zH r;have T:=zH h0;clear r h0;go_wp2_with fail;refine t.out.mono ?_;rintro e K⟨rfl,q⟩;rw[T.out];go_wp2_with fail
   go_ret2
   exact⟨i,true,rfl,⟨by simpa using Qo H,hcut.out,by rw[u.out,E.out];simp⟩,g.out.trans q⟩
  have h0:(cmpS m.key s==0)=false:=by rw[beq_eq_false_iff_ne];exact fun k=>r (cmpS_eq.1 k)
  have E:=zH r;clear r;go_wp2_with fail;refine t.out.mono ?_;rintro e K⟨rfl,q⟩;go_wp2_with fail
  go_ret2
  exact⟨i,false,rfl,⟨by simpa using Qo H,hcut.out,by rw[u.out];simp[E.out]⟩,g.out.trans q⟩
 go_wp2_with fail
 go_ret2
 exact⟨i,false,rfl,⟨by simpa using P,hcut.out,by rw[Qt (by simp;omega)];simp⟩,g.out⟩
theorem yam (s:Str)(w:Xf):Calls Tryz.prog 90 #[St s] w fun e w'=>e=Xe (Xb false)/\w'=w:=by
 go_enter Tryz.func90,Tryz.ntmps90;go_wp2;go_ret;exact⟨by simp,rfl⟩
theorem yan (s:Str)(w:Xf):Calls Tryz.prog 139 #[St s] w fun e w'=>e=Xe (Xb false)/\w'=w:=by
 go_enter Tryz.func139,Tryz.ntmps139;go_wp2;go_ret;exact⟨by simp,rfl⟩
theorem yao (a b:Str)(w:Xf):Calls Tryz.prog 89 #[St a,St b] w fun e w'=>e=Xe (Xb (ltS a b))/\w'=w:=by
 have H:=zH yan;go_enter Tryz.func89,Tryz.ntmps89;go_wp2_with fail;refine(H.out _ _).mono ?_;rintro e w'⟨rfl,rfl⟩
 cases h:Op.bytesLess a b <;>
 ·go_wp2_with fail;go_ret;exact⟨by simp[ltS,h],rfl⟩
theorem zti {S:Nat->Prop}{v:Xg}{l:List Str}{w:Xf}(s:Str)(B:Sl strT w S v l)(hR:RiseS (l))(X:l.length<=1099511627776) :
  Calls Tryz.prog 40 #[v,St s] w fun e w'=>∃(i:Nat) (is:Bool),e=Xe (.tuple #[I i,Xb is])/\Found (l) s i is/\Ext w w':=by
 have J:=B;obtain⟨A,c,rfl,h1,T⟩:=B.form;have F:=zH hR
 have C:=zH (fun(k:Nat) (m:Str) (wr:Xf) (d:Ext w wr) (f:l[k]? = some m)=>by
  have P:=(Qa.1 f).1
  have R:l=l.take k++m::l.drop (k+1):=by have e:=(Qa.1 f).2;rw[<- e,Qr,Qs]
  have:=zg0 J d R
  rwa[show(l.take k).length=k by simp;omega]at this)
 clear B J hR;go_enter Tryz.func40,Tryz.ntmps40;go_wp2_with fail
 go_loopw [7,8] (fun a b wr=>∃i j:Nat,a=I i/\b=I j/\i<=j/\j<=l.length/\Hid (Cut (l) s i j)/\Ext w wr) (fun a b _=>(intOf b).toNat-(intOf a).toNat)
 case atStart=>exact⟨0,l.length,rfl,rfl,Nat.zero_le _,Qk _,zH ⟨fun k x hk=>by omega,fun k x hk p=>by have:=(Qa.1 p).1;omega⟩,Xh _⟩
 obtain⟨i,j,rfl,rfl,W,G,hcut,p⟩:=hrel
 by_cases P:i<j
 ·obtain⟨d,U⟩:∃d,(i+j) / 2=d:=⟨_,rfl⟩
  have N:i<=d:=(by omega);have V:d<j:=(by omega);have O:d<l.length:=(by omega);obtain⟨m,f⟩:∃m,l[d]? = some m:=⟨_,Qe O⟩
  obtain⟨b,o,rfl,e0⟩:=C.out d m wr p f;have D:=zH (yao m s wr);have L:=zH f;have g:=zH p;clear f p;have Z:IntKind.i64.wrap ((i:Int)+j)=(i:Int)+j:=IntWalk.i64_in _ (by omega);have H:∀n:Int,n=(i+j) / 2->n=d:=fun n Y=>by omega
  have E:=zH H;clear H;have u:(l)[d]? = some m:=L.out;have t:=zH u;clear u;cases h:ltS m s
  ·have Q:¬cmpS m s<0:=fun k=>by rw[cmpS_lt.1 k]at h;cases h
   have r:=zH h;clear h;go_wp2_with fail;refine D.out.mono ?_;rintro e K⟨rfl,rfl⟩;rw[r.out];go_wp2_with fail;go_roundw
   case rel=>exact⟨i,d,rfl,congrArg (Value.int .i64) (E.out _ rfl),N,by omega,zH (Cut.right F.out hcut.out t.out r.out),g.out⟩
   case measure=>simp only[intOf];omega
  have Q:cmpS m s<0:=cmpS_lt.2 h;have r:=zH h;clear h;go_wp2_with fail;refine D.out.mono ?_;rintro e K⟨rfl,rfl⟩;rw[r.out];go_wp2_with fail;go_roundw
  case rel=>exact⟨d+1,j,congrArg (Value.int .i64) (by have:=E.out _ rfl;omega),rfl,by omega,G,zH (Cut.left F.out hcut.out t.out r.out),g.out⟩
  case measure=>simp only[intOf];omega
 obtain rfl:i=j:=by omega
 have g:=zH p;clear p
 by_cases z:i<l.length
 ·obtain⟨m,f⟩:∃m,l[i]? = some m:=⟨_,Qe z⟩
  obtain⟨b,o,rfl,e0⟩:=C.out i m wr g.out f;have u:(l)[i]? = some m:=f;have t:=zH u;clear u f
  by_cases q:m=s
  ·have hb:(m==s)=true:=(by simpa using q);have y:=zH q;clear q;go_wp2_with fail
   go_ret2
   exact⟨i,true,rfl,⟨by simpa using Qo z,hcut.out,by rw[t.out,y.out];simp⟩,g.out⟩
  have hb:(m==s)=false:=(by simpa using q);have y:=zH q;have M:=zH (yam m wr);clear q;go_wp2_with fail;refine M.out.mono ?_;rintro e K⟨rfl,rfl⟩;go_wp2_with fail
  go_ret2
  exact⟨i,false,rfl,⟨by simpa using Qo z,hcut.out,by rw[t.out];simp[y.out]⟩,g.out⟩
 go_wp2_with fail
 go_ret2
 exact⟨i,false,rfl,⟨by simpa using G,hcut.out,by rw[Qt (by omega)];simp⟩,g.out⟩
end
end Go.Proofs.YtaabaflgeljbjaaGreat
