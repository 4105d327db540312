/- Laws. -/
import Derived.Test.YtaabaflgeljbjaaGreatPr08
import Derived.Test.YtaabaflgeljbjaaGreatPr10
import Derived.Test.YtaabaflgeljbjaaGreatPr06
import Derived.Test.YtaabaflgeljbjaaGreatPr05
set_option linter.unusedVariables false
set_option linter.unusedSimpArgs false
set_option maxRecDepth 100000
set_option maxHeartbeats 40000000
namespace Go.Proofs.YtaabaflgeljbjaaGreat
open Go.Obj renaming cells→Xa
open Go.Ending renaming returned→Xb
open Go renaming World→Xc,Value→Xd
open Ext renaming refl→Xe
open List renaming append_nil→Qa,filter_append→Qc,flatMap_append→Qe,append_cons→Qf,length_append→Qh,flatten_cons→Qi,findIdx?_eq_none_iff→Qj,flatten_nil→Qk,length_filter_le→Qo,filter_eq_self→Qq
open Nat renaming le_trans→Qb,le_refl→Qg,mul_one→Qm,zero_le→Qn,lt_of_lt_of_le→Qr
open Bool renaming and_eq_true→Qd,not_eq_true→Ql,and_eq_false_iff→Qp,not_eq_true'→Qs
section
open Go.RowKit
theorem zq1 {p B:Nat}{L:List (Str×Nat)}{w:Xc}(b:w.cell? ⟨B,0,none⟩=some (.map (some p)))(c:MapIs St U w p L)(j:L.length<=1099511627776) :
  Calls Tryz.prog 227 #[.func (.func 228) #[] #[.pointer (some ⟨B,0,none⟩)]] w fun e w'=>∃(v':Xd) (a:List Str),e=Xb v'/\a.Perm (L.map Prod.fst)/\Own w' w.heap.size 9 1 v' a.length (a.flatMap strC)/\Ext w w':=by
 have g:=zH (zos b c j);clear b c;go_enter Tryz.func227,Tryz.ntmps227;go_wp2_with fail;refine g.out.mono ?_;rintro e l⟨v',a,rfl,d,f,k⟩;have i:=zH f;have h:=zH d;clear f d;go_wp2_with fail;go_ret;exact⟨_,a,rfl,h.out,i.out,k⟩
theorem zsk {p B:Nat}{L:List (Str×Nat)}{w:Xc}(c:w.cell? ⟨B,0,none⟩=some (.map (some p)))(d:MapIs St U w p L)(l:L.length<=1099511627776) :
  Calls Tryz.prog 190 #[.func (.func 228) #[] #[.pointer (some ⟨B,0,none⟩)]] w fun e w'=>∃(v':Xd) (a:List Str),e=Xb v'/\a.Perm (L.map Prod.fst)/\Own w' w.heap.size 9 1 v' (zbw a).length ((zbw a).flatMap strC)/\Ext w w':=by
 have h:=zH (zq1 c d l);clear c d;go_enter Tryz.func190,Tryz.ntmps190;go_wp2_with fail;refine h.out.mono ?_;rintro e o⟨v',a,rfl,b,f,m⟩;have i:=zH (zo7 f (by have:=b.length_eq;simp at this;omega));have j:=zH b;clear f b;go_wp2_with fail;refine i.out.mono ?_;rintro e q⟨rfl,g,n⟩;have k:=zH g;clear g;go_wp2_with fail;go_ret;exact⟨_,a,rfl,j.out,k.out,Below.trans m n⟩
def zb6 (Lp Lm:List (Str×Nat))(ks:List Str):List zag:=(ks.filter fun k=>getL 0 Lp k !=0||getL 0 Lm k !=0).map fun k=>(k,getL 0 Lp k,getL 0 Lm k)
def zdr (Lp Lm:List (Str×Nat)):List zag:=zb6 Lp Lm (zbw (Lp.map Prod.fst))
theorem zlk (Lp Lm:List (Str×Nat))(a:List Str):(zb6 Lp Lm a).length<=a.length:=by
 unfold zb6;rw[List.length_map];exact Qo _ _
theorem zjq {c base:Nat}{v:Xd}{l:List Str}{w:Xc}(a:Own w base c 1 v l.length (l.flatMap strC)):Sl strT w (fun b=>base<=b) v l :=
 (OwnL.flat_iff (S:=fun b=>base<=b).2 a).sl (by decide) (fun _ _ a=>a) (fun _ a _=>a)
theorem zg0 {w wr:Xc}{S:Nat->Prop}{A:Option Addr}{n c:Nat}{l pre post:List Str}{m:Str}(a:Sl strT w S (.slice A n c) l)(hb:Ext w wr)(e:l=pre++m::post) :
  ∃b o,A=some ⟨b,o,none⟩/\wr.cell? ⟨b,o+pre.length,none⟩=some (St m):=by
 obtain⟨b,o,vs,g,f,h,rfl,d⟩:=a.at_ e;injection f with e1 e2 e3
 subst e1;have h0:w.cell? ⟨b,o+pre.length * 1+0,none⟩=some (St m):=d 0 _ rfl;rw[Qm,Nat.add_zero]at h0;exact⟨b,o,rfl,hb.cell h0⟩
theorem zko {p m:Nat}{Lp Lm:List (Str×Nat)}{w:Xc}(F:MapIs St U w p Lp)(J:MapIs St U w m Lm)(X:Lp.length<=1099511627776) :
  Calls Tryz.prog 143 #[.agg #[.map (some p),.map (some m)]] w fun e w'=>∃v',e=Xb v'/\Own w' w.heap.size 54 3 v' (zdr Lp Lm).length ((zdr Lp Lm).flatMap zbx)/\Ext w w':=by
 obtain⟨d,z⟩:∃d,w.alloc (Xa #[.map (some p),.map (some m)] 210)=d:=⟨_,rfl⟩
 have N:Ext w d:=by rw[<- z];exact(Xe w).alloc _
 have V:d.cell? ⟨w.heap.size,0,none⟩=some (.map (some p)):=by rw[<- z];simp[go_sem]
 have c1:d.cell? ⟨w.heap.size,1,none⟩=some (.map (some m)):=by rw[<- z];simp[go_sem]
 have P:=zH (zwc p d);have r:=(Xe d).alloc (Xa #[.map (some p)] 208);have T:=zH (zsk (B:=d.heap.size) (by simp[go_sem]) ((F.ext N).ext r) X);have S:=zH F;have R:=zH J;clear F J;go_enter Tryz.func143,Tryz.ntmps143;go_wp2_with fail;refine P.out.mono ?_;rintro e al⟨rfl,rfl⟩;go_wp2_with fail;refine T.out.mono ?_;rintro e g⟨ak,am,rfl,L,D,v⟩;rw[zt3 L]at D;have ah:(zbw (Lp.map Prod.fst)).length=Lp.length:=by rw[zh2];simp
 have Q:=zH (show zdr Lp Lm=zb6 Lp Lm (zbw (Lp.map Prod.fst))from rfl);generalize zbw (Lp.map Prod.fst)=s at *;have M:Ext w g:=(N.trans r).trans v;have d0:=v.cell (r.cell V);have d1:=v.cell (r.cell c1);have G:=zjq D;obtain⟨A,c,rfl,ae,af⟩:=G.form;have t:=zH M;have O:=zH (fun(pre post:List Str) (x:Str) (wr:Xc) (W:Ext g wr) (f:s=pre++x::post)=>zg0 G W f);clear D G L M v r;go_wp2_with fail
 go_loopw [3,11] (fun l i wr=>∃pre post,s=pre++post/\i=I pre.length/\Own wr g.heap.size 54 3 l (zb6 Lp Lm pre).length ((zb6 Lp Lm pre).flatMap zbx)/\Ext g wr) (fun _ i _=>s.length-(intOf i).toNat)
 case atStart=>exact⟨[],s,rfl,rfl,Own.nil _ _ _ _ _,Xe _⟩
 obtain⟨pre,post,f,rfl,h,a⟩:=hrel;have Z:=a.cell d0;have aa:=a.cell d1
 cases post with
 | cons k post =>
  obtain⟨ab,ok,rfl,ag⟩:=O.out pre post k wr a f;have aj:pre.length<s.length:=(by rw[f];simp);have H:=ze5 (S.out.ext (t.out.trans a)) k;have Y:=ze5 (R.out.ext (t.out.trans a)) k;have ai:=zlk Lp Lm pre;have y:=zH f;have j:=zH h;have n:=zH a;have K:=a.size;clear f a
  by_cases b:getL 0 Lp k=0/\getL 0 Lm k=0
  ·have HF:=zH (show zb6 Lp Lm (pre++[k])=zb6 Lp Lm pre by simp[zb6,Qc,b.1,b.2]);rw[b.1]at H;rw[b.2]at Y;clear b h;go_wp2_with fail;go_roundw
   case rel=>exact⟨pre++[k],post,by rw[y.out];simp,by simp,by rw[HF.out];exact j.out,n.out⟩
   case measure=>simp[intOf];omega
  have HF:=zH (show zb6 Lp Lm (pre++[k])=zb6 Lp Lm pre++[(k,getL 0 Lp k,getL 0 Lm k)] by
   have hb:(getL 0 Lp k !=0||getL 0 Lm k !=0)=true:=by
    by_cases h1:getL 0 Lp k=0
    ·have:getL 0 Lm k≠0:=fun o=>b ⟨h1,o⟩
     simp[this]
    simp[h1]
   simp[zb6,Qc,hb])
  by_cases h1:getL 0 Lp k=0
  ·have o:getL 0 Lm k≠0:=fun o=>b ⟨h1,o⟩
   have ad:(((getL 0 Lm k:Nat):Int)==0)=false:=(by rw[beq_eq_false_iff_ne];omega);rw[h1]at H HF;clear b h1 o
   go_wp2_with (at_builtin;refine zal rfl (.tmp 27) (.tmp 38) 41 rfl g.heap.size 54 3 32 (.agg #[St [],U 0,U 0]) Tryz.underlying41 zkk rfl (by omega) _ (zb6 Lp Lm pre).length ((zb6 Lp Lm pre).flatMap zbx) rfl (h.alloc _) _ 1 1 _ rfl (Src.new rfl (by intro u q;simp at q;rcases q with rfl|rfl|rfl<;>rfl)) (by omega) (by omega) (by simp;omega) ?_;intro v' w' E C)
   go_roundw
   case rel=>exact⟨pre++[k],post,by rw[y.out];simp,by simp,by rw[HF.out];simpa[zbx]using E,Ext.grewOwn (n.out.alloc _) C (j.out.alloc _) (Qg _)⟩
   case measure=>simp[intOf];omega
  have ac:(((getL 0 Lp k:Nat):Int)==0)=false:=(by rw[beq_eq_false_iff_ne];omega);clear b h1
  go_wp2_with (at_builtin;refine zal rfl (.tmp 27) (.tmp 38) 41 rfl g.heap.size 54 3 32 (.agg #[St [],U 0,U 0]) Tryz.underlying41 zkk rfl (by omega) _ (zb6 Lp Lm pre).length ((zb6 Lp Lm pre).flatMap zbx) rfl (h.alloc _) _ 1 1 _ rfl (Src.new rfl (by intro u q;simp at q;rcases q with rfl|rfl|rfl<;>rfl)) (by omega) (by omega) (by simp;omega) ?_;intro v' w' E C)
  go_roundw
  case rel=>exact⟨pre++[k],post,by rw[y.out];simp,by simp,by rw[HF.out];simpa[zbx]using E,Ext.grewOwn (n.out.alloc _) C (j.out.alloc _) (Qg _)⟩
  case measure=>simp[intOf];omega
 | nil=>rw[Qa]at f;subst f;have j:=zH h;have n:=zH a;have K:=t.out.size;clear h a;go_wp2_with fail;go_ret;exact⟨_,rfl,by rw[Q.out];exact j.out.lower K,t.out.trans n.out⟩
theorem ybk {α:Type}{T:Shape α}{hk:0<T.k}{w:Xc}{S S':Nat->Prop}{v v':Xd}{l l':List α}(t:TypeId)(e:Sl T w S v l)(f:Sl T w S' v' l') :
  Sl (slT T hk) (w.alloc (Xa #[v,v'] t)) (fun _=>True) (.slice (some ⟨w.heap.size,0,none⟩) 2 2) [l,l'] :=
 ⟨_,2,rfl,Qg _,by omega,fun pre x post d=>by
  cases pre
  case nil=>
   simp at d;obtain⟨rfl,-⟩:=d
   exact⟨_,0,[v],rfl,trivial,⟨v,rfl,(e.ext hk ((Xe w).alloc _)).mono hk (fun b _ hb=>trivial)⟩,fun j u c=>by
    rw[cell_of_row _ w.heap.size _ #[v,v'] t (0,0) (Go.heap_alloc_new w _)]
    cases j with
    | zero=>simpa using c
    | succ j=>simp at c⟩
  rename_i a r
  cases r with
  | nil =>
   simp at d;obtain⟨rfl,rfl,-⟩:=d
   exact⟨_,0,[v'],rfl,trivial,⟨v',rfl,(f.ext hk ((Xe w).alloc _)).mono hk (fun b _ hb=>trivial)⟩,fun j u c=>by
    rw[cell_of_row _ w.heap.size _ #[v,v'] t (0,0) (Go.heap_alloc_new w _)]
    cases j with
    | zero=>simpa[slT]using c
    | succ j=>simp at c⟩
  | cons b r=>simp at d⟩
theorem zkp (L:List (Str×Nat))(k:Str)(v:Nat):(putL L k v).length<=L.length+1:=by
 unfold putL
 split<;>simp
theorem zg1 (cs:List zag):(zax cs).length<=cs.length:=by
 have:∀(cs:List zag) (L:List (Str×Nat)),(cs.foldl (putP max) L).length<=L.length+cs.length:=by
  intro cs
  induction cs with
  | nil=>simp
  | cons c r a=>intro L;rw[List.foldl_cons];refine Qb (a _) ?_;have:=zkp L c.1 (max (getL 0 L c.1) c.2.1);unfold putP;simp only[List.length_cons];omega
 simpa[zax]using this cs []
def zef (a b:List zag):List zag:=zdr (zax (a++b)) (zaz (a++b))
theorem zwe {S S':Nat->Prop}{j k:Xd}{a b:List zag}{w:Xc}(ha:Sl zcl w S j a)(hb:Sl zcl w S' k b)(t:a.length+b.length<=1099511627776) :
  Calls Tryz.prog 111 #[j,k] w fun e w'=>∃v',e=Xb v'/\Own w' w.heap.size 54 3 v' (zef a b).length ((zef a b).flatMap zbx)/\Ext w w':=by
 have n:=zH (zgz (ybk 41 ha hb));have o:=zH (fun(p m:Nat) (Lp Lm:List (Str×Nat)) (w:Xc)=>@zko p m Lp Lm w);have v:(zax (a++b)).length<=1099511627776:=Qb (zg1 _) (by simpa using t);obtain⟨A,c,rfl,-,-⟩:=ha.form;obtain⟨l,s,rfl,-,-⟩:=hb.form;have i:=(Xe w).alloc (Xa #[.slice A a.length c,.slice l b.length s] 41);clear ha hb;go_enter Tryz.func111,Tryz.ntmps111;go_wp2_with fail;refine n.out.mono ?_;rintro e y⟨p,m,rfl,-,-,-,f,d,h⟩;have q:=zH (o.out _ _ _ _ _ f d (by simpa using v));clear f d;go_wp2_with fail;refine q.out.mono ?_;rintro e z⟨v',rfl,g,x⟩;have r:=zH g;have u:=(i.trans h).size;clear g;go_wp2_with fail;go_ret;exact⟨_,rfl,by simpa[zef]using r.out.lower u,(i.trans h).trans x⟩
def zdi:Option Str->List zag->Bool
 | _,[]=>true
 | o,c::r=>!(c.2.1==0&&c.2.2==0)&&(match o with|none=>true|some s=>ltS s c.1)&&zdi (some c.1) r
def mayL (l:List zag):Bool:=zdi none l
theorem zyy {S:Nat->Prop}{v:Xd}{l:List zag}{w:Xc}(C:Sl zcl w S v l) :
  Calls Tryz.prog 74 #[v] w fun e w'=>e=Xb (.bool (mayL l))/\Ext w w':=by
 have h:=C;obtain⟨A,c,rfl,h1,D⟩:=C.form;clear C;go_enter Tryz.func74,Tryz.ntmps74;go_wp2
 go_loopw [7] (fun i wr=>∃pre post,l=pre++post/\i=I pre.length/\mayL l=zdi (pre.getLast?.map (·.1)) post/\Ext w wr) (fun i _=>l.length-(intOf i).toNat)
 case atStart=>exact⟨[],l,rfl,rfl,rfl,Xe _⟩
 obtain⟨pre,post,a,rfl,d,hb⟩:=hrel
 cases post with
 | cons m post =>
  obtain⟨b,o,rfl,E,F,G⟩:=zgg h hb a;have H:pre.length<l.length:=(by rw[a];simp);have p:=hb.alloc (Xa #[St m.1,U m.2.1,U m.2.2] 54);have P:=zH hb
  by_cases f:m.2.1=0/\m.2.2=0
  ·have g:=zH (show mayL l=false by rw[d];simp[zdi,f.1,f.2]);obtain⟨x,s,r⟩:=m;obtain⟨rfl,rfl⟩:s=0/\r=0:=f;clear a d h;go_wp2;go_quiet (fail);go_wp2;go_ret;exact⟨by rw[g.out];rfl,p.drewN _⟩
  have j:(m.2.1==0&&m.2.2==0)=false:=by
   by_cases n:m.2.1=0
   ·have:m.2.2≠0:=fun D=>f ⟨n,D⟩
    simp[this]
   simp[n]
  rcases List.eq_nil_or_concat pre with rfl|⟨pre',q,rfl⟩
  ·have t:=zH a;have g:=zH (show mayL l=zdi (some m.1) post by rw[d];simp[zdi,j]);simp only[List.length_nil,Nat.zero_mul,Nat.add_zero]at E F G H ⊢
   by_cases k:m.2.1=0
   ·obtain⟨x,s,r⟩:=m;obtain rfl:s=0:=k;have z:((r:Int)==0)=false:=(by rw[beq_eq_false_iff_ne];intro n;exact f ⟨rfl,by simpa using n⟩);clear f j a d h;go_wp2;go_quiet (fail);go_wp2;go_roundw
    case rel=>refine⟨_,post,t.out.trans (Qf _ _ _),by simp,by rw[g.out];simp,p.drewN _⟩
    case measure=>simp[intOf];omega
   have B:((m.2.1:Int)==0)=false:=(by rw[beq_eq_false_iff_ne];omega);clear f j a d h k;go_wp2;go_quiet (fail);go_wp2;go_roundw
   case rel=>refine⟨_,post,t.out.trans (Qf _ _ _),by simp,by rw[g.out];simp,p.drewN _⟩
   case measure=>simp[intOf];omega
  have y:l=pre'++q::(m::post):=(by rw[a];simp);obtain⟨Q,o',e,K,Y,Z⟩:=zgg h hb y;cases e;have R:pre'.length<l.length:=(by rw[y];simp);have t:=zH a;simp only[List.length_concat]at E F G H ⊢;clear y;have L:=(Xe wr).alloc (Xa #[St m.1,U m.2.1,U m.2.2] 54);have X:=L.cell K;have T:(wr.alloc (Xa #[St m.1,U m.2.1,U m.2.2] 54)).cell? ⟨wr.heap.size,0,none⟩=some (St m.1):=(by simp[go_sem]);have V:(wr.alloc (Xa #[St m.1,U m.2.1,U m.2.2] 54)).cell? ⟨wr.heap.size,1,none⟩=some (U m.2.1):=(by simp[go_sem]);have W:(wr.alloc (Xa #[St m.1,U m.2.1,U m.2.2] 54)).cell? ⟨wr.heap.size,2,none⟩=some (U m.2.2):=(by simp[go_sem]);have aa:(0:Int)<=(pre'.length:Int):=(by omega);have ab:((pre'.length:Int))<(l.length:Int):=(by omega);have ac:((pre'.length:Int)+1)>0:=(by omega);have ad:(((pre'.length+1:Nat):Int))>0:=(by omega);have ae:IntKind.i64.wrap ((pre'.length:Int)+1-1)=pre'.length:=(by rw[show(pre'.length:Int)+1-1=pre'.length by omega];simp[IntKind.wrap,IntKind.signed,IntKind.bits];omega);have af:IntKind.i64.wrap (pre'.length:Int)=pre'.length:=(by simp[IntKind.wrap,IntKind.signed,IntKind.bits];omega);have ag:((pre'.length:Int)).toNat=pre'.length:=(by omega);rcases zfp q.1 m.1 with⟨q1,M,q3,q4,N⟩|J|⟨q1,M,q3,q4,N⟩
  ·have g:=zH (show mayL l=zdi (some m.1) post by rw[d];simp[zdi,j,q1])
   by_cases k:m.2.1=0
   ·obtain⟨x,s,r⟩:=m;obtain rfl:s=0:=k;have z:((r:Int)==0)=false:=(by rw[beq_eq_false_iff_ne];intro n;exact f ⟨rfl,by simpa using n⟩);clear f j a d h;go_wp2;generalize wr.alloc _=u at *;go_quiet (fail);go_wp2;go_roundw
    case rel=>refine⟨_,post,t.out.trans (Qf _ _ _),by simp<;>omega,by rw[g.out];simp,p.drewN _⟩
    case measure=>simp[intOf];omega
   have B:((m.2.1:Int)==0)=false:=(by rw[beq_eq_false_iff_ne];omega);clear f j a d h k;go_wp2;generalize wr.alloc _=u at *;go_quiet (fail);go_wp2;go_roundw
   case rel=>refine⟨_,post,t.out.trans (Qf _ _ _),by simp<;>omega,by rw[g.out];simp,p.drewN _⟩
   case measure=>simp[intOf];omega
  ·have g:=zH (show mayL l=false by rw[d];simp[zdi,j,J,zap]);obtain⟨O,aj,ai⟩:=q;obtain rfl:O=m.1:=J;have ah:ltS m.1 m.1=false:=zap _
   by_cases k:m.2.1=0
   ·obtain⟨x,s,r⟩:=m;obtain rfl:s=0:=k;have z:((r:Int)==0)=false:=(by rw[beq_eq_false_iff_ne];intro n;exact f ⟨rfl,by simpa using n⟩);clear f j a d h;go_wp2;generalize wr.alloc _=u at *;go_quiet (fail);go_wp2;go_ret;exact⟨by rw[g.out];rfl,p.drewN _⟩
   have B:((m.2.1:Int)==0)=false:=(by rw[beq_eq_false_iff_ne];omega);clear f j a d h k;go_wp2;generalize wr.alloc _=u at *;go_quiet (fail);go_wp2;go_ret;exact⟨by rw[g.out];rfl,p.drewN _⟩
  have g:=zH (show mayL l=false by rw[d];simp[zdi,j,q1])
  by_cases k:m.2.1=0
  ·obtain⟨x,s,r⟩:=m;obtain rfl:s=0:=k;have z:((r:Int)==0)=false:=(by rw[beq_eq_false_iff_ne];intro n;exact f ⟨rfl,by simpa using n⟩);clear f j a d h;go_wp2;generalize wr.alloc _=u at *;go_quiet (fail);go_wp2;go_ret;exact⟨by rw[g.out];rfl,p.drewN _⟩
  have B:((m.2.1:Int)==0)=false:=(by rw[beq_eq_false_iff_ne];omega);clear f j a d h k;go_wp2;generalize wr.alloc _=u at *;go_quiet (fail);go_wp2;go_ret;exact⟨by rw[g.out];rfl,p.drewN _⟩
 | nil=>rw[Qa]at a;subst a;have g:=zH d;clear d h;go_wp2;go_ret;exact⟨by rw[g.out];rfl,hb⟩
def upOf (n:Int):Nat:=if n>0 then n.toNat else 0
def zcb (n:Int):Nat:=if n>0 then 0 else(-n).toNat
def znt (v n:Int):Bool:=!(decide (n>0)&&decide (v>9223372036854775807-n)) && !(decide (n<0)&&decide (v < -9223372036854775808-n))
def zdy (a b:Nat):Bool:=decide (a<=9223372036854775808)&&decide (b<=9223372036854775808-a)
def zmd (l:List zag)(s:Str)(n:Int):Bool:=znt (zb7 l) n&&(zdy (getL 0 (zax l) s) (upOf n)&&zdy (getL 0 (zaz l) s) (zcb n))
def addL (l:List zag)(s:Str)(n:Int):List zag:=zdr (putP addU (zax l) (s,upOf n,zcb n)) (putM addU (zaz l) (s,upOf n,zcb n))
def addC (l:List zag)(s:Str)(n:Int):List zag×Nat:=if zmd l s n then(addL l s n,0)else([],9)
theorem zo9 (x:Int):-9223372036854775808<=wrap64 x/\wrap64 x<=9223372036854775807:=by
 unfold wrap64;omega
theorem zyz {S:Nat->Prop}{v:Xd}{l:List zag}{w:Xc}(s:Str)(n:Int)(b8:-9223372036854775808<=n)(b9:n<=9223372036854775807)(a2:Sl zcl w S v l)(b4:l.length<1099511627776) :
  Calls Tryz.prog 174 #[v,St s,I n] w fun e w'=>∃v',e=Xb (.tuple #[v',I (addC l s n).2])/\Own w' w.heap.size 54 3 v' (addC l s n).1.length ((addC l s n).1.flatMap zbx)/\Ext w w':=by
 have bi:=zH (zgz (zqz 41 a2));have bj:=zH (fun(p m:Nat) (Lp Lm:List (Str×Nat)) (w:Xc)=>@zo6 p m Lp Lm w);obtain⟨A,c,rfl,-,-⟩:=a2.form;have a3:=(Xe w).alloc (Xa #[.slice A l.length c] 41);have b3:=zo9 (sumL (zax l) (zaz l));have a5:=zH (show zb7 l=wrap64 (sumL (zax l) (zaz l))from rfl);have b5:=zg1 l;clear a2;go_enter Tryz.func174,Tryz.ntmps174;go_wp2_with fail;refine bi.out.mono ?_;rintro e am⟨p,m,rfl,bx,bw,bz,af,ae,bh⟩;have M:=(Xe am).alloc (Xa #[.map (some p),.map (some m)] 210);simp only[Qi,Qk,Qa]at af ae;have bk:=zH (bj.out _ _ _ _ _ (af.ext M) (ae.ext M));have a7:(am.alloc (Xa #[.map (some p),.map (some m)] 210)).cell? ⟨am.heap.size,0,none⟩=some (.map (some p)):=by simp[go_sem]
 have a8:(am.alloc (Xa #[.map (some p),.map (some m)] 210)).cell? ⟨am.heap.size,1,none⟩=some (.map (some m)):=by simp[go_sem]
 have bn:=zH af;have bm:=zH ae;have bo:=zH ((a3.trans bh).trans M);have cb:=af.lt;have b7:=ae.lt;have ca:w.heap.size<=p:=Qb a3.size bx;have b6:w.heap.size<=m:=Qb a3.size bw;clear af ae bh;go_wp2_with fail;refine bk.out.mono ?_;rintro e D⟨rfl,N⟩;have bp:=N.cell a7;have c1:=N.cell a8;have ax:=zH (bo.out.trans N);have bf:=(bn.out.ext M).ext N;have be:=(bm.out.ext M).ext N;have cc:=(M.trans N).size;simp only[Qi,Qk,Qa];generalize bt:wrap64 (sumL (zax l) (zaz l))=V at *;clear bt a7 a8 M N
 by_cases x:znt V n=true
 ·have HF:=zH (show zmd l s n=(zdy (getL 0 (zax l) s) (upOf n)&&zdy (getL 0 (zaz l) s) (zcb n)) by unfold zmd;rw[a5.out,x];rfl);unfold znt at x;simp only[Qd,Qs,Qp,decide_eq_false_iff_not]at x;obtain⟨ar,au⟩:=x;have a1:=zH zli;have ap:=zH (fun(W:Xc) (h1:MapIs St U W p (zax l)) (f:MapIs St U W m (zaz l))=>zor ztt (s,upOf n,zcb n) h1 f bz)
  have ao:=zH (fun(W:Xc) (h1:MapIs St U W p (putP addU (zax l) (s,upOf n,zcb n))) (f:MapIs St U W m (putM addU (zaz l) (s,upOf n,zcb n)))=>zko h1 f (by refine Qb (zkp _ _ _) ?_;omega))
  have C:=zH (show addC l s n=if(zdy (getL 0 (zax l) s) (upOf n)&&zdy (getL 0 (zaz l) s) (zcb n))then(addL l s n,0)else([],9) by unfold addC;rw[HF.out]);have an:=zH (show addL l s n=zdr (putP addU (zax l) (s,upOf n,zcb n)) (putM addU (zaz l) (s,upOf n,zcb n))from rfl);obtain⟨i,aq⟩:∃i,D.drew=i:=⟨_,rfl⟩
  have O:Ext D i:=by rw[<- aq];exact(Xe D).drew
  have bu:=ze5 (bf.ext O) s;have bv:=ze5 (be.ext O) s;have az:=O.cell bp;have a0:=O.cell c1;have aw:=zH (bf.ext O);have av:=zH (be.ext O);have t:=zH (ax.out.trans O);obtain⟨a,ha⟩:∃a,getL 0 (zax l) s=a:=⟨_,rfl⟩
  obtain⟨b,hb⟩:∃b,getL 0 (zaz l) s=b:=⟨_,rfl⟩
  rw[ha]at bu C;rw[hb]at bv C;clear ha hb HF
  have b1:∃up h:Nat,upOf n=up/\zcb n=h/\((∃k:Nat,0<k/\n=(k:Int)/\up=k/\h=0) ∨ (n=0/\up=0/\h=0) ∨ (∃k:Nat,0<k/\n = -(k:Int)/\up=0/\h=k)):=by
   refine⟨_,_,rfl,rfl,?_⟩
   by_cases h0:n>0
   ·exact .inl ⟨n.toNat,by omega,by omega,by simp[upOf,h0],by simp[zcb,h0]⟩
   by_cases h1:n=0
   ·subst h1;exact .inr (.inl ⟨rfl,rfl,rfl⟩)
   exact .inr (.inr ⟨(-n).toNat,by omega,by omega,by simp[upOf,h0],by simp[zcb,h0]⟩)
  obtain⟨up,h,bg,bd,b0⟩:=b1;rw[bg,bd]at C an ap ao;clear bg bd;rcases b0 with⟨k,b2,rfl,rfl,rfl⟩|⟨rfl,rfl,rfl⟩|⟨k,b2,rfl,rfl,rfl⟩
  ·have h1:¬V>9223372036854775807-(up:Int):=ar.resolve_left (fun d=>d (by omega));have f:¬(up:Int)<0:=(by omega);have P:(up:Int)>0:=(by omega);have br:IntKind.u64.wrap (up:Int)=up:=(by rw[zca];omega);clear ar au;go_wp2_with fail;clear h1 f P br;refine wp_region_still_tail 9 (by kernel_rfl) (by kernel_rfl) ?_;simp only[zD];change wpStill _ _ D.drew (fun u=>wpList _ _ _ _ u D.drew) _ _;rw[aq]
   repeat still_step
   refine wpStill_nil ?_
   have H:¬(a<=9223372036854775808/\up<=9223372036854775808-a/\b<=9223372036854775808/\0<=9223372036854775808-b)->addC l s (up:Int)=([],9):=fun d=>by
    rw[C.out]
    have:(zdy a up&&zdy b 0)=false:=by unfold zdy;rw[<- Ql];intro f;simp only[Qd,decide_eq_true_eq]at f;exact d ⟨f.1.1,f.1.2,f.2.1,f.2.2⟩
    rw[this];rfl
   have z:=zH H;clear H
   by_cases q1:a<=9223372036854775808
   ·have L:¬(a:Int)>9223372036854775808:=(by omega);have ai:IntKind.u64.wrap (9223372036854775808-(a:Int))=9223372036854775808-(a:Int):=by rw[zca];omega
    by_cases y:up<=9223372036854775808-a
    ·have Q:¬((up:Nat):Int)>9223372036854775808-(a:Int):=(by omega);have aj:¬ 9223372036854775808-(a:Int)<0:=by omega
     by_cases q3:b<=9223372036854775808
     ·have p3:¬(b:Int)>9223372036854775808:=(by omega);have ak:IntKind.u64.wrap (9223372036854775808-(b:Int))=9223372036854775808-(b:Int):=by rw[zca];omega
      by_cases q4:0<=9223372036854775808-b
      ·have p4:¬((0:Nat):Int)>9223372036854775808-(b:Int):=(by omega);have al:¬ 9223372036854775808-(b:Int)<0:=(by omega);have E:=zH (show addC l s (up:Int)=(addL l s (up:Int),0) by rw[C.out];simp[zdy,q1,y,q3,q4]);have B:¬ 9223372036854775808<a:=(by omega);have R:¬ 9223372036854775808<b:=(by omega);go_wp2_with fail;clear q1 y q3 q4 B R;clear L ai Q aj p3 ak p4 al;obtain⟨o,G⟩:∃o,i.drew=o:=⟨_,rfl⟩
       have j:Ext i o:=(by rw[<- G];exact(Xe i).drew);have ab:=j.cell az;have ac:=j.cell a0;have X:=zH (ap.out o (aw.out.ext j) (av.out.ext j));have Z:=zH (t.out.trans j);refine wp_region_still_tail 6 (by kernel_rfl) (by kernel_rfl) ?_;simp only[zD];change wpStill _ _ i.drew (fun u=>wpList _ _ _ _ u i.drew) _ _;rw[G]
       repeat still_step
       still_call ((a1.out _).mono fun e w' d=>⟨d.1,d.2.symm⟩)
       refine wpStill_nil ?_;go_wp2_with fail;refine X.out.mono ?_;rintro e aa⟨rfl,K,J,q⟩;have a9:=q.cell ab (by omega) (by omega);have ba:=q.cell ac (by omega) (by omega);have T:=zH (ao.out aa K J);have F:=zH (Ext.kept2 Z.out q (by omega) (by omega));clear K J q;go_wp2_with fail;refine T.out.mono ?_;rintro e a6⟨v',rfl,r,ah⟩;rw[<- an.out]at r;have Y:=zH r;have ad:=r.form;obtain⟨a4,bb,rfl,-,-⟩:=ad;have ag:=F.out.size;clear r;go_wp2_with fail
       go_ret2
       exact⟨_,by rw[E.out];rfl,by rw[E.out];exact Y.out.lower ag,F.out.trans ah⟩
      exact absurd (Qn _) q4
     have p3:(b:Int)>9223372036854775808:=(by omega);have g:=zH (z.out (fun d=>q3 d.2.2.1));have B:¬ 9223372036854775808<a:=(by omega);go_wp2_with fail
     go_ret2
     exact⟨_,by rw[g.out];rfl,by rw[g.out];exact Own.nil _ _ _ _ _,t.out⟩
    have Q:((up:Nat):Int)>9223372036854775808-(a:Int):=(by omega);have g:=zH (z.out (fun d=>y d.2.1));have B:¬ 9223372036854775808<a:=(by omega);go_wp2_with fail
    go_ret2
    exact⟨_,by rw[g.out];rfl,by rw[g.out];exact Own.nil _ _ _ _ _,t.out⟩
   have L:(a:Int)>9223372036854775808:=(by omega);have g:=zH (z.out (fun d=>q1 d.1));go_wp2_with fail
   go_ret2
   exact⟨_,by rw[g.out];rfl,by rw[g.out];exact Own.nil _ _ _ _ _,t.out⟩
  ·clear ar au;go_wp2_with fail;refine wp_region_still_tail 9 (by kernel_rfl) (by kernel_rfl) ?_;simp only[zD];change wpStill _ _ D.drew (fun u=>wpList _ _ _ _ u D.drew) _ _;rw[aq]
   repeat still_step
   refine wpStill_nil ?_
   have H:¬(a<=9223372036854775808/\0<=9223372036854775808-a/\b<=9223372036854775808/\0<=9223372036854775808-b)->addC l s 0=([],9):=fun d=>by
    rw[C.out]
    have:(zdy a 0&&zdy b 0)=false:=by unfold zdy;rw[<- Ql];intro f;simp only[Qd,decide_eq_true_eq]at f;exact d ⟨f.1.1,f.1.2,f.2.1,f.2.2⟩
    rw[this];rfl
   have z:=zH H;clear H
   by_cases q1:a<=9223372036854775808
   ·have L:¬(a:Int)>9223372036854775808:=(by omega);have ai:IntKind.u64.wrap (9223372036854775808-(a:Int))=9223372036854775808-(a:Int):=by rw[zca];omega
    by_cases y:0<=9223372036854775808-a
    ·have Q:¬((0:Nat):Int)>9223372036854775808-(a:Int):=(by omega);have aj:¬ 9223372036854775808-(a:Int)<0:=by omega
     by_cases q3:b<=9223372036854775808
     ·have p3:¬(b:Int)>9223372036854775808:=(by omega);have ak:IntKind.u64.wrap (9223372036854775808-(b:Int))=9223372036854775808-(b:Int):=by rw[zca];omega
      by_cases q4:0<=9223372036854775808-b
      ·have p4:¬((0:Nat):Int)>9223372036854775808-(b:Int):=(by omega);have al:¬ 9223372036854775808-(b:Int)<0:=(by omega);have E:=zH (show addC l s 0=(addL l s 0,0) by rw[C.out];simp[zdy,q1,y,q3,q4]);have B:¬ 9223372036854775808<a:=(by omega);have R:¬ 9223372036854775808<b:=(by omega);go_wp2_with fail;clear q1 y q3 q4 B R;clear L ai Q aj p3 ak p4 al;obtain⟨o,G⟩:∃o,i.drew=o:=⟨_,rfl⟩
       have j:Ext i o:=(by rw[<- G];exact(Xe i).drew);have ab:=j.cell az;have ac:=j.cell a0;have X:=zH (ap.out o (aw.out.ext j) (av.out.ext j));have Z:=zH (t.out.trans j);refine wp_region_still_tail 6 (by kernel_rfl) (by kernel_rfl) ?_;simp only[zD];change wpStill _ _ i.drew (fun u=>wpList _ _ _ _ u i.drew) _ _;rw[G]
       repeat still_step
       still_call ((a1.out _).mono fun e w' d=>⟨d.1,d.2.symm⟩)
       refine wpStill_nil ?_;go_wp2_with fail;refine X.out.mono ?_;rintro e aa⟨rfl,K,J,q⟩;have a9:=q.cell ab (by omega) (by omega);have ba:=q.cell ac (by omega) (by omega);have T:=zH (ao.out aa K J);have F:=zH (Ext.kept2 Z.out q (by omega) (by omega));clear K J q;go_wp2_with fail;refine T.out.mono ?_;rintro e a6⟨v',rfl,r,ah⟩;rw[<- an.out]at r;have Y:=zH r;have ad:=r.form;obtain⟨a4,bb,rfl,-,-⟩:=ad;have ag:=F.out.size;clear r;go_wp2_with fail
       go_ret2
       exact⟨_,by rw[E.out];rfl,by rw[E.out];exact Y.out.lower ag,F.out.trans ah⟩
      exact absurd (Qn _) q4
     have p3:(b:Int)>9223372036854775808:=(by omega);have g:=zH (z.out (fun d=>q3 d.2.2.1));have B:¬ 9223372036854775808<a:=(by omega);go_wp2_with fail
     go_ret2
     exact⟨_,by rw[g.out];rfl,by rw[g.out];exact Own.nil _ _ _ _ _,t.out⟩
    exact absurd (Qn _) y
   have L:(a:Int)>9223372036854775808:=(by omega);have g:=zH (z.out (fun d=>q1 d.1));go_wp2_with fail
   go_ret2
   exact⟨_,by rw[g.out];rfl,by rw[g.out];exact Own.nil _ _ _ _ _,t.out⟩
  have h1:¬V < -9223372036854775808 - -(h:Int):=au.resolve_left (fun d=>d (by omega));have bq:¬V < -9223372036854775808+(h:Int):=(by omega);have f:-(h:Int)<0:=(by omega);have P:¬(-(h:Int))>0:=(by omega);obtain⟨ay,bc⟩:∃ay,IntKind.u64.wrap (-(h:Int))=ay:=⟨_,rfl⟩
  have bs:IntKind.u64.wrap (-ay)=h:=(by rw[<- bc,zca,zca];omega);clear ar au;go_wp2_with fail;clear h1 bq f P bc bs;refine wp_region_still_tail 9 (by kernel_rfl) (by kernel_rfl) ?_;simp only[zD];change wpStill _ _ D.drew (fun u=>wpList _ _ _ _ u D.drew) _ _;rw[aq]
  repeat still_step
  refine wpStill_nil ?_
  have H:¬(a<=9223372036854775808/\0<=9223372036854775808-a/\b<=9223372036854775808/\h<=9223372036854775808-b)->addC l s (-(h:Int))=([],9):=fun d=>by
   rw[C.out]
   have:(zdy a 0&&zdy b h)=false:=by unfold zdy;rw[<- Ql];intro f;simp only[Qd,decide_eq_true_eq]at f;exact d ⟨f.1.1,f.1.2,f.2.1,f.2.2⟩
   rw[this];rfl
  have z:=zH H;clear H
  by_cases q1:a<=9223372036854775808
  ·have L:¬(a:Int)>9223372036854775808:=(by omega);have ai:IntKind.u64.wrap (9223372036854775808-(a:Int))=9223372036854775808-(a:Int):=by rw[zca];omega
   by_cases y:0<=9223372036854775808-a
   ·have Q:¬((0:Nat):Int)>9223372036854775808-(a:Int):=(by omega);have aj:¬ 9223372036854775808-(a:Int)<0:=by omega
    by_cases q3:b<=9223372036854775808
    ·have p3:¬(b:Int)>9223372036854775808:=(by omega);have ak:IntKind.u64.wrap (9223372036854775808-(b:Int))=9223372036854775808-(b:Int):=by rw[zca];omega
     by_cases q4:h<=9223372036854775808-b
     ·have p4:¬((h:Nat):Int)>9223372036854775808-(b:Int):=(by omega);have al:¬ 9223372036854775808-(b:Int)<0:=(by omega);have E:=zH (show addC l s (-(h:Int))=(addL l s (-(h:Int)),0) by rw[C.out];simp[zdy,q1,y,q3,q4]);have B:¬ 9223372036854775808<a:=(by omega);have R:¬ 9223372036854775808<b:=(by omega);go_wp2_with fail;clear q1 y q3 q4 B R;clear L ai Q aj p3 ak p4 al;obtain⟨o,G⟩:∃o,i.drew=o:=⟨_,rfl⟩
      have j:Ext i o:=(by rw[<- G];exact(Xe i).drew);have ab:=j.cell az;have ac:=j.cell a0;have X:=zH (ap.out o (aw.out.ext j) (av.out.ext j));have Z:=zH (t.out.trans j);refine wp_region_still_tail 6 (by kernel_rfl) (by kernel_rfl) ?_;simp only[zD];change wpStill _ _ i.drew (fun u=>wpList _ _ _ _ u i.drew) _ _;rw[G]
      repeat still_step
      still_call ((a1.out _).mono fun e w' d=>⟨d.1,d.2.symm⟩)
      refine wpStill_nil ?_;go_wp2_with fail;refine X.out.mono ?_;rintro e aa⟨rfl,K,J,q⟩;have a9:=q.cell ab (by omega) (by omega);have ba:=q.cell ac (by omega) (by omega);have T:=zH (ao.out aa K J);have F:=zH (Ext.kept2 Z.out q (by omega) (by omega));clear K J q;go_wp2_with fail;refine T.out.mono ?_;rintro e a6⟨v',rfl,r,ah⟩;rw[<- an.out]at r;have Y:=zH r;have ad:=r.form;obtain⟨a4,bb,rfl,-,-⟩:=ad;have ag:=F.out.size;clear r;go_wp2_with fail
      go_ret2
      exact⟨_,by rw[E.out];rfl,by rw[E.out];exact Y.out.lower ag,F.out.trans ah⟩
     have p4:((h:Nat):Int)>9223372036854775808-(b:Int):=(by omega);have g:=zH (z.out (fun d=>q4 d.2.2.2));have B:¬ 9223372036854775808<a:=(by omega);have R:¬ 9223372036854775808<b:=(by omega);go_wp2_with fail
     go_ret2
     exact⟨_,by rw[g.out];rfl,by rw[g.out];exact Own.nil _ _ _ _ _,t.out⟩
    have p3:(b:Int)>9223372036854775808:=(by omega);have g:=zH (z.out (fun d=>q3 d.2.2.1));have B:¬ 9223372036854775808<a:=(by omega);go_wp2_with fail
    go_ret2
    exact⟨_,by rw[g.out];rfl,by rw[g.out];exact Own.nil _ _ _ _ _,t.out⟩
   exact absurd (Qn _) y
  have L:(a:Int)>9223372036854775808:=(by omega);have g:=zH (z.out (fun d=>q1 d.1));go_wp2_with fail
  go_ret2
  exact⟨_,by rw[g.out];rfl,by rw[g.out];exact Own.nil _ _ _ _ _,t.out⟩
 have HF:=zH (show addC l s n=([],9) by unfold addC zmd;rw[a5.out];simp[x]);unfold znt at x;simp only[Qd,Qs,Qp,decide_eq_false_iff_not]at x
 by_cases h0:n>0
 ·have h1:V>9223372036854775807-n:=by
   refine Classical.byContradiction fun d=>x ⟨.inr d,.inl (by omega)⟩
  clear x;go_wp2_with fail
  go_ret2
  exact⟨_,by rw[HF.out];rfl,by rw[HF.out];exact Own.nil _ _ _ _ _,ax.out⟩
 have h1:n<0/\V < -9223372036854775808-n:=by
  refine Classical.byContradiction fun d=>x ⟨.inl h0,?_⟩
  by_cases f:n<0
  ·exact .inr fun P=>d ⟨f,P⟩
  exact .inl f
 obtain⟨f,P⟩:=h1;clear x;go_wp2_with fail
 go_ret2
 exact⟨_,by rw[HF.out];rfl,by rw[HF.out];exact Own.nil _ _ _ _ _,ax.out⟩
def zei (L:List (Str×Nat))(s:Str):List (Str×Nat):=delL (putL L [] (addU (getL 0 L []) (getL 0 L s))) s
def zbc (l:List zag)(s:Str):List zag:=if s = []then zdr (zax l) (zaz l)else zdr (zei (zax l) s) (zei (zaz l) s)
theorem zr4 {κ ν:Type}[DecidableEq κ](L:List (κ×ν))(k:κ):(delL L k).length<=L.length:=Qo _ _
theorem zyf {S:Nat->Prop}{v:Xd}{l:List zag}{w:Xc}(s:Str)(H:Sl zcl w S v l)(a8:l.length<1099511627776) :
  Calls Tryz.prog 92 #[v,St s] w fun e w'=>∃v',e=Xb v'/\Own w' w.heap.size 54 3 v' (zbc l s).length ((zbc l s).flatMap zbx)/\Ext w w':=by
 have aa:=zH (zgz (zqz 41 H));obtain⟨A,c,rfl,-,-⟩:=H.form;have I:=(Xe w).alloc (Xa #[.slice A l.length c] 41);have a9:=zg1 l;clear H;go_enter Tryz.func92,Tryz.ntmps92;go_wp2_with fail;refine aa.out.mono ?_;rintro e k⟨p,m,rfl,ax,av,az,t,r,Y⟩;have x:=(Xe k).alloc (Xa #[.map (some p),.map (some m)] 210);simp only[Qi,Qk,Qa]at t r;have L:(k.alloc (Xa #[.map (some p),.map (some m)] 210)).cell? ⟨k.heap.size,0,none⟩=some (.map (some p)):=by simp[go_sem]
 have M:(k.alloc (Xa #[.map (some p),.map (some m)] 210)).cell? ⟨k.heap.size,1,none⟩=some (.map (some m)):=by simp[go_sem]
 have bb:=t.lt;have ba:=r.lt;have j:=t.ext x;have h:=r.ext x;have q:=zH ((I.trans Y).trans x);have ay:w.heap.size<=p:=Qb I.size ax;have aw:w.heap.size<=m:=Qb I.size av;clear t r Y
 by_cases u:s = []
 ·subst u;have HF:=zH (show zbc l []=zdr (zax l) (zaz l) by simp[zbc]);have y:=zH (zko j h (by omega));clear j h;go_wp2_with fail;refine y.out.mono ?_;rintro e ah⟨v',rfl,d,J⟩;rw[<- HF.out]at d;have B:=zH d;obtain⟨Z,aq,rfl,-,-⟩:=d.form;clear d;have G:=q.out.size;go_wp2_with fail;go_ret;exact⟨_,rfl,B.out.lower G,q.out.trans J⟩
 have bc:(s==[])=false:=by simpa using u
 have HF:=zH (show zbc l s=zdr (zei (zax l) s) (zei (zaz l) s) by simp[zbc,u])
 have ad:=zH (fun(W:Xc) (h1:MapIs St U W p (zei (zax l) s)) (ar:MapIs St U W m (zei (zaz l) s))=>zko h1 ar (by refine Qb (zr4 _ _) (Qb (zkp _ _ _) ?_);omega))
 have au:=zH zli;obtain⟨g,a0⟩:∃g,k.alloc (Xa #[.map (some p),.map (some m)] 210)=g:=⟨_,rfl⟩
 rw[a0]at L M j h q x;obtain⟨C,O⟩:∃C,g.drew=C:=⟨_,rfl⟩
 have f:Ext g C:=by rw[<- O];exact(Xe g).drew
 have Q:=ze5 (j.ext f) s;have R:=ze5 (h.ext f) s;have am:=f.cell L;have ap:=f.cell M;have z:=zH (zor ztt ([],getL 0 (zax l) s,getL 0 (zaz l) s) (j.ext f) (h.ext f) az);have ag:=zH (q.out.trans f);obtain⟨a,ha⟩:∃a,getL 0 (zax l) s=a:=⟨_,rfl⟩
 obtain⟨b,hb⟩:∃b,getL 0 (zaz l) s=b:=⟨_,rfl⟩
 have ab:=zH ha;have ac:=zH hb;rw[ha]at Q z;rw[hb]at R z;clear ha hb j h u;go_wp2_with fail;refine wp_region_still_tail 11 (by kernel_rfl) (by kernel_rfl) ?_;simp only[zD];change wpStill _ _ g.drew (fun aj=>wpList _ _ _ _ aj g.drew) _ _;rw[O]
 repeat still_step
 still_call ((au.out _).mono fun e w' N=>⟨N.1,N.2.symm⟩)
 refine wpStill_nil ?_;go_wp2_with fail;refine z.out.mono ?_;rintro e a2⟨rfl,V,T,E⟩;have ak:=E.cell am (by omega) (by omega);have an:=E.cell ap (by omega) (by omega);have D:=Ext.kept2 ag.out E (by omega) (by omega);have a1:=zH D;obtain⟨ah,a6,X,n⟩:=zi3 (P:=Tryz.prog) 0 Tryz.underlying208 zd8 V s;have al:=n.cell ak (by omega);have ao:=n.cell an (by omega);obtain⟨ai,a7,i,o⟩:=zi3 (P:=Tryz.prog) 0 Tryz.underlying208 zd8 (T.turned n (by omega)) s;have a4:=o.cell al (by omega);have a5:=o.cell ao (by omega);have K:=zH ((D.turned n ay).turned o aw);have af:=zH (X.turned o (by omega));have ae:=zH i;clear V T D X i n o Q R f;go_wp2_with fail;have F:=af.out;have i:=ae.out;rw[<- ab.out]at F;rw[<- ac.out]at i;have y:=zH (ad.out ai F i);clear F i;have G:=K.out.size;refine y.out.mono ?_;rintro e a3⟨v',rfl,d,J⟩;rw[<- HF.out]at d;have B:=zH d;obtain⟨Z,aq,rfl,-,-⟩:=d.form;clear d;go_wp2_with fail;go_ret;exact⟨_,rfl,B.out.lower G,K.out.trans J⟩
structure PredS (P:Program) (g:Nat) (cb:Array Xd) (base:Nat) (C:Xc->Prop) (p:Str->Bool):Prop where
 enters:∀args w,(callFunc g args).run P w=.ok (.enter g args) w
 keep:∀W W',C W->Below base W W'->C W'
 does:∀m W,C W->Calls P g (#[St m]++cb) W fun e w'=>e=Xb (.bool (p m))/\Ext W w'
def idxS (p:Str->Bool)(l:List Str):Int:=match l.findIdx? p with|some i=>i|none=>-1
theorem zqc {p:Str->Bool}{l:List Str}(a:∀m∈l,p m=false):idxS p l = -1:=by
 unfold idxS;rw[Qj.2 (fun x b=>a x b)]
theorem zqd {p:Str->Bool}{pre post:List Str}{m:Str}(a:∀x∈pre,p x=false)(b:p m=true):idxS p (pre++m::post)=pre.length:=by
 unfold idxS
 have:(pre++m::post).findIdx? p=some pre.length:=by rw[List.findIdx?_append,Qj.2 (fun x c=>a x c)];simp[List.findIdx?_cons,b]
 rw[this]
theorem zf0 (l:List Str):(l.flatMap strC).length=l.length:=by
 induction l with
 | nil=>rfl
 | cons a r b=>simp[b,strC]
theorem zt2 (A B:List Str)(x:Str):((A++x::B).flatMap strC)[A.length]? = some (St x):=by
 rw[Qe,<- zf0 A,List.getElem?_append_right (Qg _)];simp[strC]
theorem yar (A B:List Str)(x y:Str):((A++x::B).flatMap strC).set A.length (St y)=(A++y::B).flatMap strC:=by
 rw[Qe,Qe,<- zf0 A,List.set_append_right _ _ (Qg _)];simp[strC]
theorem zyi (A B:List Str):((A++B).flatMap strC).take A.length=A.flatMap strC:=by
 rw[Qe,<- zf0 A];simp
theorem RowIs.setStr {w:Xc}{g T:Nat}{A B:List Str}{x:Str}{tail:List Xd}(h:RowIs w g T ((A++x::B).flatMap strC) tail)(y:Str) :
  RowIs (w.setCell ⟨g,A.length,none⟩ (St y)) g T ((A++y::B).flatMap strC) tail:=by
 have h1:=h.set (j:=A.length) (by rw[zf0];simp) (St y)
 rwa[yar]at h1
theorem zvt {S:Nat->Prop}{v:Xd}{l:List Str}{w:Xc}{g base:Nat}{s:Array Xd}{C:Xc->Prop}{p:Str->Bool}(k:Sl strT w S v l)(d:PredS Tryz.prog g s base C p)(t:C w)(z:base<=w.heap.size) :
  Calls Tryz.prog 120 #[v,.func (.func g) #[] s] w fun e w'=>e=Xb (I (idxS p l))/\Ext w w':=by
 have n:=k;obtain⟨A,c,rfl,h1,D⟩:=k.form;have y:=zH t;have B:=d.enters;clear k t;go_enter Tryz.func120,Tryz.ntmps120;go_wp2
 go_loopw [8] (fun i wr=>∃pre post,l=pre++post/\i=I pre.length/\(∀x∈pre,p x=false)/\Ext w wr) (fun i _=>l.length-(intOf i).toNat)
 case atStart=>exact⟨[],l,rfl,rfl,by simp,Xe _⟩
 obtain⟨pre,post,a,rfl,h,hb⟩:=hrel
 cases post with
 | cons m post =>
  obtain⟨b,o,rfl,E⟩:=zg0 n hb a;have F:pre.length<l.length:=(by rw[a];simp);have r:=zH a;have f:=zH h;have q:=zH (d.does m wr (d.keep _ _ y.out (hb.below z)));clear a n d h;cases j:p m
  all_goals
   rw[j]at q;go_wp2_with fail;refine q.out.mono ?_;rintro e G⟨rfl,u⟩;go_wp2
  ·go_roundw
   case rel=>exact⟨pre++[m],post,by rw[r.out];simp,by simp,zm7 f.out j,hb.trans u⟩
   case measure=>simp[intOf];omega
  go_ret;exact⟨by rw[r.out,zqd f.out j];rfl,hb.trans u⟩
 | nil=>rw[Qa]at a;subst a;have f:=zH h;clear n h d;go_wp2;go_ret;exact⟨by rw[zqc f.out];rfl,hb⟩
theorem ztl {v:Xd}{l:List Str}{w:Xc}{g base:Nat}{ag:Array Xd}{C:Xc->Prop}{p:Str->Bool}(D:Own w base 9 1 v l.length (l.flatMap strC))(G:PredS Tryz.prog g ag base C p)(V:C w)(L:base<=w.heap.size) :
  Calls Tryz.prog 68 #[v,.func (.func g) #[] ag] w fun e w'=>∃v',e=Xb v'/\Own w' base 9 1 v' (l.filter fun m=>!p m).length ((l.filter fun m=>!p m).flatMap strC)/\Below base w w'/\∀b,b<w.heap.size->¬zad v b->w'.heap[b]? = w.heap[b]?:=by
 have R:=zjq D;have E:=zH (zvt R G V L)
 by_cases A:∀m∈l,p m=false
 ·have hi:=zqc A;rw[hi]at E;have aj:(l.filter fun m=>!p m)=l:=Qq.2 (fun m s=>by simp[A m s]);have HF:=zH aj;have a4:=zH D;clear hi aj D R G A;go_enter Tryz.func68,Tryz.ntmps68;go_wp2_with fail;refine E.out.mono ?_;rintro e bf⟨rfl,q⟩;go_wp2;go_ret;exact⟨_,rfl,by rw[HF.out];exact a4.out.ext q,q.below L,fun b f _=>q.block b f⟩
 obtain⟨S,av,aw,O,Z,X⟩:∃pre m post,l=pre++m::post/\(∀x∈pre,p x=false)/\p m=true:=by
  clear E R D
  induction l with
  | nil=>exact absurd (by simp) A
  | cons a r be =>
   cases ha:p a with
   | true=>exact⟨[],a,r,rfl,by simp,ha⟩
   | false=>obtain⟨pre,m,post,a6,a7,a8⟩:=be (fun a9=>A (by simp[ha];exact fun a W=>a9 a W));exact⟨a::pre,m,post,by rw[a6];rfl,by simp[ha];exact fun a W=>a7 a W,a8⟩
 have hi:=zqd (post:=aw) Z X;rw[<- O]at hi;rw[hi]at E;have bn:S.length<l.length:=by rw[O];simp
 obtain⟨z,J,tail,rfl,ak,h,bp,bb,M⟩:=D.row (by omega);have a2:=zH h;have ay:=zH M;have ae:=zH O;have a1:=zH Z;have a0:=zH X;have az:=zH V;have bh:=G.enters;have af:=zH G;have br:((S.length:Int) == -1)=false:=by rw[beq_eq_false_iff_ne];omega
 clear hi h M O Z X V G D R A;go_enter Tryz.func68,Tryz.ntmps68;go_wp2_with fail;refine E.out.mono ?_;rintro e bf⟨rfl,q⟩;go_wp2_with fail
 go_loopw [5,6] (fun i j wr=>∃pre post kept d:List Str,l=pre++post/\j=I pre.length/\i=I kept.length/\kept=pre.filter (fun m=>!p m)/\kept.length+d.length=pre.length/\0<d.length/\RowIs wr z 9 ((kept++d++post).flatMap strC) tail/\Below base w wr/\∀b,b<w.heap.size->b≠z->wr.heap[b]? = w.heap[b]?) (fun _ j _=>l.length-(intOf j).toNat)
 case atStart =>
  refine⟨S++[av],aw,S,[av],by rw[ae.out];simp,by simp,rfl,?_,by simp,by simp,?_,q.below L,fun b f _=>q.block b f⟩
  ·rw[Qc,Qq.2 (fun m s=>by simp[a1.out m s])];simp[a0.out]
  have:=a2.out.ext q;rw[ae.out]at this
  simpa using this
 obtain⟨pre,post,kept,d,F,rfl,rfl,N,B,al,h,hb,am⟩:=hrel;have U:=zH am;have ba:=hb.size;clear am
 cases post
 case cons m post=>
  obtain⟨x,d,rfl⟩:∃x r,d=x::r:=by cases d with|nil=>simp at al|cons x r=>exact⟨x,r,rfl⟩
  have bo:pre.length<l.length:=(by rw[F];simp);have s:=zt2 (kept++x::d) post m;rw[Qh,B]at s;have bk:=h.cell s;have ab:=zH (af.out.does m wr (af.out.keep _ _ az.out hb));have ad:=zH F;have H:=zH N;have ac:=zH B;have T:=zH h;have bc:kept.length<pre.length:=(by simp at B;omega);have ao:w.heap.size<=wr.heap.size:=ba;clear F N B h s al;cases Y:p m
  all_goals
   rw[Y]at ab;go_wp2_with fail;refine ab.out.mono ?_;rintro e ax⟨rfl,K⟩;have ai:Below base w ax:=Below.trans hb (K.below (Qb L hb.size));have aa:=T.out.ext K
  ·have ap:=zt2 kept (d++m::post) x;have Q:RowIs ax z 9 ((kept++x::(d++m::post)).flatMap strC) tail:=(by simpa using aa);have bj:=Q.cell ap;have bm:=Q.frozen kept.length;have a3:=zH Q;clear Q aa ap;go_wp2;go_roundw
   case rel =>
    refine⟨pre++[m],post,kept++[m],d++[m],by rw[ad.out];simp,by simp,by simp,by rw[Qc,<- H.out];simp[Y],?_,by simp,?_,?_,?_⟩
    ·have:=ac.out;simp at this ⊢;omega
    ·have:=a3.out.setStr m
     simpa using this
    ·exact ai.setCell (by simp;omega) _
    exact fun b f y=>(Below.heap_setCell _ _ _ _ y).trans ((K.block b (Qr f ao)).trans (U.out b f y))
   case measure=>simp[intOf];omega
  go_wp2;go_roundw
  case rel=>refine⟨pre++[m],post,kept,x::d++[m],by rw[ad.out];simp,by simp,rfl,by rw[Qc,<- H.out];simp[Y],?_,by simp,by simpa using aa,ai,fun b f y=>(K.block b (Qr f ao)).trans (U.out b f y)⟩;have:=ac.out;simp at this ⊢;omega
  case measure=>simp[intOf];omega
 rw[Qa]at F;subst F;have H:=zH N;rw[Qa]at h;have bc:kept.length<l.length:=(by omega);have bd:kept.length+d.length=l.length:=B;have aq:((kept++d).flatMap strC).length=(kept.length+(l.length-kept.length)) * 1:=(by rw[zf0,Qh];omega);obtain⟨i,hi,ar,-,-⟩:=info_parts zd7;obtain⟨bg,au,M⟩:=zig (P:=Tryz.prog) (t:=24) (o:=kept.length) (n:=l.length-kept.length) (c:=J-kept.length) Tryz.underlying24 hi ar (k:=1) rfl (by intro u an;simp[Value.cells]at an;subst an;rfl) h (by omega) aq 0;rw[Qm,zyi]at M;have T:=zH h;have a5:=zH au;have bq:¬J=kept.length:=(by omega);clear N B h bd aq hi ar au;go_wp2_with fail;go_ret;rw[<- H.out];have ah:=T.out.setRow (kept.flatMap strC++bg);rw[List.append_assoc]at ah;refine⟨_,rfl,ah.own ak (by omega) bb ?_ ?_ (by rw[zf0,Qm]),?_⟩
 ·have h1:=ay.out;have bi:=a5.out;simp only[Qh,zf0]at h1 ⊢;omega
 ·rw[Qm,<- zf0 kept,List.take_left]
 exact⟨zi7 hb ak _,fun b f y=>(setRow_other _ z b _ (fun e=>y ⟨z,_,J,rfl,by omega,e⟩)).trans (U.out b f (fun e=>y ⟨z,_,J,rfl,by omega,e⟩))⟩
end
end Go.Proofs.YtaabaflgeljbjaaGreat
