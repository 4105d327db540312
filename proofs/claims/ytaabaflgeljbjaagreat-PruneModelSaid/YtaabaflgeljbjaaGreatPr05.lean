/- Laws. -/
import Derived.Test.YtaabaflgeljbjaaGreatRows
import Derived.Test.YtaabaflgeljbjaaGreatPr01
set_option linter.unusedVariables false
set_option linter.unusedSimpArgs false
set_option maxRecDepth 100000
set_option maxHeartbeats 40000000
namespace Go.Proofs.YtaabaflgeljbjaaGreat
open Go.Value renaming slice→Xa,bool→Xb,agg→Xc
open Go.Ending renaming returned→Xd
open Go renaming World→Xe,Value→Xf
open List renaming flatMap_append→Qa,append_nil→Qb,filter_append→Qc,length_append→Qd,getElem?_append_right→Qe,findIdx?_eq_none_iff→Qf,set_append_right→Qg,filter_eq_self→Qh
section
open Go.RowKit
abbrev Dot:=Str×Nat
abbrev zag:=Str×Nat×Nat
abbrev Cell:=Nat×Str×Bool
abbrev Item:=Str×List Dot
abbrev zan:=Str×Dot
def zaj (m:Mark):List Xf:=[St m.1,U m.2]
def zbx (m:zag):List Xf:=[St m.1,U m.2.1,U m.2.2]
def strC (s:Str):List Xf:=[St s]
abbrev markT:Shape Mark:=flat 2 zaj (fun _=>rfl) (fun _ u hu=>by simp[zaj]at hu;rcases hu with rfl|rfl<;>rfl)
abbrev zcl:Shape zag:=flat 3 zbx (fun _=>rfl) (fun _ u hu=>by simp[zbx]at hu;rcases hu with rfl|rfl|rfl<;>rfl)
abbrev strT:Shape Str:=flat 1 strC (fun _=>rfl) (fun _ u hu=>by simp[strC]at hu;rcases hu with rfl;rfl)
def itemT:Shape Item where
 k:=2
 rd w S x vs:=∃v,vs = [St x.1,v]/\Sl markT w S v x.2
 len h:=by obtain⟨v,rfl,-⟩:=h;rfl
 one h:=by
  obtain⟨v,rfl,h⟩:=h;intro u hu;simp at hu;rcases hu with rfl|rfl
  ·rfl
  exact h.one
 keep h hs:=by obtain⟨v,rfl,h⟩:=h;exact⟨v,rfl,h.keep (by decide) hs⟩
 mono h hs:=by obtain⟨v,rfl,h⟩:=h;exact⟨v,rfl,h.mono (by decide) hs⟩
structure Entry where
 key:Str
 seen:List Mark
 counts:List zag
 items:List Item
 cell:Cell
def entryT:Shape Entry where
 k:=7
 rd w S x vs:=∃v1 v2 v3,vs = [St x.key,v1,v2,v3,U x.cell.1,St x.cell.2.1,Xb x.cell.2.2]/\Sl markT w S v1 x.seen/\Sl zcl w S v2 x.counts/\Sl itemT w S v3 x.items
 len h:=by obtain⟨_,_,_,rfl,-⟩:=h;rfl
 one h:=by
  obtain⟨_,_,_,rfl,h1,h2,h3⟩:=h;intro u hu;simp at hu;rcases hu with rfl|rfl|rfl|rfl|rfl|rfl|rfl
  ·rfl
  ·exact h1.one
  ·exact h2.one
  ·exact h3.one
  ·rfl
  ·rfl
  rfl
 keep h hs:=by obtain⟨v1,v2,v3,rfl,h1,h2,h3⟩:=h;exact⟨v1,v2,v3,rfl,h1.keep (by decide) hs,h2.keep (by decide) hs,h3.keep (by decide) hs⟩
 mono h hs:=by obtain⟨v1,v2,v3,rfl,h1,h2,h3⟩:=h;exact⟨v1,v2,v3,rfl,h1.mono (by decide) hs,h2.mono (by decide) hs,h3.mono (by decide) hs⟩
structure State where
 all:List Mark
 entries:List Entry
 pruned:List Str
theorem zgp:(Tryz.prog.info? 97).map (fun i=>(i.zero,i.size,i.bytes))=some (some (Xc #[St [],U 0]),2,24):=by kernel_rfl
theorem zkj:(Tryz.prog.info? 59).map (fun i=>(i.zero,i.size,i.bytes))=some (some (Xc #[St [],U 0]),2,24):=by kernel_rfl
theorem zkk:(Tryz.prog.info? 54).map (fun i=>(i.zero,i.size,i.bytes))=some (some (Xc #[St [],U 0,U 0]),3,32):=by kernel_rfl
theorem zlh:(Tryz.prog.info? 57).map (fun i=>(i.zero,i.size,i.bytes))=some (some (Xc #[St [],Xa none 0 0]),2,40):=by kernel_rfl
theorem zd7:(Tryz.prog.info? 9).map (fun i=>(i.zero,i.size,i.bytes))=some (some (St []),1,16):=by kernel_rfl
theorem zc0:(Tryz.prog.info? 46).map (fun i=>(i.zero,i.size,i.bytes))=some (some (Xc #[St [],Xa none 0 0,Xa none 0 0,Xa none 0 0,U 0,St [],Xb false]),7,120):=by kernel_rfl
theorem Sl.none_nil {α:Type}{T:Shape α}{w:Xe}{S:Nat->Prop}{n c:Nat}{l:List α}(a:Sl T w S (Xa none n c) l):l = []:=by
 cases l with
 | nil=>rfl
 | cons x r=>obtain⟨b,o,vs,e,d,-⟩:=a.at_ (pre:=[]) rfl;cases d
theorem zwf {A:Option Addr}{n:Nat}{b:Nat}:¬zad (Xa A n 0) b:=by
 rintro⟨g,n',c,h,hc,rfl⟩;cases h;omega
theorem zh3 {α:Type}{T:Shape α}{c:Nat}{w d w':Xe}{S:Nat->Prop}{v':Xf}{l:List α}{A:Option Addr}{vss:List (List Xf)}(h1:vss.length=l.length)(e:∀(i:Nat) x vs,l[i]? = some x->vss[i]? = some vs->T.rd w S x vs)(h:Own w' w.heap.size c T.k v' (0+l.length) ([]++vss.flatten))(f:Ext w d)(g:Grew d w' (Xa A 0 0) v'):OwnL T c w' w.heap.size S v' l/\Ext w w':=by
 have a:Ext w w':=f.grew g (fun b hb=>absurd hb zwf);exact⟨⟨vss,h1,fun i x vs hi j=>T.keep (e i x vs hi j) (fun b _ hb=>a.block b hb),by simpa using h⟩,a⟩
theorem zik {S:Nat->Prop}{v:Xf}{l:List (Mark)}{w:Xe}(a:Sl markT w S v l)(i:l.length<=1099511627776) :
  Calls Tryz.prog 64 #[v] w fun e w'=>∃v',e=Xd v'/\OwnL markT 97 w' w.heap.size S v' l/\Ext w w':=by
 obtain⟨A,c,rfl,h1,h⟩:=a.form
 cases A
 case none=>
  obtain rfl:=a.none_nil;have d:=fun W=>Lib.run_eql_slice_nil (P:=Tryz.prog) W 22 97 none 0 c 0 0 Tryz.underlying22
  clear a;go_enter Tryz.func64,Tryz.ntmps64;go_wp2;go_ret;exact⟨_,rfl,OwnL.nil _ _,Ext.refl _⟩
 rename_i A
 have d:=fun W=>Lib.run_eql_slice_nil (P:=Tryz.prog) W 22 97 (some A) l.length c 0 0 Tryz.underlying22
 have b:=zH a.src;clear a;go_enter Tryz.func64,Tryz.ntmps64
 go_wp2_with (at_builtin;refine zal rfl (.tmp 5) (.tmp 6) 22 rfl w.heap.size 97 2 24 (Xc #[St [],U 0]) Tryz.underlying22 zgp rfl (by omega) (Xa (some ⟨w.heap.size,0,none⟩) 0 0) 0 [] rfl (Own.nil _ _ _ _ _) (some A) l.length c (b.out.choose).flatten rfl (Src.ext b.out.choose_spec.2.2 ((Ext.refl w).alloc _)) (by omega) (by omega) (by simp) ?_;intro v' w' g f;clear d)
 go_ret;exact⟨v',rfl,zh3 b.out.choose_spec.1 b.out.choose_spec.2.1 g ((Ext.refl w).alloc _) f⟩
theorem zwg {S:Nat->Prop}{v:Xf}{l:List (Dot)}{w:Xe}(a:Sl markT w S v l)(i:l.length<=1099511627776) :
  Calls Tryz.prog 119 #[v] w fun e w'=>∃v',e=Xd v'/\OwnL markT 59 w' w.heap.size S v' l/\Ext w w':=by
 obtain⟨A,c,rfl,h1,h⟩:=a.form
 cases A
 case none=>
  obtain rfl:=a.none_nil;have d:=fun W=>Lib.run_eql_slice_nil (P:=Tryz.prog) W 55 59 none 0 c 0 0 Tryz.underlying55
  clear a;go_enter Tryz.func119,Tryz.ntmps119;go_wp2;go_ret;exact⟨_,rfl,OwnL.nil _ _,Ext.refl _⟩
 rename_i A
 have d:=fun W=>Lib.run_eql_slice_nil (P:=Tryz.prog) W 55 59 (some A) l.length c 0 0 Tryz.underlying55
 have b:=zH a.src;clear a;go_enter Tryz.func119,Tryz.ntmps119
 go_wp2_with (at_builtin;refine zal rfl (.tmp 5) (.tmp 6) 55 rfl w.heap.size 59 2 24 (Xc #[St [],U 0]) Tryz.underlying55 zkj rfl (by omega) (Xa (some ⟨w.heap.size,0,none⟩) 0 0) 0 [] rfl (Own.nil _ _ _ _ _) (some A) l.length c (b.out.choose).flatten rfl (Src.ext b.out.choose_spec.2.2 ((Ext.refl w).alloc _)) (by omega) (by omega) (by simp) ?_;intro v' w' g f;clear d)
 go_ret;exact⟨v',rfl,zh3 b.out.choose_spec.1 b.out.choose_spec.2.1 g ((Ext.refl w).alloc _) f⟩
theorem zsl {S:Nat->Prop}{v:Xf}{l:List (zag)}{w:Xe}(a:Sl zcl w S v l)(i:l.length<=1099511627776) :
  Calls Tryz.prog 117 #[v] w fun e w'=>∃v',e=Xd v'/\OwnL zcl 54 w' w.heap.size S v' l/\Ext w w':=by
 obtain⟨A,c,rfl,h1,h⟩:=a.form
 cases A
 case none=>
  obtain rfl:=a.none_nil;have d:=fun W=>Lib.run_eql_slice_nil (P:=Tryz.prog) W 41 54 none 0 c 0 0 Tryz.underlying41
  clear a;go_enter Tryz.func117,Tryz.ntmps117;go_wp2;go_ret;exact⟨_,rfl,OwnL.nil _ _,Ext.refl _⟩
 rename_i A
 have d:=fun W=>Lib.run_eql_slice_nil (P:=Tryz.prog) W 41 54 (some A) l.length c 0 0 Tryz.underlying41
 have b:=zH a.src;clear a;go_enter Tryz.func117,Tryz.ntmps117
 go_wp2_with (at_builtin;refine zal rfl (.tmp 5) (.tmp 6) 41 rfl w.heap.size 54 3 32 (Xc #[St [],U 0,U 0]) Tryz.underlying41 zkk rfl (by omega) (Xa (some ⟨w.heap.size,0,none⟩) 0 0) 0 [] rfl (Own.nil _ _ _ _ _) (some A) l.length c (b.out.choose).flatten rfl (Src.ext b.out.choose_spec.2.2 ((Ext.refl w).alloc _)) (by omega) (by omega) (by simp) ?_;intro v' w' g f;clear d)
 go_ret;exact⟨v',rfl,zh3 b.out.choose_spec.1 b.out.choose_spec.2.1 g ((Ext.refl w).alloc _) f⟩
theorem zt4 {S:Nat->Prop}{v:Xf}{l:List (Item)}{w:Xe}(a:Sl itemT w S v l)(i:l.length<=1099511627776) :
  Calls Tryz.prog 118 #[v] w fun e w'=>∃v',e=Xd v'/\OwnL itemT 57 w' w.heap.size S v' l/\Ext w w':=by
 obtain⟨A,c,rfl,h1,h⟩:=a.form
 cases A
 case none=>
  obtain rfl:=a.none_nil;have d:=fun W=>Lib.run_eql_slice_nil (P:=Tryz.prog) W 42 57 none 0 c 0 0 Tryz.underlying42
  clear a;go_enter Tryz.func118,Tryz.ntmps118;go_wp2;go_ret;exact⟨_,rfl,OwnL.nil _ _,Ext.refl _⟩
 rename_i A
 have d:=fun W=>Lib.run_eql_slice_nil (P:=Tryz.prog) W 42 57 (some A) l.length c 0 0 Tryz.underlying42
 have b:=zH a.src;clear a;go_enter Tryz.func118,Tryz.ntmps118
 go_wp2_with (at_builtin;refine zal rfl (.tmp 5) (.tmp 6) 42 rfl w.heap.size 57 2 40 (Xc #[St [],Xa none 0 0]) Tryz.underlying42 zlh rfl (by omega) (Xa (some ⟨w.heap.size,0,none⟩) 0 0) 0 [] rfl (Own.nil _ _ _ _ _) (some A) l.length c (b.out.choose).flatten rfl (Src.ext b.out.choose_spec.2.2 ((Ext.refl w).alloc _)) (by omega) (by omega) (by simp) ?_;intro v' w' g f;clear d)
 go_ret;exact⟨v',rfl,zh3 b.out.choose_spec.1 b.out.choose_spec.2.1 g ((Ext.refl w).alloc _) f⟩
theorem zpa {S:Nat->Prop}{v:Xf}{l:List (Str)}{w:Xe}(a:Sl strT w S v l)(i:l.length<=1099511627776) :
  Calls Tryz.prog 65 #[v] w fun e w'=>∃v',e=Xd v'/\OwnL strT 9 w' w.heap.size S v' l/\Ext w w':=by
 obtain⟨A,c,rfl,h1,h⟩:=a.form
 cases A
 case none=>
  obtain rfl:=a.none_nil;have d:=fun W=>Lib.run_eql_slice_nil (P:=Tryz.prog) W 24 9 none 0 c 0 0 Tryz.underlying24
  clear a;go_enter Tryz.func65,Tryz.ntmps65;go_wp2;go_ret;exact⟨_,rfl,OwnL.nil _ _,Ext.refl _⟩
 rename_i A
 have d:=fun W=>Lib.run_eql_slice_nil (P:=Tryz.prog) W 24 9 (some A) l.length c 0 0 Tryz.underlying24
 have b:=zH a.src;clear a;go_enter Tryz.func65,Tryz.ntmps65
 go_wp2_with (at_builtin;refine zal rfl (.tmp 5) (.tmp 6) 24 rfl w.heap.size 9 1 16 (St []) Tryz.underlying24 zd7 rfl (by omega) (Xa (some ⟨w.heap.size,0,none⟩) 0 0) 0 [] rfl (Own.nil _ _ _ _ _) (some A) l.length c (b.out.choose).flatten rfl (Src.ext b.out.choose_spec.2.2 ((Ext.refl w).alloc _)) (by omega) (by omega) (by simp) ?_;intro v' w' g f;clear d)
 go_ret;exact⟨v',rfl,zh3 b.out.choose_spec.1 b.out.choose_spec.2.1 g ((Ext.refl w).alloc _) f⟩
theorem zf1 {w wr:Xe}{S:Nat->Prop}{A:Option Addr}{n c:Nat}{l pre post:List Mark}{m:Mark}(d:Sl markT w S (Xa A n c) l)(hb:Ext w wr)(e:l=pre++m::post) :
  ∃b o,A=some ⟨b,o,none⟩/\wr.cell? ⟨b,o+pre.length * 2,none⟩=some (St m.1)/\wr.cell? ⟨b,o+pre.length * 2+1,none⟩=some (U m.2):=by
 obtain⟨b,o,vs,g,f,h,rfl,a⟩:=d.at_ e;injection f with e1 e2 e3
 subst e1;exact⟨b,o,rfl,hb.cell (a 0 _ rfl),hb.cell (a 1 _ rfl)⟩
structure PredM (P:Program) (g:Nat) (cb:Array Xf) (base:Nat) (C:Xe->Prop) (p:Mark->Bool):Prop where
 enters:∀args w,(callFunc g args).run P w=.ok (.enter g args) w
 keep:∀W W',C W->Below base W W'->C W'
 does:∀m W,C W->Calls P g (#[Xc #[St m.1,U m.2]]++cb) W fun e w'=>e=Xd (Xb (p m))/\Ext W w'
theorem Ext.below {w w':Xe}(a:Ext w w'){n:Nat}(b:n<=w.heap.size):Below n w w':=Below.mono a b
theorem zm7 {α:Type}{Q:α->Prop}{pre:List α}{m:α}(a:∀x∈pre,Q x)(b:Q m):∀x∈pre++[m],Q x:=fun x c=>by
 rcases List.mem_append.1 c with h1|h1
 ·exact a x h1
 rw[List.mem_singleton.1 h1];exact b
def idxM (p:Mark->Bool)(l:List Mark):Int:=match l.findIdx? p with|some i=>i|none=>-1
theorem zpb {p:Mark->Bool}{l:List Mark}(a:∀m∈l,p m=false):idxM p l = -1:=by
 unfold idxM;rw[Qf.2 (fun x b=>a x b)]
theorem zpc {p:Mark->Bool}{pre post:List Mark}{m:Mark}(a:∀x∈pre,p x=false)(b:p m=true):idxM p (pre++m::post)=pre.length:=by
 unfold idxM
 have:(pre++m::post).findIdx? p=some pre.length:=by rw[List.findIdx?_append,Qf.2 (fun x c=>a x c)];simp[List.findIdx?_cons,b]
 rw[this]
theorem zt5 {S:Nat->Prop}{v:Xf}{l:List Mark}{w:Xe}{g base:Nat}{s:Array Xf}{C:Xe->Prop}{p:Mark->Bool}(k:Sl markT w S v l)(d:PredM Tryz.prog g s base C p)(t:C w)(z:base<=w.heap.size) :
  Calls Tryz.prog 146 #[v,.func (.func g) #[] s] w fun e w'=>e=Xd (I (idxM p l))/\Ext w w':=by
 have n:=k;obtain⟨A,c,rfl,h1,D⟩:=k.form;have y:=zH t;have B:=d.enters;clear k t;go_enter Tryz.func146,Tryz.ntmps146;go_wp2
 go_loopw [8] (fun i wr=>∃pre post,l=pre++post/\i=I pre.length/\(∀x∈pre,p x=false)/\Ext w wr) (fun i _=>l.length-(intOf i).toNat)
 case atStart=>exact⟨[],l,rfl,rfl,by simp,Ext.refl _⟩
 obtain⟨pre,post,a,rfl,h,hb⟩:=hrel
 cases post with
 | cons m post =>
  obtain⟨b,o,rfl,E,F⟩:=zf1 n hb a;have G:pre.length<l.length:=(by rw[a];simp);have r:=zH a;have f:=zH h;have q:=zH (d.does m wr (d.keep _ _ y.out (hb.below z)));clear a n d h;cases j:p m
  all_goals
   rw[j]at q;go_wp2_with fail;refine q.out.mono ?_;rintro e H⟨rfl,u⟩;go_wp2
  ·go_roundw
   case rel=>exact⟨pre++[m],post,by rw[r.out];simp,by simp,zm7 f.out j,hb.trans u⟩
   case measure=>simp[intOf];omega
  go_ret;exact⟨by rw[r.out,zpc f.out j];rfl,hb.trans u⟩
 | nil=>rw[Qb]at a;subst a;have f:=zH h;clear n h d;go_wp2;go_ret;exact⟨by rw[zpb f.out];rfl,hb⟩
theorem zb4 (l:List Mark):(l.flatMap zaj).length=l.length * 2:=by
 induction l with
 | nil=>rfl
 | cons a r b=>simp[b,zaj];omega
theorem zgh (A B:List Mark)(x:Mark):((A++x::B).flatMap zaj)[A.length * 2]? = some (St x.1)/\((A++x::B).flatMap zaj)[A.length * 2+1]? = some (U x.2):=by
 rw[Qa,<- zb4 A]
 constructor
 ·rw[Qe (Nat.le_refl _)];simp[zaj]
 rw[Qe (by omega)];simp[zaj]
theorem zwh (A B:List Mark)(x y:Mark):(((A++x::B).flatMap zaj).set (A.length * 2) (St y.1)).set (A.length * 2+1) (U y.2)=(A++y::B).flatMap zaj:=by
 rw[Qa,Qa,<- zb4 A,Qg _ _ (Nat.le_refl _),Qg _ _ (by omega)];simp[zaj]
theorem znu (A B:List Mark):((A++B).flatMap zaj).take (A.length * 2)=A.flatMap zaj:=by
 rw[Qa,<- zb4 A];simp
theorem own_markT {a base:Nat}{S:Nat->Prop}{v:Xf}{l:List Mark}{w:Xe}:OwnL markT a w base S v l↔Own w base a 2 v l.length (l.flatMap zaj):=OwnL.flat_iff
theorem zbb {c base:Nat}{v:Xf}{l:List Mark}{w:Xe}(a:Own w base c 2 v l.length (l.flatMap zaj)):Sl markT w (fun b=>base<=b) v l :=
 (own_markT (S:=fun b=>base<=b).2 a).sl (by decide) (fun _ _ a=>a) (fun _ a _=>a)
theorem zi7 {base:Nat}{w b:Xe}{g:Nat}(a:Below base w b)(c:base<=g)(cs:Array Xf):Below base w (b.setRow g cs) :=
 ⟨a.os,a.tape,a.output,Nat.le_trans a.size (by simp[World.setRow]),fun k hk=>(setRow_other b g k _ (by omega)).trans (a.block k hk)⟩
theorem RowIs.setMark {w:Xe}{g T:Nat}{A B:List Mark}{x:Mark}{tail:List Xf}(a:RowIs w g T ((A++x::B).flatMap zaj) tail)(y:Mark) :
  RowIs ((w.setCell ⟨g,A.length * 2,none⟩ (St y.1)).setCell ⟨g,A.length * 2+1,none⟩ (U y.2)) g T ((A++y::B).flatMap zaj) tail:=by
 have c:((A++x::B).flatMap zaj).length=A.length * 2+2+B.length * 2:=by rw[zb4];simp;omega
 have h1:=a.set (j:=A.length * 2) (by omega) (St y.1);have b:=h1.set (j:=A.length * 2+1) (by rw[List.length_set];omega) (U y.2)
 rwa[zwh]at b
theorem zmn {v:Xf}{l:List Mark}{w:Xe}{g base:Nat}{af:Array Xf}{C:Xe->Prop}{p:Mark->Bool}(z:Own w base 97 2 v l.length (l.flatMap zaj))(F:PredM Tryz.prog g af base C p)(R:C w)(D:base<=w.heap.size) :
  Calls Tryz.prog 94 #[v,.func (.func g) #[] af] w fun e w'=>∃v',e=Xd v'/\Own w' base 97 2 v' (l.filter fun m=>!p m).length ((l.filter fun m=>!p m).flatMap zaj)/\Below base w w':=by
 have M:=zbb z;have A:=zH (zt5 M F R D)
 by_cases q:∀m∈l,p m=false
 ·have hi:=zpb q;rw[hi]at A;have aj:(l.filter fun m=>!p m)=l:=Qh.2 (fun m h=>by simp[q m h]);have HF:=zH aj;have a0:=zH z;clear hi aj z M F q;go_enter Tryz.func94,Tryz.ntmps94;go_wp2_with fail;refine A.out.mono ?_;rintro e ba⟨rfl,B⟩;go_wp2;go_ret;exact⟨_,rfl,by rw[HF.out];exact a0.out.ext B,B.below D⟩
 obtain⟨N,aq,ar,L,W,T⟩:∃pre m post,l=pre++m::post/\(∀x∈pre,p x=false)/\p m=true:=by
  clear A M z
  induction l with
  | nil=>exact absurd (by simp) q
  | cons a r a9 =>
   cases ha:p a with
   | true=>exact⟨[],a,r,rfl,by simp,ha⟩
   | false=>obtain⟨pre,m,post,a2,a3,a4⟩:=a9 (fun a5=>q (by simp[ha];exact fun a b S=>a5 _ S));exact⟨a::pre,m,post,by rw[a2];rfl,by simp[ha];exact fun a b S=>a3 _ S,a4⟩
 have hi:=zpc (post:=ar) W T;rw[<- L]at hi;rw[hi]at A;have bn:N.length<l.length:=by rw[L];simp
 obtain⟨ag,ae,tail,rfl,ak,f,bp,a6,J⟩:=z.row (by omega);have ay:=zH f;have au:=zH J;have ac:=zH L;have ax:=zH W;have aw:=zH T;have av:=zH R;have bc:=F.enters;have ad:=zH F;have br:((N.length:Int) == -1)=false:=by rw[beq_eq_false_iff_ne];omega
 clear hi f J L W T R F z M q;go_enter Tryz.func94,Tryz.ntmps94;go_wp2_with fail;refine A.out.mono ?_;rintro e ba⟨rfl,B⟩;go_wp2_with fail
 go_loopw [5,6] (fun i j wr=>∃pre post kept d:List Mark,l=pre++post/\j=I pre.length/\i=I kept.length/\kept=pre.filter (fun m=>!p m)/\kept.length+d.length=pre.length/\0<d.length/\RowIs wr ag 97 ((kept++d++post).flatMap zaj) tail/\Below base w wr) (fun _ j _=>l.length-(intOf j).toNat)
 case atStart =>
  refine⟨N++[aq],ar,N,[aq],by rw[ac.out];simp,by simp,rfl,?_,by simp,by simp,?_,B.below D⟩
  ·rw[Qc,Qh.2 (fun m h=>by simp[ax.out m h])];simp[aw.out]
  have:=ay.out.ext B;rw[ac.out]at this
  simpa using this
 obtain⟨pre,post,kept,d,E,rfl,rfl,K,s,al,f,hb⟩:=hrel
 cases post
 case cons m post=>
  obtain⟨x,d,rfl⟩:∃x r,d=x::r:=by cases d with|nil=>simp at al|cons x r=>exact⟨x,r,rfl⟩
  have bo:pre.length<l.length:=(by rw[E];simp);have h:=zgh (kept++x::d) post m;rw[Qd,s]at h;have bi:=f.cell h.1;have bj:=f.cell h.2;have Z:=zH (ad.out.does m (wr.alloc (.cells #[St m.1,U m.2] 97)) (ad.out.keep _ _ av.out (Below.trans hb (((Ext.refl wr).alloc _).below (Nat.le_trans D hb.size)))));have ab:=zH E;have G:=zH K;have aa:=zH s;have Q:=zH f;have a7:kept.length<pre.length:=(by simp at s;omega);clear E K s f h al;cases V:p m
  all_goals
   rw[V]at Z;go_wp2_with fail;refine Z.out.mono ?_;rintro e O⟨rfl,H⟩;have ai:Below base w O:=Below.trans hb ((((Ext.refl wr).alloc _).trans H).below (Nat.le_trans D hb.size));have X:=(Q.out.alloc (.cells #[St m.1,U m.2] 97)).ext H
  ·have Y:=zgh kept (d++m::post) x;have y:RowIs O ag 97 ((kept++x::(d++m::post)).flatMap zaj) tail:=(by simpa using X);have bg:=y.cell Y.1;have bh:=y.cell Y.2;have bk:=y.frozen (kept.length * 2);have bm:=y.frozen (kept.length * 2+1);have be:O.cell? ⟨wr.heap.size,0,none⟩=some (St m.1):=H.cell (by simp[go_sem]);have bf:O.cell? ⟨wr.heap.size,1,none⟩=some (U m.2):=H.cell (by simp[go_sem]);have az:=zH y;clear y X Y;go_wp2;go_roundw
   case rel =>
    refine⟨pre++[m],post,kept++[m],d++[m],by rw[ab.out];simp,by simp,by simp,by rw[Qc,<- G.out];simp[V],?_,by simp,?_,?_⟩
    ·have:=aa.out;simp at this ⊢;omega
    ·have:=az.out.setMark m
     simpa using this
    exact(ai.setCell (by simp;omega) _).setCell (by simp;omega) _
   case measure=>simp[intOf];omega
  go_wp2;go_roundw
  case rel=>refine⟨pre++[m],post,kept,x::d++[m],by rw[ab.out];simp,by simp,rfl,by rw[Qc,<- G.out];simp[V],?_,by simp,by simpa using X,ai⟩;have:=aa.out;simp at this ⊢;omega
  case measure=>simp[intOf];omega
 rw[Qb]at E;subst E;have G:=zH K;rw[Qb]at f;have a7:kept.length<l.length:=(by omega);have a8:kept.length+d.length=l.length:=s;have an:((kept++d).flatMap zaj).length=(kept.length+(l.length-kept.length)) * 2:=(by rw[zb4,Qd];omega);obtain⟨i,hi,ao,-,-⟩:=info_parts zgp;obtain⟨bb,ap,J⟩:=zig (P:=Tryz.prog) (t:=22) (o:=kept.length) (n:=l.length-kept.length) (c:=ae-kept.length) Tryz.underlying22 hi ao (k:=2) rfl (by intro u am;simp[Value.cells]at am;rcases am with rfl|rfl<;>rfl) f (by omega) an 0;rw[znu]at J;have Q:=zH f;have a1:=zH ap;have bq:¬ae=kept.length:=(by omega);clear K s f a8 an hi ao ap;go_wp2_with fail;go_ret;rw[<- G.out];have ah:=Q.out.setRow (kept.flatMap zaj++bb);rw[List.append_assoc]at ah;refine⟨_,rfl,ah.own ak (by omega) a6 ?_ ?_ (zb4 _),?_⟩
 ·have h1:=au.out;have bd:=a1.out;simp only[Qd,zb4]at h1 ⊢;omega
 ·rw[<- zb4 kept,List.take_left]
 exact zi7 hb ak _
theorem ztv {S:Nat->Prop}{v:Xf}{l:List Mark}{w:Xe}(h:Sl markT w S v l) :
  Calls Tryz.prog 33 #[v] w fun e w'=>e=Xd (Xb (mayM l))/\Ext w w':=by
 have j:=h;obtain⟨A,c,rfl,h1,y⟩:=h.form
 by_cases n:l.length<=512
 ·have a:=zH (show mayM l=zd5 [] l by simp[mayM,n]);have r:¬(l.length:Int)>512:=by omega
  clear h;go_enter Tryz.func33,Tryz.ntmps33;go_wp2
  go_loopw [3,11] (fun last i wr=>∃pre post k,l=pre++post/\i=I pre.length/\last=St k/\zd5 [] l=zd5 k post/\Ext w wr) (fun _ i _=>l.length-(intOf i).toNat)
  case atStart=>exact⟨[],l,[],rfl,rfl,rfl,rfl,Ext.refl _⟩
  obtain⟨pre,post,k,f,rfl,rfl,g,hb⟩:=hrel
  cases post with
  | cons m post =>
   obtain⟨b,o,rfl,z,B⟩:=zf1 j hb f;have C:pre.length<l.length:=(by rw[f];simp);have p:=zH f;have d:=zH g;clear f j g;rcases zfp m.1 k with⟨q1,s,q3,q4,t⟩|q|⟨q1,s,q3,q4,t⟩
   ·go_wp2;go_ret;exact⟨by rw[a.out,d.out];simp[zd5,leS,q1],hb.alloc _⟩
   ·subst q;go_wp2;go_ret;exact⟨by rw[a.out,d.out];simp[zd5,leS],hb.alloc _⟩
   by_cases r1:m.2<1
   ·have u:(m.2:Int)<1:=(by omega);go_wp2;go_ret;exact⟨by rw[a.out,d.out];simp[zd5,leS,q1,q3];omega,hb.alloc _⟩
   have u:¬(m.2:Int)<1:=by omega
   by_cases D:m.2<=281474976710656
   ·have x:¬(m.2:Int)>281474976710656:=(by omega);go_wp2;go_roundw
    case rel=>exact⟨pre++[m],post,m.1,by rw[p.out];simp,by simp,rfl,by rw[d.out];simp[zd5,leS,q1,q3];omega,hb.alloc _⟩
    case measure=>simp[intOf];omega
   have x:(m.2:Int)>281474976710656:=(by omega);go_wp2;go_ret;exact⟨by rw[a.out,d.out];simp[zd5,leS,q1,q3];omega,hb.alloc _⟩
  | nil=>rw[Qb]at f;subst f;have d:=zH g;clear g j;go_wp2;go_ret;exact⟨by rw[a.out,d.out];rfl,hb⟩
 have a:=zH (show mayM l=false by simp[mayM,n]);have r:(l.length:Int)>512:=by omega
 clear h j;go_enter Tryz.func33,Tryz.ntmps33;go_wp2;go_ret;exact⟨by rw[a.out];rfl,Ext.refl _⟩
theorem ya2 (s:Str)(m:Mark){b:Nat}{w:Xe}(hb:w.cell? ⟨b,0,none⟩=some (St s)) :
  Calls Tryz.prog 46 #[Xc #[St m.1,U m.2],.pointer (some ⟨b,0,none⟩)] w fun e w'=>e=Xd (Xb (m.1==s && !s.isEmpty))/\Ext w w':=by
 have d:=zae hb
 by_cases a:m.1=s
 ·have c:(m.1==s)=true:=by simpa using a
  go_enter Tryz.func46,Tryz.ntmps46;go_wp2;go_ret;exact⟨by simp[a],(Ext.refl _).alloc _⟩
 have c:(m.1==s)=false:=by simpa using a
 go_enter Tryz.func46,Tryz.ntmps46;go_wp2;go_ret;exact⟨by simp[c],(Ext.refl _).alloc _⟩
theorem yb5 (a b:Nat):U (if true=true then max a b else a)=Value.int IntKind.u64 (if a<b then(b:Int)else a):=by
 simp only[U,if_true]
 congr 1
 split<;>omega
theorem zy0 (l:List Mark)(m:Mark)(s:Str):ofM (l++[m]) s=if m.1==s && !s.isEmpty then max (ofM l s) m.2 else ofM l s:=by simp[ofM]
theorem zy1 {S:Nat->Prop}{v:Xf}{l:List Mark}{w:Xe}{s:Str}{bs:Nat}(f:Sl markT w S v l)(p:w.cell? ⟨bs,0,none⟩=some (St s)) :
  Calls Tryz.prog 45 #[v,.func (.func 46) #[] #[.pointer (some ⟨bs,0,none⟩)]] w fun e w'=>e=Xd (U (ofM l s))/\Ext w w':=by
 have g:=f;obtain⟨A,c,rfl,h1,u⟩:=f.form;have r:=zH p;clear f p;go_enter Tryz.func45,Tryz.ntmps45;go_wp2
 go_loopw [5,10] (fun n i wr=>∃pre post,l=pre++post/\i=I pre.length/\n=U (ofM pre s)/\Ext w wr) (fun _ i _=>l.length-(intOf i).toNat)
 case atStart=>exact⟨[],l,rfl,rfl,rfl,Ext.refl _⟩
 obtain⟨pre,post,a,rfl,rfl,hb⟩:=hrel
 cases post with
 | cons m post =>
  obtain⟨b,o,rfl,x,y⟩:=zf1 g hb a;have B:pre.length<l.length:=(by rw[a];simp);have h:=zH a;have j:=zH (zy0 pre m s);have q:=zH (ya2 s m (w:=wr.alloc (.cells #[St m.1,U m.2] 97)) ((hb.alloc _).cell r.out));clear a g;go_wp2_with fail;refine q.out.mono ?_;rintro e t⟨rfl,d⟩;have z:t.cell? ⟨wr.heap.size,1,none⟩=some (U m.2):=d.cell (by simp[go_sem]);cases k:m.1==s && !s.isEmpty
  ·go_wp2;go_roundw
   case rel=>exact⟨pre++[m],post,by rw[h.out];simp,by simp,by rw[j.out,k];rfl,(hb.alloc _).trans d⟩
   case measure=>simp[intOf];omega
  go_wp2;go_roundw
  case rel=>exact⟨pre++[m],post,by rw[h.out];simp,by simp,by rw[j.out,k];exact(yb5 _ _).symm,(hb.alloc _).trans d⟩
  case measure=>simp[intOf];omega
 | nil=>rw[Qb]at a;subst a;clear g;go_wp2;go_ret;exact⟨rfl,hb⟩
theorem ze1 {S:Nat->Prop}{v:Xf}{l:List Mark}{w:Xe}(s:Str)(a:Sl markT w S v l) :
  Calls Tryz.prog 14 #[v,St s] w fun e w'=>e=Xd (U (ofM l s))/\Ext w w':=by
 have b:=zH (zy1 (s:=s) (bs:=w.heap.size) (a.ext (by decide) ((Ext.refl w).alloc (.cells #[St s] 9))) (by simp[go_sem]));clear a;go_enter Tryz.func14,Tryz.ntmps14;go_wp2_with fail;refine b.out.mono ?_;rintro e d⟨rfl,c⟩;go_wp2;go_ret;exact⟨rfl,((Ext.refl _).alloc _).trans c⟩
theorem zou {S:Nat->Prop}{v:Xf}{l:List Mark}{w:Xe}(d:Mark)(c:Sl markT w S v l) :
  Calls Tryz.prog 122 #[v,Xc #[St d.1,U d.2]] w fun e w'=>e=Xd (Xb (hasM l d))/\Ext w w':=by
 by_cases a:1<=d.2
 ·have j:(d.2:Int)≥1:=by omega
  have f:=zH (fun(W:Xe) (h:Ext w W)=>ze1 d.1 (c.ext (by decide) h));clear c;go_enter Tryz.func122,Tryz.ntmps122;go_wp2_with fail
  go_region_held3 (fun W=>W.cell? ⟨w.heap.size,0,none⟩=some (St d.1)/\W.cell? ⟨w.heap.size,1,none⟩=some (U d.2)/\Ext w W) (first|exact⟨by simp[go_sem],by simp[go_sem],((Ext.refl _).alloc _).drew⟩|exact⟨b.cell ‹_/\_/\Ext w _›.1,b.cell ‹_/\_/\Ext w _›.2.1,‹_/\_/\Ext w _›.2.2.trans b⟩) (first|(go_at_call 14;refine(f.out _ ‹_/\_/\Ext w _›.2.2).mono ?_;rintro e k⟨rfl,b⟩))
  go_wp2;go_ret;exact⟨by simp[hasM,a],‹_/\_/\Ext w _›.2.2⟩
 obtain⟨i,g⟩:=d;obtain rfl:g=0:=by simp at a;exact a
 clear c a;go_enter Tryz.func122,Tryz.ntmps122;go_wp2_with fail;go_quiet (fail);go_wp2;go_ret;exact⟨by simp[hasM],((Ext.refl _).alloc _).drewN _⟩
end
section
end
end Go.Proofs.YtaabaflgeljbjaaGreat
