/- Contracts and plain laws. -/
import Derived.Test.YtdikcgmdmcfpfaaGreatJo42
import Derived.Test.YtdikcgmdmcfpfaaGreatJo32
set_option linter.unusedVariables false
set_option linter.unusedSimpArgs false
set_option maxRecDepth 100000
set_option maxHeartbeats 40000000
namespace Go.Proofs.YtdikcgmdmcfpfaaGreat
section
open Go.RowKit
theorem zq8 {a b:List Item} {sa sb:List Mark} (ha:GoodM sa) (hb:GoodM sb) {q:zam}:q ∈ zac (zb9 a sa b sb)↔(q ∈ zac a/\(q ∈ zac b ∨ hasM sb q.2=false)) ∨ (q ∈ zac b/\(q ∈ zac a ∨ hasM sa q.2=false)):=by
 unfold zb9;rw [zpz,zd5];unfold zf6 zg4;rw [List.mem_filter,List.mem_filter,zov ha,zov hb];simp only [zgp,Bool.or_eq_true,decide_eq_true_eq,Bool.not_eq_true']
end
section
def insD (d:Dot):Bool->List Dot->List Dot
 | dn,[]=>if dn then [] else [d]
 | dn,x :: r=>if dn=false/\cmpD d x < 0 then d :: x :: insD d true r else x :: insD d dn r
def putD (l:List Dot) (d:Dot):List Dot:=if d ∈ l then l else insD d false l
def zcx (t:Str) (d:Dot):Bool->List Item->List Item
 | dn,[]=>if dn then [] else [(t,[d])]
 | dn,x :: r=>if x.1=t then (x.1,putD x.2 d) :: zcx t d true r else if dn=false/\ltS t x.1=true then (t,[d]) :: x :: zcx t d true r else x :: zcx t d dn r
theorem zg6 (d x:Dot) (dn:Bool) (r:List Dot):insD d dn (x :: r)=if dn=false/\cmpD d x < 0 then d :: x :: insD d true r else x :: insD d dn r:=rfl
theorem zhl (t:Str) (d:Dot) (x:Item) (dn:Bool) (r:List Item):zcx t d dn (x :: r)=if x.1=t then (x.1,putD x.2 d) :: zcx t d true r else if dn=false/\ltS t x.1=true then (t,[d]) :: x :: zcx t d true r else x :: zcx t d dn r:=rfl
def insQ (o:List Item) (q:zam):List Item:=zcx q.1 q.2 false o
def of13 (l:List Item) (t:Str):List Dot:=(((zac l).filter fun q=>decide (q.1=t)).map (·.2)).foldl putD []
def zaz (m:List Item) (v:List Mark) (q:zam):Bool:=decide (q.2 ∈ of13 m q.1) || !hasM v q.2
def zk7 (a:List Item) (sa:List Mark) (b:List Item) (sb:List Mark):List Item:=((zac a).filter (zaz b sb)++(zac b).filter (zaz a sa)).foldl insQ []
theorem zw5 {a b:Dot}:cmpD a b=0↔a=b:=by
 unfold cmpD orI
 constructor
 ·intro h
  split at h
  ·rename_i h1;exact absurd h h1
  ·rename_i h1;have h2:cmpS a.1 b.1=0:=Classical.byContradiction h1;exact Prod.ext (cmpS_eq.1 h2) (cmpN_eq.1 h)
 ·rintro rfl;rw [cmpS_eq.2 rfl,cmpN_eq.2 rfl];rfl
theorem ltOf_cmpD {a b:Dot}:ltOf cmpD a b=true↔cmpD a b < 0:=by simp [ltOf]
theorem ziv (d:Dot):∀ l:List Dot,insD d true l=l
 | []=>rfl
 | x :: r=>by rw [zg6,if_neg (by simp),ziv d r]
theorem zm0 (d:Dot):∀ (l:List Dot),(insD d false l).length=l.length+1
 | []=>rfl
 | x :: r=>by
  rw [zg6]
  split
  ·simp [ziv]
  ·simp [zm0 d r]
theorem zm1 (d x:Dot):∀ l:List Dot,x ∈ insD d false l↔x=d ∨ x ∈ l
 | []=>by simp [insD]
 | y :: r=>by
  rw [zg6]
  split
  ·rw [ziv];simp
  ·rw [List.mem_cons,zm1 d x r,List.mem_cons]
   constructor
   ·rintro (h | h | h) <;> simp [h]
   ·rintro (h | h | h) <;> simp [h]
theorem zm2 (l:List Dot) (d x:Dot):x ∈ putD l d↔x=d ∨ x ∈ l:=by
 unfold putD
 split
 ·constructor
  ·exact .inr
  ·rintro (rfl | h)
   ·assumption
   ·exact h
 ·exact zm1 d x l
theorem zy0 (l:List Dot) (d:Dot):(putD l d).length<=l.length+1:=by
 unfold putD;split;omega;rw [zm0];omega
theorem zz2 (l:List Dot) (d:Dot):putD l d ≠ []:=fun h=>by
 have:=(zm2 l d d).2 (.inl rfl);rw [h] at this;cases this
theorem zpk (d:Dot):∀ l:List Dot,d ∉ l->(l.Pairwise fun a b=>ltOf cmpD a b=true)->(insD d false l).Pairwise fun a b=>ltOf cmpD a b=true
 | [],_,_=>by simp [insD]
 | y :: r,hd,h=>by
  obtain⟨h1,h2⟩:=List.pairwise_cons.1 h;rw [zg6]
  split
  ·rename_i hc;rw [ziv];have hc':=ltOf_cmpD.2 hc.2;refine List.pairwise_cons.2 ⟨fun x hx=>?_,h⟩;rcases List.mem_cons.1 hx with rfl | hx
   ·exact hc'
   ·exact zm8 _ _ _ hc' (h1 x hx)
  ·rename_i hc;have hn:¬ d=y:=fun e=>hd (by simp [e])
   refine List.pairwise_cons.2 ⟨fun x hx=>?_,zpk d r (fun k=>hd (by simp [k])) h2⟩;rcases (zm1 d x r).1 hx with rfl | hx
   ·rcases zqd y x with k | k | k
    ·exact k
    ·exact absurd k.symm hn
    ·exact absurd ⟨rfl,ltOf_cmpD.1 k⟩ hc
   ·exact h1 x hx
theorem zw6 {l:List Dot} (d:Dot) (h:l.Pairwise fun a b=>ltOf cmpD a b=true):(putD l d).Pairwise fun a b=>ltOf cmpD a b=true:=by
 unfold putD
 split
 ·exact h
 ·exact zpk d l (by assumption) h
def RiseB (l:List Item):Prop:=(l.Pairwise fun a b=>ltS a.1 b.1=true)/\∀ it ∈ l,it.2 ≠ []/\it.2.Pairwise fun a b=>ltOf cmpD a b=true
theorem zpl:RiseB []:=⟨.nil,by simp⟩
theorem RiseB.nodup {l:List Item} (h:RiseB l):(zac l).Nodup:=(zk6 h.1 fun it hit=>(h.2 it hit).2).imp fun {a b} hab e=>by subst e;rw [zi0] at hab;cases hab
theorem RiseB.ext {a b:List Item} (ha:RiseB a) (hb:RiseB b) (h:∀ q,q ∈ zac a↔q ∈ zac b):a=b:=by
 rw [<- zmh ha.1 ha.2,<- zmh hb.1 hb.2];exact zgs (zd2 ha.nodup hb.nodup h)
theorem zum {ks:List zam} (h:ks.Nodup):RiseB (zb3 ks):=zmg _ (zsl h)
theorem zj2 (t:Str) (d:Dot):∀ l:List Item,(∀ x ∈ l,x.1 ≠ t)->zcx t d true l=l
 | [],_=>rfl
 | x :: r,h=>by rw [zhl,if_neg (h x (by simp)),if_neg (by simp),zj2 t d r fun y hy=>h y (by simp [hy])]
theorem znw (t:Str) (d:Dot):∀ (l:List Item) (dn:Bool),∀ y ∈ zcx t d dn l,y.1=t ∨ ∃ x ∈ l,x.1=y.1
 | [],dn,y,hy=>by
  unfold zcx at hy
  split at hy
  ·cases hy
  ·rw [List.mem_singleton.1 hy];exact .inl rfl
 | x :: r,dn,y,hy=>by
  rw [zhl] at hy;have ih:=znw t d r
  split at hy
  ·rename_i h;rcases List.mem_cons.1 hy with rfl | hy
   ·exact .inl h
   ·rcases ih true y hy with h1 | ⟨z,hz,h1⟩
    ·exact .inl h1
    ·exact .inr ⟨z,by simp [hz],h1⟩
  ·split at hy
   ·rcases List.mem_cons.1 hy with rfl | hy
    ·exact .inl rfl
    ·rcases List.mem_cons.1 hy with rfl | hy
     ·exact .inr ⟨y,by simp,rfl⟩
     ·rcases ih true y hy with h1 | ⟨z,hz,h1⟩
      ·exact .inl h1
      ·exact .inr ⟨z,by simp [hz],h1⟩
   ·rcases List.mem_cons.1 hy with rfl | hy
    ·exact .inr ⟨y,by simp,rfl⟩
    ·rcases ih dn y hy with h1 | ⟨z,hz,h1⟩
     ·exact .inl h1
     ·exact .inr ⟨z,by simp [hz],h1⟩
theorem zun (t:Str) (ds:List Dot) (d:Dot) (q:zam):q ∈ (putD ds d).map (fun x=>(t,x))↔q=(t,d) ∨ q ∈ ds.map (fun x=>(t,x)):=by
 simp only [List.mem_map,zm2]
 constructor
 ·rintro⟨x,rfl | hx,rfl⟩
  ·exact .inl rfl
  ·exact .inr ⟨x,hx,rfl⟩
 ·rintro (rfl | ⟨x,hx,rfl⟩)
  ·exact⟨d,.inl rfl,rfl⟩
  ·exact⟨x,.inr hx,rfl⟩
theorem zmi (t:Str) (d:Dot):∀ l:List Item,RiseB l->RiseB (zcx t d false l)/\∀ q,q ∈ zac (zcx t d false l)↔q=(t,d) ∨ q ∈ zac l
 | [],_=>⟨⟨by simp [zcx],by simp [zcx]⟩,fun q=>by simp [zcx,zac]⟩
 | x :: r,h=>by
  obtain⟨h1,h2⟩:=List.pairwise_cons.1 h.1;have hx:=h.2 x (by simp);have hr:RiseB r:=⟨h2,fun it hit=>h.2 it (by simp [hit])⟩
  rw [zhl]
  by_cases he:x.1=t
  ·have hd:=zj2 t d r fun y hy e=>absurd (he.trans e.symm) (zb0 (h1 y hy))
   rw [if_pos he,hd];refine ⟨⟨List.pairwise_cons.2 ⟨h1,h2⟩,fun it hit=>?_⟩,fun q=>?_⟩
   ·rcases List.mem_cons.1 hit with rfl | hit
    ·exact⟨zz2 _ _,zw6 d hx.2⟩
    ·exact hr.2 it hit
   ·rw [zdm,zdm,List.mem_append,List.mem_append,zun,he,or_assoc]
  ·rw [if_neg he]
   by_cases hc:false=false/\ltS t x.1=true
   ·have hd:=zj2 t d r fun y hy e=>absurd e.symm (zb0 (zap hc.2 (h1 y hy)))
    rw [if_pos hc,hd];refine ⟨⟨List.pairwise_cons.2 ⟨fun y hy=>?_,h.1⟩,fun it hit=>?_⟩,fun q=>?_⟩
    ·rcases List.mem_cons.1 hy with rfl | hy
     ·exact hc.2
     ·exact zap hc.2 (h1 y hy)
    ·rcases List.mem_cons.1 hit with rfl | hit
     ·exact⟨by simp,by simp⟩
     ·exact h.2 it hit
    ·rw [zdm];simp
   ·rw [if_neg hc];obtain⟨g1,g2⟩:=zmi t d r hr;refine ⟨⟨List.pairwise_cons.2 ⟨fun y hy=>?_,g1.1⟩,fun it hit=>?_⟩,fun q=>?_⟩
    ·rcases znw t d r false y hy with e | ⟨z,hz,e⟩
     ·rw [e];rcases zb6 x.1 t with k | k | k
      ·exact k
      ·exact absurd k he
      ·exact absurd ⟨rfl,k⟩ hc
     ·rw [<- e];exact h1 z hz
    ·rcases List.mem_cons.1 hit with rfl | hit
     ·exact hx
     ·exact g1.2 it hit
    ·rw [zdm,zdm,List.mem_append,List.mem_append,g2]
     constructor
     ·rintro (k | k | k) <;> simp [k]
     ·rintro (k | k | k) <;> simp [k]
theorem zq9 (qs:List zam):∀ o:List Item,RiseB o->RiseB (qs.foldl insQ o)/\∀ q,q ∈ zac (qs.foldl insQ o)↔q ∈ qs ∨ q ∈ zac o:=by
 induction qs with
 | nil=>intro o h;exact⟨h,fun q=>by simp⟩
 | cons p r ih =>
  intro o h;obtain⟨g1,g2⟩:=zmi p.1 p.2 o h;obtain⟨k1,k2⟩:=ih (insQ o p) g1;refine ⟨k1,fun q=>?_⟩;rw [List.foldl_cons,k2,show (q ∈ zac (insQ o p)↔_) from g2 q,List.mem_cons]
  constructor
  ·rintro (h | h | h) <;> simp [h]
  ·rintro ((h | h) | h) <;> simp [h]
theorem zw7 (ds:List Dot):∀ (o:List Dot) (x:Dot),x ∈ ds.foldl putD o↔x ∈ ds ∨ x ∈ o:=by
 induction ds with
 | nil=>intro o x;simp
 | cons d r ih =>
  intro o x;rw [List.foldl_cons,ih,zm2,List.mem_cons]
  constructor
  ·rintro (h | h | h) <;> simp [h]
  ·rintro ((h | h) | h) <;> simp [h]
theorem zy1 {l:List Item} {t:Str} {x:Dot}:x ∈ of13 l t↔(t,x) ∈ zac l:=by
 unfold of13;rw [zw7];simp only [List.mem_map,List.mem_filter,decide_eq_true_eq,List.not_mem_nil,or_false]
 constructor
 ·rintro⟨⟨a,b⟩,⟨h1,h2⟩,h3⟩;simp only at h2 h3;subst h2;subst h3;exact h1
 ·intro h;exact⟨_,⟨h,rfl⟩,rfl⟩
theorem zuo {m:List Item} {v:List Mark} {q:zam}:zaz m v q=true↔q ∈ zac m ∨ hasM v q.2=false:=by
 unfold zaz;rw [Bool.or_eq_true,decide_eq_true_eq,zy1,Bool.not_eq_true']
theorem zw8 {a b:List Item} {sa sb:List Mark} (ha:GoodM sa) (hb:GoodM sb):zk7 a sa b sb=zb9 a sa b sb:=by
 obtain⟨g1,g2⟩:=zq9 ((zac a).filter (zaz b sb)++(zac b).filter (zaz a sa)) [] zpl;refine RiseB.ext g1 (zum (zdk _ _ (zl0 _ _ _))) fun q=>?_
 refine Iff.trans (b:=_) ?_ (zq8 (a:=a) (b:=b) ha hb).symm;refine (g2 q).trans ?_;simp only [List.mem_append,List.mem_filter,zuo,zac,List.flatMap_nil,List.not_mem_nil,or_false]
end
section
open Go.RowKit Go.Shelf
theorem yag (x y:Dot) (w:World):(binOp .eql 97 (.agg #[St x.1,U x.2]) (.agg #[St y.1,U y.2])).run Tryz.prog w=.ok (.bool (decide (x=y))) w:=by
 rw [run_eql_struct,show (10000:Nat)=9998+1+1 from rfl,zjn];simp only [Result.andThen_ok]
 by_cases h:x=y
 ·subst h;rfl
 ·have h2:¬ y=x:=fun e=>h e.symm
  simp [h,h2]
theorem zfw {S:Nat->Prop} {v:Value} {l:List Dot} {w:World} (d:Dot) (hv:Sl markT w S v l) :
  Calls Tryz.prog 207 #[v,.agg #[St d.1,U d.2]] w fun e w'=>e=.returned (.bool (decide (d ∈ l)))/\Ext w w':=by
 have hv':=hv;obtain⟨P0,c,rfl,h1,h2⟩:=hv.form;obtain⟨W1,hW1⟩:∃ W1,w.alloc (.cells #[St d.1,U d.2] 97)=W1:=⟨_,rfl⟩
 have hx1:Ext w W1:=by rw [<- hW1];exact (Ext.refl w).alloc _
 have c0:W1.cell? ⟨w.heap.size,0,none⟩=some (St d.1):=by rw [<- hW1];simp [go_sem]
 have c1:W1.cell? ⟨w.heap.size,1,none⟩=some (U d.2):=by rw [<- hW1];simp [go_sem]
 have HAT:=zH (fun (pre post:List Dot) (x:Dot) (wr:World) (h:Ext W1 wr) (hl:l=pre++x :: post)=>zdv hv' (hx1.trans h) hl);have HX1:=zH hx1;have hgd:Tryz.prog.eqGuardType Tryz.prog.depth 97=false:=by kernel_rfl
 clear hv hv' hx1;go_enter Tryz.func207,Tryz.ntmps207;go_wp2_with fail
 go_loopw [5] (fun i wr=>∃ (pre post:List Dot),l=pre++post/\i=I pre.length/\d ∉ pre/\Ext W1 wr) (fun i _=>l.length - (intOf i).toNat)
 case atStart=>exact⟨[],l,rfl,rfl,by simp,Ext.refl _⟩
 case round =>
  obtain⟨pre,post,hl,rfl,hn,hx⟩:=hrel;have b0:=hx.cell c0;have b1:=hx.cell c1
  cases post with
  | cons x post =>
   obtain⟨b,o,rfl,e0,e1⟩:=HAT.out pre post x wr hx hl;have hlt:pre.length < l.length:=(by rw [hl];simp);have HL:=zH hl;have HX:=zH hx;have HN:=zH hn;clear hl hx hn c0 c1;have heq:=fun W=>yag x d W
   by_cases hd:x=d
   ·simp only [hd,decide_true] at heq;rw [hd] at e0 e1;have HF:=zH (show decide (d ∈ l)=true by rw [HL.out,hd];simp);clear hd;go_wp2_with fail;go_quiet (fail);go_wp2_with fail;go_ret;exact⟨by rw [HF.out];rfl,HX1.out.trans (HX.out.drewN _)⟩
   ·simp only [hd,decide_false] at heq;have HD:=zH hd;clear hd;go_wp2_with fail;go_quiet (fail);go_wp2_with fail;go_roundw
    case rel=>exact⟨pre++[x],post,by rw [HL.out];simp,by simp,by intro h;rcases List.mem_append.1 h with h | h;exact HN.out h;simp at h;exact HD.out h.symm,HX.out.drewN _⟩
    case measure=>simp [intOf];omega
  | nil=>rw [List.append_nil] at hl;subst hl;have HF:=zH (show decide (d ∈ l)=false by simpa using hn);have HX:=zH hx;clear hx hn;go_wp2_with fail;go_ret;exact⟨by rw [HF.out];rfl,HX1.out.trans HX.out⟩
theorem zka {S:Nat->Prop} {v:Value} {l:List Dot} {w:World} (d:Dot) (hv:Sl markT w S v l) (hl0:l.length<=1000000) :
  Calls Tryz.prog 246 #[v,.agg #[St d.1,U d.2]] w fun e w'=>∃ v',e=.returned v'/\Sl markT w' (fun b=>S b ∨ w.heap.size<=b) v' (putD l d)/\Ext w w':=by
 have hv':=hv;obtain⟨P0,c,rfl,h1,h2⟩:=hv.form;obtain⟨W1,hW1⟩:∃ W1,w.alloc (.cells #[St d.1,U d.2] 97)=W1:=⟨_,rfl⟩
 have hx1:Ext w W1:=by rw [<- hW1];exact (Ext.refl w).alloc _
 have c0:W1.cell? ⟨w.heap.size,0,none⟩=some (St d.1):=by rw [<- hW1];simp [go_sem]
 have c1:W1.cell? ⟨w.heap.size,1,none⟩=some (U d.2):=by rw [<- hW1];simp [go_sem]
 have hsz1:w.heap.size<=W1.heap.size:=hx1.size;have HAT:=zH (fun (pre post:List Dot) (x:Dot) (wr:World) (h:Ext W1 wr) (hl:l=pre++x :: post)=>zdv hv' (hx1.trans h) hl);have HSL:=zH (fun (wr:World) (h:Ext W1 wr)=>hv'.ext (by decide) (hx1.trans h));have HX1:=zH hx1;have hlen0:=zm0 d l;clear hv hv' hx1;go_enter Tryz.func246,Tryz.ntmps246;go_wp2_with fail
 go_loopw [5,6,7] (fun o dn i wr=>∃ (pre post P:List Dot) (db:Bool),l=pre++post/\i=I pre.length/\dn=.bool db/\d ∉ pre/\P++insD d db post=insD d false l/\P.length<=l.length+1/\Own wr W1.heap.size 97 2 o P.length (P.flatMap zag)/\Ext W1 wr) (fun _ _ i _=>l.length - (intOf i).toNat)
 case atStart=>exact⟨[],l,[],false,rfl,rfl,rfl,by simp,rfl,by simp,Own.nil _ _ _ _ _,Ext.refl _⟩
 case round =>
  obtain⟨pre,post,P,db,hl,rfl,rfl,hn,hp,hpl,hown,hx⟩:=hrel;have b0:=hx.cell c0;have b1:=hx.cell c1;have hn3:=hx.size;have HX:=zH hx;have HN:=zH hn;have HO:=zH hown;obtain⟨CO,nO,rfl,-,-⟩:=hown.form
  cases post with
  | cons x post =>
   obtain⟨b,o,rfl,e0,e1⟩:=HAT.out pre post x wr hx hl;have hlt:pre.length < l.length:=(by rw [hl];simp);have HL:=zH hl;have HP:=zH hp;have HZ:=zH (show cmpD d x=0↔d=x from zw5);have HIC:=zH (zg6 d x db post);obtain⟨Wd,hWd⟩:∃ W,wr.drew=W:=⟨_,rfl⟩
   have hdr:Ext wr Wd:=(by rw [<- hWd];exact (Ext.refl _).drew);have HWD:=zH hWd;have HXD:=zH (hx.trans hdr);replace b0:=hdr.cell b0;replace b1:=hdr.cell b1;replace e0:=hdr.cell e0;replace e1:=hdr.cell e1;have HOD:=zH (hown.ext hdr);have hn4:=Nat.le_trans hn3 hdr.size;have HCD:=zH (zmf d x Wd);clear hl hx hn hp c0 c1 hown hWd hdr HX HO;go_wp2_with fail;refine wp_region_still_tail 5 (by kernel_rfl) (by kernel_rfl) ?_;simp only [List.take_succ_cons,List.take_zero,List.drop_succ_cons,List.drop_zero];change wpStill _ _ (wr).drew (fun a'=>wpList _ _ _ _ a' (wr).drew) _ _;rw [HWD.out];generalize hA:Act.mk _ _=A0;repeat (refine wpStill_step (fun K2 hK2=>?_);subst hA;go_simp;(try rw [if_neg (by decide)]);generalize hA:Act.mk _ _=A0;refine hK2 A0 ?_;clear hK2 K2)
   refine wpStill_nil ?_;subst hA;go_wp2_with fail;refine HCD.out.mono ?_;rintro e w2 ⟨rfl,hx2⟩;obtain⟨z,hz⟩:∃ z,cmpD d x=z:=⟨_,rfl⟩
   rw [hz] at HZ HIC ⊢;have HX:=zH (HXD.out.trans hx2);have HO:=zH (HOD.out.ext hx2);replace b0:=hx2.cell b0;replace b1:=hx2.cell b1;replace e0:=hx2.cell e0;replace e1:=hx2.cell e1;have hn5:=Nat.le_trans hn4 hx2.size;have HZN:=zH hz;clear hx2 hz HCD HWD HXD HOD hn3 hn4
   by_cases hz0:z=0
   ·have hzb:(z == 0)=true:=(by simpa using hz0);have HD:=zH (show putD l d=l from if_pos (by rw [HL.out,HZ.out.1 hz0];simp));clear hz0 b0 b1 e0 e1;go_wp2_with fail;go_ret;exact⟨_,rfl,by rw [HD.out];exact (HSL.out _ HX.out).mono (by decide) (fun b _ h=>.inl h),HX1.out.trans HX.out⟩
   ·have hzb:(z == 0)=false:=(by simpa using hz0);have HNN:=zH (show d ∉ pre++[x] from fun h=>by rcases List.mem_append.1 h with h | h;exact HN.out h;simp at h;exact hz0 (HZ.out.2 h))
    cases db with
    | true =>
     have hp:=HP.out;rw [HIC.out,if_neg (by simp)] at hp;have HP:=zH hp;clear hp hz0
     go_wp2_with (at_builtin;refine zab rfl (.tmp 34) (.tmp 39) 94 rfl W1.heap.size 97 2 24 (.agg #[St [],U 0]) Tryz.underlying94 zd1 rfl (by omega) _ (P.length) (P.flatMap zag) rfl (HO.out.alloc _) _ 1 1 [St x.1,U x.2] rfl (Src.new rfl (by intro u hu;simp at hu;rcases hu with rfl | rfl <;> rfl)) (by omega) (by omega) (by simp;omega) ?_;intro v3 w3 hown3 hgr3)
     go_roundw
     case rel=>exact⟨pre++[x],post,P++[x],true,by rw [HL.out];simp,by simp,rfl,HNN.out,by rw [<- HP.out];simp,by have:=congrArg List.length HP.out;simp at this ⊢;omega,by simpa [zag] using hown3,Ext.grewOwn (HX.out.alloc _) hgr3 (HO.out.alloc _) (Nat.le_refl _)⟩
     case measure=>simp [intOf];omega
    | false =>
     by_cases hz2:z < 0
     ·have hp:=HP.out;rw [HIC.out,if_pos ⟨rfl,hz2⟩] at hp;have HP:=zH hp;clear hp hz0
      go_wp2_with (at_builtin;first | (refine zab rfl (.tmp 30) (.tmp 32) 94 rfl W1.heap.size 97 2 24 (.agg #[St [],U 0]) Tryz.underlying94 zd1 rfl (by omega) _ (P.length) (P.flatMap zag) rfl (HO.out.alloc _) _ 1 1 [St d.1,U d.2] rfl (Src.new rfl (by intro u hu;simp at hu;rcases hu with rfl | rfl <;> rfl)) (by omega) (by omega) (by simp;omega) ?_;intro v2 w2 hown2 hgr2;have hxb:=Ext.grewOwn (HX.out.alloc _) hgr2 (HO.out.alloc _) (Nat.le_refl _);have HO2:=zH hown2;obtain⟨b2,o2,he2,e0',e1'⟩:=HAT.out pre post x _ hxb HL.out;injection he2 with he2;injection he2 with he3 he4;subst he3;subst he4;have hn6:=hxb.size;have HXB:=zH hxb;obtain⟨C2,cc2,rfl,-,-⟩:=hown2.form;clear hown2 hgr2 hxb) | (refine zab rfl (.tmp 34) (.tmp 39) 94 rfl W1.heap.size 97 2 24 (.agg #[St [],U 0]) Tryz.underlying94 zd1 rfl (by omega) _ (P.length+1) (P.flatMap zag++[St d.1,U d.2]) rfl (HO2.out.alloc _) _ 1 1 [St x.1,U x.2] rfl (Src.new rfl (by intro u hu;simp at hu;rcases hu with rfl | rfl <;> rfl)) (by omega) (by omega) (by simp;omega) ?_;intro v3 w3 hown3 hgr3))
      go_roundw
      case rel=>exact⟨pre++[x],post,P++[d,x],true,by rw [HL.out];simp,by simp,rfl,HNN.out,by rw [<- HP.out];simp,by have:=congrArg List.length HP.out;simp at this ⊢;omega,by simpa [zag] using hown3,Ext.grewOwn (HXB.out.alloc _) hgr3 (HO2.out.alloc _) (Nat.le_refl _)⟩
      case measure=>simp [intOf];omega
     ·have hp:=HP.out;rw [HIC.out,if_neg (fun h=>hz2 h.2)] at hp;have HP:=zH hp;clear hp hz0
      go_wp2_with (at_builtin;refine zab rfl (.tmp 34) (.tmp 39) 94 rfl W1.heap.size 97 2 24 (.agg #[St [],U 0]) Tryz.underlying94 zd1 rfl (by omega) _ (P.length) (P.flatMap zag) rfl (HO.out.alloc _) _ 1 1 [St x.1,U x.2] rfl (Src.new rfl (by intro u hu;simp at hu;rcases hu with rfl | rfl <;> rfl)) (by omega) (by omega) (by simp;omega) ?_;intro v3 w3 hown3 hgr3)
      go_roundw
      case rel=>exact⟨pre++[x],post,P++[x],false,by rw [HL.out];simp,by simp,rfl,HNN.out,by rw [<- HP.out];simp,by have:=congrArg List.length HP.out;simp at this ⊢;omega,by simpa [zag] using hown3,Ext.grewOwn (HX.out.alloc _) hgr3 (HO.out.alloc _) (Nat.le_refl _)⟩
      case measure=>simp [intOf];omega
  | nil =>
   rw [List.append_nil] at hl;subst hl;have HD:=zH (show putD l d=insD d false l from if_neg hn);have HP:=zH hp;clear hn hp hx c0 c1 hown
   cases db with
   | true=>go_wp2_with fail;go_ret;exact⟨_,rfl,by rw [HD.out,<- HP.out];simpa [insD] using (zax HO.out).mono (by decide) (fun b _ h=>.inr (Nat.le_trans hsz1 h)),HX1.out.trans HX.out⟩
   | false =>
    go_wp2_with (at_builtin;refine zab rfl (.tmp 43) (.tmp 45) 94 rfl W1.heap.size 97 2 24 (.agg #[St [],U 0]) Tryz.underlying94 zd1 rfl (by omega) _ (P.length) (P.flatMap zag) rfl (HO.out.alloc _) _ 1 1 [St d.1,U d.2] rfl (Src.new rfl (by intro u hu;simp at hu;rcases hu with rfl | rfl <;> rfl)) (by omega) (by omega) (by simp;omega) ?_;intro v3 w3 hown3 hgr3)
    go_ret;exact⟨_,rfl,by rw [HD.out,<- HP.out];exact (zax (l:=P++[d]) (by simpa [zag] using hown3)).mono (by decide) (fun b _ h=>.inr (Nat.le_trans hsz1 h)),HX1.out.trans (Ext.grewOwn (HX.out.alloc _) hgr3 (HO.out.alloc _) (Nat.le_refl _))⟩
end
section
open Go.RowKit Go.Shelf
def IsB (e:Ending):Prop:=∃ m,e=.returned (.bool m)
theorem zra (c:Cell) (w:World):Calls Tryz.prog 129 #[zbe c] w fun e w'=>IsB e/\Ext w w':=by
 obtain⟨n,s,g⟩:=c
 by_cases h1:(n:Int) > 281474976710656
 ·go_enter Tryz.func129,Tryz.ntmps129;go_wp2;go_ret;exact⟨⟨_,rfl⟩,(Ext.refl _).alloc _⟩
 ·by_cases h2:(s.length:Int) > 4096
  ·go_enter Tryz.func129,Tryz.ntmps129;go_wp2;go_ret;exact⟨⟨_,rfl⟩,(Ext.refl _).alloc _⟩
  ·cases s with
   | nil =>
    cases g <;> rcases Nat.eq_zero_or_pos n with rfl | h3 <;>
    ·try have h4:(n:Int) > 0:=by omega
     go_enter Tryz.func129,Tryz.ntmps129;go_wp2;go_ret;exact⟨⟨_,rfl⟩,(Ext.refl _).alloc _⟩
   | cons x r =>
    have e1:((x :: r).toArray == (#[]:Array UInt8))=false:=by simp
    cases g <;> rcases Nat.eq_zero_or_pos n with rfl | h3 <;>
    ·try have h4:(n:Int) > 0:=by omega
     go_enter Tryz.func129,Tryz.ntmps129;go_wp2;go_ret;exact⟨⟨_,rfl⟩,(Ext.refl _).alloc _⟩
theorem zrb {S:Nat->Prop} {v:Value} {l:List zad} {w:World} (hv:Sl zbh w S v l) :
  Calls Tryz.prog 127 #[v] w fun e w'=>IsB e/\Ext w w':=by
 have hv':=hv;obtain⟨A,c,rfl,h1,h2⟩:=hv.form;have HAT:=zH (fun (pre post:List zad) (x:zad) (wr:World) (h:Ext w wr) (hl:l=pre++x :: post)=>zc9 hv' h hl);clear hv hv';go_enter Tryz.func127,Tryz.ntmps127;go_wp2_with fail
 go_loopw [3] (fun i wr=>∃ (pre post:List zad),l=pre++post/\i=I pre.length/\Ext w wr) (fun i _=>l.length - (intOf i).toNat)
 case atStart=>exact⟨[],l,rfl,rfl,Ext.refl _⟩
 case round =>
  obtain⟨pre,post,hl,rfl,hx⟩:=hrel
  cases post with
  | cons x post =>
   obtain⟨b,o,rfl,e0,e1,e2⟩:=HAT.out pre post x wr hx hl;have hlt:pre.length < l.length:=(by rw [hl];simp);have HL:=zH hl;have HX:=zH hx;obtain⟨z1,hz1⟩:∃ z,((x.2.1:Int) == 0)=z:=⟨_,rfl⟩
   obtain⟨z2,hz2⟩:∃ z,((x.2.2:Int) == 0)=z:=⟨_,rfl⟩
   rcases List.eq_nil_or_concat pre with rfl | ⟨q,y,rfl⟩
   ·simp only [List.length_nil,Nat.zero_mul,Nat.add_zero] at e0 e1 e2 hlt ⊢;clear hl hx
    cases z1 <;> cases z2 <;>
    ·go_wp2_with fail;go_quiet (fail);go_wp2_with fail
     first
     |go_roundw
      case rel=>exact⟨[x],post,by rw [HL.out];simp,by simp <;> omega,HX.out.drewN _⟩
      case measure=>simp [intOf];omega
     |go_ret
      exact⟨⟨_,rfl⟩,HX.out.drewN _⟩
   ·have hl2:l=q++y :: (x :: post):=(by rw [hl];simp);obtain⟨b',o',e,q0,q1,q2⟩:=HAT.out q (x :: post) y wr hx hl2;cases e;have hlq:q.length < l.length:=(by rw [hl2];simp);simp only [List.length_concat] at e0 e1 e2 hlt ⊢;have k0:(0:Int)<=(q.length:Int):=(by omega);have k1:((q.length:Int)) < (l.length:Int):=(by omega);have k2:((q.length:Int)+1) > 0:=(by omega);have k3:(((q.length+1:Nat):Int)) > 0:=(by omega);have k5:IntKind.i64.wrap (q.length:Int)=q.length:=(by simp [IntKind.wrap,IntKind.signed,IntKind.bits];omega);have k4:IntKind.i64.wrap ((q.length:Int)+1 - 1)=q.length:=(by rw [show (q.length:Int)+1 - 1=q.length by omega];simp [IntKind.wrap,IntKind.signed,IntKind.bits];omega);have k6:((q.length:Int)).toNat=q.length:=(by omega);clear hl hx hl2;rcases zci x.1 y.1 with ⟨p1,p2,p3,p4,p5⟩ | p1 | ⟨p1,p2,p3,p4,p5⟩
    case' inr.inl=>rw [p1] at e0;have p0:Op.bytesLess y.1 y.1=false:=zal _;clear p1
    all_goals (cases z1 <;> cases z2)
    all_goals
     go_wp2_with fail;go_quiet (fail);go_wp2_with fail
     first
     |go_roundw
      case rel=>exact⟨q++[y]++[x],post,by rw [HL.out];simp,by simp <;> omega,HX.out.drewN _⟩
      case measure=>simp [intOf];omega
     |go_ret
      exact⟨⟨_,rfl⟩,HX.out.drewN _⟩
  | nil=>rw [List.append_nil] at hl;subst hl;go_wp2_with fail;go_ret;exact⟨⟨_,rfl⟩,hx⟩
end
end Go.Proofs.YtdikcgmdmcfpfaaGreat
