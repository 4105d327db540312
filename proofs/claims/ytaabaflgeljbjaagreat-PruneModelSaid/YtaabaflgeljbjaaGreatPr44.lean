/- Laws. -/
import Derived.Test.YtaabaflgeljbjaaGreatPr39
import Derived.Test.YtaabaflgeljbjaaGreatPr43
set_option linter.unusedVariables false
set_option linter.unusedSimpArgs false
set_option maxRecDepth 100000
set_option maxHeartbeats 40000000
namespace Go.Proofs.YtaabaflgeljbjaaGreat
open List renaming getElem?_eq_getElem→Qc,mem_filter→Qf,getElem?_eq_some_iff→Qh,filter_map→Qi,length_set→Qj
open Nat renaming le_refl→Qd,le_trans→Qe,zero_le→Qg,le_max_left→Qk
open Option renaming some.inj→Qa,map_eq_some_iff→Qb
section
open Go.RowKit
def meetA (rs:List Rep):Nat->List Rep
 | 3=>zmi rs 1 2
 | 4=>zmi (zmi rs 1 2) 1 3
 | _=>rs
theorem RepsOk.meetA {E:List Ev}{rs:List Rep}(h:RepsOk E 4 rs)(m:Nat):RepsOk E 4 (meetA rs m):=by
 unfold Go.Proofs.YtaabaflgeljbjaaGreat.meetA
 split
 ·exact h.join 1 2
 ·exact(h.join 1 2).join 1 3
 exact h
def ygr (a:Rep):PrD:=(zac 0,ofM a.s.all (zac 0),zac 1,ofM a.s.all (zac 1))
def ygo (a:Rep):State:={ a.s with all:=setM a.s.all (zac 1) (ofM a.s.all (zac 1)+ofM a.s.all (zac 0)) }
def ygz (r0 a b c:Rep):Nat->List Rep
 | 3=>[r0,{ a with s:=ygo a },⟨zb9 b.s (ygo a),orL b.knew a.knew,b.asked⟩,c]
 | 4=>[r0,{ a with s:=ygo a },⟨zb9 b.s (ygo a),orL b.knew a.knew,b.asked⟩,⟨zb9 c.s (ygo a),orL c.knew a.knew,c.asked⟩]
 | _=>[r0,{ a with s:=ygo a },b,c]
structure Met (E:List Ev) (a b c:Rep):Prop where
 is:IsS E [] (ygo a)
 vec:VecOk (zf9 4) (ygo a)
 ok:PrOk (ygr a)
 turn:TurnS (ygr a) (ygo a)
 res:zee a.s (zac 1) (ofM a.s.all (zac 0))=(ygo a,0)
 ready:zc3 (ygo a).all (ygr a)=true
 leb:∀p,ofM b.s.all p<=ofM (ygo a).all p
 lec:∀p,ofM c.s.all p<=ofM (ygo a).all p
 jb:zb9 b.s (ygo a)=ygo a
 jc:zb9 c.s (ygo a)=ygo a
 kb:orL b.knew a.knew=a.knew
 kc:orL c.knew a.knew=a.knew
 knew:a.knew=E.map (zao (vecS (ygo a)))
theorem p01':zac 0≠zac 1:=by decide
theorem RepsOk.met {E:List Ev}{rs:List Rep}(x:RepsOk E 4 rs){r0 a b c:Rep}(n:Go.Proofs.YtaabaflgeljbjaaGreat.meetA rs 4 = [r0,a,b,c]):Met E a b c:=by
 have i:RepsOk E 4 [r0,a,b,c]:=n▸x.meetA 4;obtain⟨R,q1,o,q3,rfl⟩:=yax x.len
 have w:a=⟨zb9 (zb9 q1.s o.s) q3.s,orL (orL q1.knew o.knew) q3.knew,q1.asked⟩:=by
  have:=congrArg (fun l=>l[1]?) n
  simpa[Go.Proofs.YtaabaflgeljbjaaGreat.meetA,zmi]using this.symm
 have B:b=o:=by
  have:=congrArg (fun l=>l[2]?) n
  simpa[Go.Proofs.YtaabaflgeljbjaaGreat.meetA,zmi]using this.symm
 have C:c=q3:=by
  have:=congrArg (fun l=>l[3]?) n
  simpa[Go.Proofs.YtaabaflgeljbjaaGreat.meetA,zmi]using this.symm
 have y:∀p,ofM b.s.all p<=ofM a.s.all p:=fun p=>by
  rw[w,B]
  show _<=ofM (zb9 (zb9 q1.s o.s) q3.s).all p
  rw[zjk,zjk];omega
 have z:∀p,ofM c.s.all p<=ofM a.s.all p:=fun p=>by
  rw[w,C]
  show _<=ofM (zb9 (zb9 q1.s o.s) q3.s).all p
  rw[zjk];omega
 clear w B C n x;have h:=i.each 1 a rfl;have I:=i.each 2 b rfl;have J:=i.each 3 c rfl;have k:=i.hist;have v:=h.vec i.few k.most;have A:=i.own 1 a rfl;have P:=h.most (zac 1);have Q:=h.most (zac 0);have O:=k.most
 have j:∀t,ofM (ygo a).all t=if t=zac 1 then ofM a.s.all (zac 1)+ofM a.s.all (zac 0)else ofM a.s.all t:=fun t=>by
  show ofM (setM _ _ _) t=_
  rw[zho,zN (zfz 1)]
 have q:∀t,ofM a.s.all t<=ofM (ygo a).all t:=fun t=>by
  rw[j]
  split
  ·rename_i e;rw[e];omega
  exact Qd _
 have u:IsS E [] (ygo a):=h.is.up (zfz 1) (by omega) A
 have H:VecOk (zf9 4) (ygo a):=⟨fun p f=>by
  by_cases e:p=zac 1
  ·rw[e];exact zys (by decide)
  ·rw[j,zN e]at f;exact v.paths p f,v.few,fun p=>by
  rw[j]
  split
  ·omega
  exact v.most p⟩
 have L:∀e∈E,zao (vecS (ygo a)) e=zao (vecS a.s) e:=fun e d=>yau (p:=zac 1) (fun t N=>by show ofM (ygo a).all t=_;rw[j,zN N]) (q _) A d
 have K:∀e∈E,e.path=zac 1->e.num<=ofM a.s.all (zac 1):=fun e d f=>by
  have:=A e d f;unfold zao at this;simp only[decide_eq_true_eq,vecS]at this
  rwa[f]at this
 have F:ofM (ygo a).all (zac 0)=ofM a.s.all (zac 0):=by rw[j,zN p01']
 have M:ofM (ygo a).all (zac 1)=ofM a.s.all (zac 1)+ofM a.s.all (zac 0):=by rw[j,zP rfl]
 have same:∀ {r:Rep},yku E 4 r->(∀p,ofM r.s.all p<=ofM a.s.all p)->zb9 r.s (ygo a)=ygo a/\orL r.knew a.knew=a.knew:=fun {r} G D=>by
  refine⟨(G.is.join0 k.toHist u).uniq u fun p=>?_,?_⟩
  ·rw[zjk];have:=D p;have:=q p;omega
  rw[G.knew,h.knew];unfold orL;refine List.ext_getElem? fun m=>?_
  simp only[List.getElem?_zipWith,List.getElem?_map]
  cases E[m]? with
  | none=>rfl
  | some e=>have:=D e.path;simp only[Option.map_some,Option.some.injEq];unfold zao;rw[Bool.eq_iff_iff];simp only[Bool.or_eq_true,decide_eq_true_eq,vecS];omega
 refine⟨u,H,⟨zfz 0,zfz 1,p01',by show ofM a.s.all (zac 1)+ofM a.s.all (zac 0)<=_;omega⟩,u.turnS k H F (Nat.le_of_eq M.symm) fun e d _ f=>.inl (K e d f),?_,?_,fun p=>Qe (y p) (q p),fun p=>Qe (z p) (q p),(same I y).1,(same J z).1,(same I y).2,(same J z).2,?_⟩
 ·unfold zee;rw[zN (by rw[h.is.may k v (by simp) .nil];simp[zac]),zN (by omega)]
  rfl
 ·unfold zc3;rw[show ofM (ygo a).all (ygr a).1=(ygr a).2.1 from F,decide_eq_true rfl,decide_eq_true (show(ygr a).2.2.2+(ygr a).2.1<=ofM (ygo a).all (ygr a).2.2.1 by show ofM a.s.all (zac 1)+ofM a.s.all (zac 0)<=ofM (ygo a).all (zac 1);omega)]
  rfl
 rw[h.knew];exact List.map_congr_left fun e d=>(L e d).symm
theorem yky {rs:List Rep}(d:rs.length=4){r0 a b c:Rep}(e:meetA rs 4 = [r0,a,b,c]):rs[3]? = some c:=by
 obtain⟨f,q1,h,q3,rfl⟩:=yax d;have:=congrArg (fun l=>l[3]?) e
 simpa[meetA,zmi]using this
theorem TurnS.same {p:PrD}{s:State}(a:TurnS p s):∀x∈s.entries,∀y∈s.entries,x.key=y.key->TurnTwo p x y:=fun x b y c e=>by
 have:=zpz (mayS_iff.1 a.may).rise b c e;subst this;exact TurnTwo.refl (a.each x b).1
theorem TurnS.since {p:PrD}{s:State}(b:TurnS p s)(base:List Mark):TurnS p (zic s base) where
 may:=by have a:=mayS_iff.1 b.may;refine mayS_iff.2 ⟨a.all,fun e c=>a.each e (Qf.1 c).1,?_,a.pruned,a.risep⟩;have:=a.rise;unfold RiseS at this ⊢;rw[List.pairwise_map]at this ⊢;exact this.filter _
 each x hx:=b.each x (Qf.1 hx).1
 new:=b.new
 ready:=b.ready
theorem TurnS.ok {p:PrD}{s:State}(a:TurnS p s):∀x∈s.entries,TurnOk p x/\x.key≠[]:=fun x b=>⟨(a.each x b).1,(a.each x b).2.1⟩
theorem yjp {E:List Ev}(c:Hist E){p:PrD}(d:PrOk p){s:State}(a:IsS E [] s)(b:TurnS p s):zb9 s s=s/\zb9 (turnS p s) (turnS p s)=turnS p s:=by
 have h1:zb9 s s=s:=(a.join0 c a).uniq a fun t=>by rw[zjk];omega
 refine⟨h1,?_⟩;rw[yg8 d b.ok b.ok b.same a.pruned a.pruned,h1]
theorem ykz {E:List Ev}(f:Hist E){p:PrD}(d:PrOk p){s:State}(a:IsS E [] s)(b:TurnS p s){base:List Mark}(hb:∀t,ofM base t<=ofM s.all t) :
  zie (za0 base []) (zic s base) p=(zau (za0 base []) p.1,turnS p (zic s base),0)/\zhe (turnS p s) (zau (za0 base []) p.1) (turnS p (zic s base))=(turnS p s,0):=by
 have h:=b.since base;refine⟨?_,?_⟩
 ·unfold zie;rw[h.prune d]
  rfl
 have i:zb9 (turnS p s) (turnS p (zic s base))=turnS p s:=by
  rw[yg8 d b.ok h.ok (fun x j y k e=>b.same x j y (Qf.1 k).1 e) a.pruned a.pruned,zu8 f a a hb,(yjp f d a b).1]
 unfold zhe;rw[zP,i];refine(zqp (ze7 _ _)).2 fun m c _=>?_
 have h1:=(ze7 (za0 base []) p.1).1.of c ((ze7 (za0 base []) p.1).2 m c).1;have l:=((ze7 (za0 base []) p.1).2 m c).2;rw[zcs]at h1
 show m.2<=ofM (zau s.all p.1) m.1
 rw[zcs]
 by_cases e:m.1=p.1
 ·rw[zP e]at h1;omega
 rw[zN e,zfs,zff]at h1;rw[zN e];have:=hb m.1;omega
theorem yjw {l:List zag}{s b:Str}{n:Int}(h1:s≠[])(a:b≠s)(e:b≠[])(d:(addC l b n).2=0):addC (zbc l s) b n=(zbc (addC l b n).1 s,0):=by
 have o:zmd (zbc l s) b n=zmd l b n:=by
  obtain⟨u,v⟩:=zbk l h1 b;rw[zN a,zN e]at u v;unfold zmd;rw[ztf l h1]
  show(_&&(zdy (zbr (zbc l s) b) _&&zdy (zbf (zbc l s) b) _))=(_&&(zdy (zbr l b) _&&zdy (zbf l b) _))
  rw[u,v]
 unfold addC at d ⊢;rw[o]
 by_cases f:zmd l b n=true
 ·rw[zP f,zP f];refine Prod.ext ((zxk _ _ _).ext (zhh _ _) fun k=>?_) rfl;obtain⟨a1,a2⟩:=zrf (zbc l s) b n k;obtain⟨j,m⟩:=zbk (addL l b n) h1 k;obtain⟨c1,c2⟩:=zbk l h1 k;obtain⟨d1,h⟩:=zbk l h1 b;rw[zN a,zN e]at d1 h
  show zbr (addL (zbc l s) b n) k=zbr (zbc (addL l b n) s) k/\zbf (addL (zbc l s) b n) k=zbf (zbc (addL l b n) s) k
  rw[a1,a2,j,m,c1,c2,d1,h];simp only[(zrf l b n _).1,(zrf l b n _).2]
  by_cases c:k=s
  ·subst c;simp[Ne.symm a]
  by_cases i:k = []
  ·subst i;simp[c,Ne.symm e,Ne.symm a]
  simp[c,i]
 rw[zN f]at d;cases d
theorem others_turn {l:List Item}{p:PrD}{s:Str}{q:zan}:q∈zbd (zcr l p) s↔∃x∈zbd l s,zci p x=q:=by
 rw[others_mem,turnB_mem]
 constructor
 ·rintro⟨⟨x,hx,rfl⟩,h⟩;exact⟨x,others_mem.2 ⟨hx,by rwa[zoq]at h⟩,rfl⟩
 rintro⟨x,hx,rfl⟩;obtain⟨h1,a⟩:=others_mem.1 hx;exact⟨⟨x,h1,rfl⟩,by rwa[zoq]⟩
theorem yji (l:List Item)(p:PrD)(s:Str):(ze2 (zbd (zcr l p) s)).length=(ze2 (zbd l s)).length :=
 (zdl (zdm _) (zdm _) fun t=>by
  rw[mem_setL,mem_setL,List.mem_map,List.mem_map]
  constructor
  ·rintro⟨q,hq,rfl⟩;obtain⟨x,a,rfl⟩:=others_turn.1 hq;exact⟨x,a,(zoq p x).symm⟩
  rintro⟨x,a,rfl⟩;exact⟨zci p x,others_turn.2 ⟨x,a,rfl⟩,zoq p x⟩).length_eq
theorem yjj (l:List Item)(p:PrD)(s:Str):zf2 (zcr l p) s=zcr (zf2 l s) p:=by
 refine(zvn (zqk _ _)).ext (zk8 _ _) fun q=>?_
 show q∈zab (zf2 (zcr l p) s)↔_
 unfold zf2;rw[zr7,others_turn,turnB_mem];simp only[zr7]
theorem yjx {l:List Item}{p:PrD}{s:Str}{d:Dot}(c:d.1≠p.1)(a:(putB l s d).2=0):putB (zcr l p) s d=(zcr (putB l s d).1 p,0):=by
 unfold putB at a ⊢;rw[yji]
 by_cases h1:4096<s.length
 ·rw[zP h1]at a;cases a
 rw[zN h1]at a ⊢
 by_cases b:256<=(ze2 (zbd l s)).length
 ·rw[zP b]at a;cases a
 rw[zN b,zN h1,zN b];refine Prod.ext ((zvn (zkt (zqk _ _) _)).ext (zk8 _ _) fun q=>?_) rfl
 show q∈zab (za7 (addK (zbd (zcr l p) s) (s,d)))↔q∈zab (zcr (za7 (addK (zbd l s) (s,d))) p)
 rw[zr7,turnB_mem];simp only[zr7,zks,others_turn];have e:zci p (s,d)=(s,d):=by unfold zci;rw[zN c]
 constructor
 ·rintro(⟨x,hx,rfl⟩|rfl)
  ·exact⟨x,.inl hx,rfl⟩
  exact⟨_,.inr rfl,e⟩
 rintro⟨x,hx|rfl,rfl⟩
 ·exact .inl ⟨x,hx,rfl⟩
 exact .inr e
theorem yke {p:PrD}(l:PrOk p){x y:Entry}{kk:Nat}{o:OpD}{d:Dot}(f:d.1≠p.1)(h0:d.1≠[])(m:o.1<=4)(a:doE kk x o d=some (y,0)):doE kk (zaq p x) o d=some (zaq p y,0):=by
 unfold doE at a ⊢
 by_cases h:kk=1
 ·rw[zP h]at a ⊢
  by_cases b:o.1=1
  ·rw[zP b]at a ⊢;have c:(addC x.counts d.1 o.2.2.1).2=0:=congrArg Prod.snd (Qa a);have h1:{ x with counts:=(addC x.counts d.1 o.2.2.1).1 }=y:=congrArg Prod.fst (Qa a);have e:addC (zaq p x).counts d.1 o.2.2.1=(zbc (addC x.counts d.1 o.2.2.1).1 p.1,0):=yjw l.by_ f h0 c;rw[e,<- h1]
   rfl
  rw[zN b,zN (by omega)]at a;cases a
 rw[zN h]at a ⊢
 by_cases i:kk=2
 ·rw[zP i]at a ⊢
  by_cases b:o.1=2
  ·rw[zP b]at a ⊢;have c:(putB x.items o.2.2.2 d).2=0:=congrArg Prod.snd (Qa a);have h1:{ x with items:=(putB x.items o.2.2.2 d).1 }=y:=congrArg Prod.fst (Qa a);have e:putB (zaq p x).items o.2.2.2 d=(zcr (putB x.items o.2.2.2 d).1 p,0):=yjx f c;rw[e,<- h1]
   rfl
  rw[zN b]at a ⊢
  by_cases k:o.1=3
  ·rw[zP k]at a ⊢;have h1:{ x with items:=zf2 x.items o.2.2.2 }=y:=congrArg Prod.fst (Qa a);have e:zf2 (zaq p x).items o.2.2.2=zcr (zf2 x.items o.2.2.2) p:=yjj _ _ _;rw[e,<- h1]
   rfl
  rw[zN k,zN (by omega)]at a;cases a
 rw[zN i]at a ⊢
 by_cases j:kk=3
 ·rw[zP j]at a ⊢
  by_cases b:o.1=4
  ·rw[zP b]at a ⊢;have c:(za5 x.cell o.2.2.2 false).2=0:=congrArg Prod.snd (Qa a);have h1:{ x with cell:=(za5 x.cell o.2.2.2 false).1 }=y:=congrArg Prod.fst (Qa a)
   show some ({ zaq p x with cell:=(za5 x.cell o.2.2.2 false).1 },(za5 x.cell o.2.2.2 false).2)=_
   rw[c,<- h1]
   rfl
  rw[zN b,zN (by omega)]at a;cases a
 rw[zN j]at a;cases a
theorem yis {p:PrD}(e:PrOk p){y:Entry}{d:Dot}(c:d.1≠p.1)(h0:d.1≠[])(h:d.1=p.2.2.1->p.2.2.2+p.2.1<d.2):zaq p { y with seen:=setM y.seen d.1 d.2 } = { zaq p y with seen:=setM (zaq p y).seen d.1 d.2 }:=by
 refine yib rfl ?_ rfl rfl rfl;refine(zez (x:={ y with seen:=setM y.seen d.1 d.2 }) (zft _ _ _)).ext (zft _ _ _) fun t=>?_
 rw[zc4 e]
 show _=ofM (setM (zaq p y).seen d.1 d.2) t
 rw[zho,zN h0,zc4 e];unfold topP;simp only[zho,zN h0,zN (Ne.symm c)]
 by_cases a:t=p.1
 ·subst a;rw[zP rfl,zN (Ne.symm c),zP rfl]
 rw[zN a,zN a]
 by_cases b:t=d.1
 ·subst b;rw[zP rfl,zP rfl]
  split
  ·rename_i f;have:=h f.1;omega
  rfl
 simp only[zN b]
theorem yjy {p:PrD}(i:PrOk p){x:Entry}{o:OpD}{d:Dot}(k:d.1≠p.1)(m:d.1=p.2.2.1->p.2.2.2+p.2.1<d.2)(t:o.1<=4)(f:(updE x o d).2=0):updE (zaq p x) o d=(zaq p (updE x o d).1,0):=by
 unfold updE at f ⊢
 by_cases c1:keyS o.2.1=false
 ·rw[zP c1]at f;cases f
 rw[zN c1]at f ⊢
 by_cases c2:x.key≠o.2.1/\zbl x zak=false
 ·rw[zP c2]at f;cases f
 rw[zN c2]at f
 by_cases h:d.1 = [] ∨ d.2<1 ∨ 281474976710656<d.2 ∨ hasM x.seen d=true
 ·rw[zP h]at f;cases f
 rw[zN h]at f;have h0:d.1≠[]:=fun e=>h (.inl e)
 have n:¬((zaq p x).key≠o.2.1/\zbl (zaq p x) zak=false):=by
  rintro⟨a,b⟩;refine c2 ⟨a,?_⟩
  cases u:zbl x zak with
  | false=>rfl
  | true=>rw[sameE_iff.1 u,yg7 i.by_,sameE_iff.2 rfl]at b;cases b
 have q:¬(d.1 = [] ∨ d.2<1 ∨ 281474976710656<d.2 ∨ hasM (zaq p x).seen d=true):=by
  rintro(e|e|e|e)
  ·exact h (.inl e)
  ·exact h (.inr (.inl e))
  ·exact h (.inr (.inr (.inl e)))
  refine h (.inr (.inr (.inr ?_)));unfold hasM at e ⊢;simp only[Bool.and_eq_true,decide_eq_true_eq]at e ⊢;rw[zc4 i]at e;unfold topP at e;rw[zN k]at e
  by_cases g:d.1=p.2.2.1/\0<ofM x.seen p.1
  ·rw[zP g]at e;have:=m g.1;omega
  rw[zN g]at e;exact e
 rw[zN c1,zN n,zN q,zN c2,zN h];unfold zfb at f ⊢
 cases l:doE (zas o.2.1) { x with key:=o.2.1 } o d
 case none=>rw[l]at f;cases f
 rename_i r
 rw[l]at f;obtain⟨y,c⟩:=r;simp only at f
 by_cases j:c=0
 ·subst j;have e:=yke i (x:={ x with key:=o.2.1 }) k h0 t l;have s:doE (zas o.2.1) { zaq p x with key:=o.2.1 } o d=some (zaq p y,0):=e;rw[s];simp only[if_true];rw[yis i k h0 m]
 rw[zN j]at f;exact absurd f j
theorem yit (p:PrD)(l:List Entry)(k:Str)(e:Entry):zcg (l.map (zaq p)) k (zaq p e)=(zcg l k e).map (zaq p):=by
 unfold zcg;rw[List.map_append,List.map_cons,Qi,Qi]
 rfl
theorem yjz {p:PrD}(h:PrOk p){s:State}(v:TurnS p s){b:Str}{o:OpD}(hb:b≠p.1)(u:b=p.2.2.1->p.2.2.2+p.2.1<=ofM s.all b)(r:o.1<=4)(a:(updS s b o).2=0):updS (turnS p s) b o=(turnS p (updS s b o).1,0):=by
 have q:=v.may_turn h
 have m:ofM (turnS p s).all b=ofM s.all b:=by
  show ofM (zau s.all p.1) b=_
  rw[zcs,zN hb]
 unfold updS at a ⊢
 by_cases c1:b = [] ∨ mayS s=false
 ·rw[zP c1]at a;cases a
 rw[zN c1]at a
 have i:¬(b = [] ∨ mayS (turnS p s)=false):=by
  rintro(e|e)
  ·exact c1 (.inl e)
  rw[q]at e;cases e
 rw[zN i,zN c1,m]
 by_cases c2:281474976710656<=ofM s.all b
 ·rw[zP c2]at a;cases a
 rw[zN c2]at a ⊢;rw[zN c2]
 by_cases f:za4 s.entries o.2.1=none/\256<=s.entries.length
 ·rw[zP f]at a;cases a
 rw[zN f]at a
 have j:¬(za4 (turnS p s).entries o.2.1=none/\256<=(turnS p s).entries.length):=by
  rintro⟨c,e2⟩;refine f ⟨?_,by simpa[turnS]using e2⟩;have k:(za4 s.entries o.2.1).map (zaq p)=none:=by rw[<- yhh];exact c
  simpa using k
 rw[zN j,zN f]
 by_cases c4:(updE ((za4 s.entries o.2.1).getD zak) o (b,ofM s.all b+1)).2=0
 ·have n:(za4 (turnS p s).entries o.2.1).getD zak=zaq p ((za4 s.entries o.2.1).getD zak):=yho h.by_ s.entries o.2.1;have w:=yjy h (d:=(b,ofM s.all b+1)) hb (fun e=>Nat.lt_succ_of_le (u e)) r c4;rw[n,w,zP rfl,zP c4];refine Prod.ext ?_ rfl
  have l:setM (turnS p s).all b (ofM s.all b+1)=zau (setM s.all b (ofM s.all b+1)) p.1:=(zft _ _ _).ext (ze7 _ _) fun t=>by
   show ofM (setM (zau s.all p.1) b _) t=_
   rw[zho,zcs,zcs,zho]
   by_cases c:t=b
   ·subst c;rw[zP rfl,zN hb,zP rfl]
   rw[zN c,zN c]
  show(⟨setM (turnS p s).all b _,zcg (s.entries.map (zaq p)) o.2.1 (zaq p _),insP s.pruned p.1⟩:State)=turnS p ⟨_,_,_⟩
  rw[l,yit]
  rfl
 rw[zN c4]at a;exact absurd a c4
theorem yhy {p:PrD}{s:State}{base a:List Mark}(b:∀x∈s.entries,zbm base (zaq p x).seen=zbm a x.seen):zic (turnS p s) base=turnS p (zic s a):=by
 unfold zic turnS;simp only;rw[Qi]
 congr 2
 refine List.filter_congr fun x c=>?_
 show(!zbm base (zaq p x).seen) = !zbm a x.seen
 rw[b x c]
theorem yi7 {p:PrD}(b:PrOk p){x:Entry}(c:TurnOk p x){base:List Mark}(hb:p.2.2.2+p.2.1<=ofM base p.2.2.1):zbm base (zaq p x).seen=zbm (setM base p.1 p.2.1) x.seen:=by
 rw[Bool.eq_iff_iff,coversM_iff,coversM_iff];have d:=c.of;refine forall_congr' fun t=>?_
 rw[zc4 b,zho,zN b.by_];unfold topP
 by_cases a:t=p.1
 ·subst a;simp only[if_true];omega
 rw[zN a,zN a]
 split
 ·rename_i g;rw[g.1];omega
 exact Iff.rfl
theorem yiu {p:PrD}(c:PrOk p){x:Entry}(f:TurnOk p x):zbm [] (zaq p x).seen=zbm [] x.seen:=by
 rw[Bool.eq_iff_iff,coversM_iff,coversM_iff];have h:=f.of;simp only[zff]
 constructor
 ·intro g t;have a:=g t;have b:=g p.2.2.1;rw[zc4 c]at a b;unfold topP at a b;rw[zN (Ne.symm c.ne)]at b
  by_cases d:t=p.1
  ·subst d
   by_cases e:0<ofM x.seen p.1
   ·rw[zP ⟨rfl,e⟩]at b;omega
   omega
  rw[zN d]at a
  split at a<;>omega
 intro g t;rw[zc4 c];unfold topP
 split
 ·exact Qd _
 split
 ·rename_i k;have:=g p.1;omega
 exact g t
def ygv (p:PrD)(b:Bool)(s:State):State:=if b then turnS p s else s
theorem yiv {V V2:Vec}{e:Ev}(h:V e.path=V2 e.path):zao V e=zao V2 e:=by unfold zao;rw[h]
theorem IsE.turnTwo {E:List Ev}(d:Hist E){V V2:Vec}{k:Str}{x y:Entry}(f:IsE E V k x)(h:IsE E V2 k y){p:PrD}(h1:V p.1=V2 p.1)(l:p.2.2.2<=V p.2.2.1)(m:p.2.2.2<=V2 p.2.2.1):TurnTwo p x y where
 plus:=by
  refine⟨?_,?_⟩
  ·rw[f.plus,h.plus];refine zeu fun e _=>?_
   unfold upK
   by_cases b:e.path=p.1
   ·rw[yiv (V:=V) (V2:=V2) (by rw[b];exact h1)]
   rw[zN fun a=>b a.2.2.2,zN fun a=>b a.2.2.2]
  rw[f.plus,h.plus];refine zeu fun e j=>?_
  unfold upK;rw[zN fun a=>d.path e j a.2.2.2,zN fun a=>d.path e j a.2.2.2]
 minus:=by
  refine⟨?_,?_⟩
  ·rw[f.minus,h.minus];refine zeu fun e _=>?_
   unfold zb1
   by_cases b:e.path=p.1
   ·rw[yiv (V:=V) (V2:=V2) (by rw[b];exact h1)]
   rw[zN fun a=>b a.2.2.2,zN fun a=>b a.2.2.2]
  rw[f.minus,h.minus];refine zeu fun e j=>?_
  unfold zb1;rw[zN fun a=>d.path e j a.2.2.2,zN fun a=>d.path e j a.2.2.2]
 hasy q hq hc:=by
  obtain⟨i,e,a1,a2,a3,-,rfl,-⟩:=(f.items q).1 hq;refine(h.hasM d a1 a3).2 ?_;unfold zao at a2 ⊢;simp only[decide_eq_true_eq]at a2 ⊢;rcases hc with c|⟨c1,c2⟩
  ·simp only at c;rw[c]at a2 ⊢;omega
  simp only at c1 c2;rw[c1];omega
 hasx q hq hc:=by
  obtain⟨i,e,a1,a2,a3,-,rfl,-⟩:=(h.items q).1 hq;refine(f.hasM d a1 a3).2 ?_;unfold zao at a2 ⊢;simp only[decide_eq_true_eq]at a2 ⊢;rcases hc with c|⟨c1,c2⟩
  ·simp only at c;rw[c]at a2 ⊢;omega
  simp only at c1 c2;rw[c1];omega
structure StayS (E:List Ev) (p:PrD) (g:State):Prop where
 is:IsS E [] g
 turn:TurnS p g
 has:ofM g.all p.1=p.2.1
 top:p.2.2.2+p.2.1<=ofM g.all p.2.2.1
theorem StayS.two {E:List Ev}(d:Hist E){p:PrD}{a b:State}(ha:StayS E p a)(hb:StayS E p b):∀x∈a.entries,∀y∈b.entries,x.key=y.key->TurnTwo p x y:=fun x f y h e=>by
 have h1:=(ha.is.each x f).1;have c:=(hb.is.each y h).1;rw[<- e]at c;have:=ha.top;have:=hb.top;exact h1.turnTwo d c (ha.has.trans hb.has.symm) (show _<=ofM a.all _ by omega) (show _<=ofM b.all _ by omega)
theorem ygy {E:List Ev}(c:Hist E){p:PrD}(d:PrOk p){a b:State}(ha:StayS E p a)(hb:StayS E p b)(f:Bool):zb9 (ygv p f a) (ygv p f b)=ygv p f (zb9 a b):=by
 cases f with
 | false=>rfl
 | true=>exact yg8 d ha.turn.ok hb.turn.ok (ha.two c hb) ha.is.pruned hb.is.pruned
theorem yiw {E:List Ev}(h:Hist E){p:PrD}(c:PrOk p){a b:State}(ha:StayS E p a)(hb:StayS E p b)(f:Bool){q:List Mark}(j:∀t,ofM q t<=ofM a.all t)(k:q = [] ∨ p.2.2.2+p.2.1<=ofM q p.2.2.1) :
  zhe (ygv p f a) (za0 q []) (zic (ygv p f b) q)=(zb9 (ygv p f a) (ygv p f b),0):=by
 rw[ygy h c ha hb]
 cases f
 case false=>exact zta h ha.is hb.is j
 show zhe (turnS p a) (za0 q []) (zic (turnS p b) q)=(turnS p (zb9 a b),0)
 have v:∃base,(∀t,ofM base t<=ofM a.all t)/\zic (turnS p b) q=turnS p (zic b base):=by
  rcases k with rfl|k
  ·exact⟨[],fun t=>by rw[zff];exact Qg _,yhy fun x d=>yiu c (hb.turn.each x d).1⟩
  refine⟨setM q p.1 p.2.1,fun t=>?_,yhy fun x d=>yi7 c (hb.turn.each x d).1 k⟩;rw[zho,zN c.by_]
  split
  ·rename_i e;rw[e,ha.has];exact Qd _
  exact j t
 obtain⟨base,n,o⟩:=v;have r:=hb.turn.since base
 have s:zb9 (turnS p a) (turnS p (zic b base))=turnS p (zb9 a b):=by rw[yg8 c ha.turn.ok r.ok (fun x d y w e=>ha.two h hb x d y (Qf.1 w).1 e) ha.is.pruned hb.is.pruned,zu8 h ha.is hb.is n]
 unfold zhe;rw[o,zP,s];refine(zqp (zcp _ _)).2 fun m l u=>?_
 have h1:=(zcp q []).1.of l ((zcp q []).2 m l).1;rw[zfs,zff]at h1
 show m.2<=ofM (zau a.all p.1) m.1
 rw[zcs]
 by_cases e:m.1=p.1
 ·exfalso
  have i:zdb ((turnS p a).pruned++(turnS p (zic b base)).pruned) m=true:=u;unfold zdb at i;simp only[Bool.not_eq_true',decide_eq_false_iff_not,mem_setL]at i;exact i (List.mem_append_left _ (by show m.1∈insP a.pruned p.1;rw[ha.is.pruned,e];simp[insP]))
 rw[zN e];have:=j m.1;omega
structure StayR (p:PrD) (g r:Rep) (f:Bool):Prop where
 s:r.s=ygv p f g.s
 has:ofM g.s.all p.1=p.2.1
 top:p.2.2.2+p.2.1<=ofM g.s.all p.2.2.1
 askG:GoodM r.asked
 ask:∀t,ofM r.asked t<=ofM g.s.all t
 asked:r.asked = [] ∨ p.2.2.2+p.2.1<=ofM r.asked p.2.2.1
structure Stay (E:List Ev) (p:PrD) (gs rs:List Rep) (fl:Nat->Bool):Prop where
 ok:PrOk p
 by_:p.1=zac 0
 own:p.2.2.1=zac 1
 reps:RepsOkB 400 E 4 gs
 len:rs.length=4
 knew:∀(i:Nat) (g r:Rep),gs[i]? = some g->rs[i]? = some r->r.knew=g.knew
 each:∀(i:Nat) (g r:Rep),1<=i->gs[i]? = some g->rs[i]? = some r->StayR p g r (fl i)
 free:∀e∈E,e.path=p.2.2.1->e.num<=p.2.2.2 ∨ p.2.2.2+p.2.1<e.num
section
variable {E:List Ev} {p:PrD} {gs rs:List Rep} {fl:Nat->Bool} {g:State}
theorem Stay.get (a:Stay E p gs rs fl){i:Nat}{r:Rep}(h1:1<=i)(f:rs[i]? = some r):∃g,gs[i]? = some g/\StayR p g r (fl i)/\StayS E p g.s/\RepOkB 400 E 4 g/\r.knew=g.knew:=by
 have hi:i<gs.length:=by rw[a.reps.len,<- a.len];exact(Qh.1 f).1
 have b:=Qc hi;generalize gs[i]=g at b;have d:=a.reps.each i g b;have c:=a.each i g r h1 b f;have h:=a.reps.hist;exact⟨g,b,c,⟨d.is,d.is.turnS h (d.vec a.reps.few h.most) c.has c.top fun e j _ k=>a.free e j k,c.has,c.top⟩,d,a.knew i g r b f⟩
theorem StayS.all_ne (b:StayS E p g){t:Str}(a:t≠p.1)(f:Bool):ofM (ygv p f g).all t=ofM g.all t:=by
 cases f
 case false=>rfl
 show ofM (zau g.all p.1) t=_
 rw[zcs,zN a]
theorem StayS.all_le (f:Bool)(g:State)(t:Str):ofM (ygv p f g).all t<=ofM g.all t:=by
 cases f
 case false=>exact Qd _
 show ofM (zau g.all p.1) t<=_
 rw[zcs]
 split
 ·exact Qg _
 exact Qd _
theorem StayS.all_good (h:StayS E p g)(f:Bool):GoodM (ygv p f g).all:=by
 cases f with
 | false=>exact h.is.all
 | true=>exact ze7 _ _
theorem Stay.lim (a:Stay E p gs rs fl){i:Nat}{r:Rep}(h1:1<=i)(f:rs[i]? = some r):LimS 402 r.s:=by
 obtain⟨g,k,j,h,e,-⟩:=a.get h1 f;have b:=a.reps.hist;have d:=e.is.lim b (e.vec a.reps.few b.most);rw[j.s]
 cases fl i with
 | false=>exact LimS.mono d (by decide)
 | true=>have c:=zlb p d;rw[h.turn.prune a.ok]at c;exact LimS.mono c (by decide)
theorem Stay.may (a:Stay E p gs rs fl){i:Nat}{r:Rep}(h1:1<=i)(c:rs[i]? = some r):mayS r.s=true:=by
 obtain⟨g,e,d,b,f,-⟩:=a.get h1 c;rw[d.s]
 cases fl i with
 | false=>exact b.turn.may
 | true=>exact b.turn.may_turn a.ok
theorem Stay.pruned (b:Stay E p gs rs fl){i:Nat}{r:Rep}(h1:1<=i)(c:rs[i]? = some r):r.s.pruned=if fl i then[p.1]else[]:=by
 obtain⟨g,e,d,a,f,-⟩:=b.get h1 c;rw[d.s]
 cases fl i
 case false=>exact a.is.pruned
 show insP g.s.pruned p.1 = [p.1]
 rw[a.is.pruned]
 rfl
theorem Stay.prune (a:Stay E p gs rs fl){k:Nat}{r:Rep}(h1:1<=k)(m:rs[k]? = some r):∃l,zbh r.s p=(l,0)/\l.all=zau r.s.all p.1/\Stay E p gs (rs.set k { r with s:=l }) (fun i=>if i=k then true else fl i):=by
 obtain⟨g,n,c,h,u,q⟩:=a.get h1 m;refine⟨turnS p g.s,?_,?_,?_⟩
 ·rw[c.s]
  cases fl k with
  | false=>exact h.turn.prune a.ok
  | true=>exact h.turn.again a.ok
 ·refine(ze7 _ _).ext (ze7 _ _) fun t=>?_
  rw[zcs,zcs]
  split
  ·rfl
  rename_i e;rw[c.s,h.all_ne e]
 refine⟨a.ok,a.by_,a.own,a.reps,by rw[Qj];exact a.len,fun i f j d b=>?_,fun i f j hi d b=>?_,a.free⟩
 ·rcases zcv b with⟨rfl,rfl,-⟩|⟨-,b⟩
  ·exact a.knew i f r d m
  exact a.knew i f j d b
 rcases zcv b with⟨rfl,rfl,-⟩|⟨o,b⟩
 ·rw[n]at d;obtain rfl:=Qa d;simp only[if_true];exact⟨rfl,c.has,c.top,c.askG,c.ask,c.asked⟩
 simp only[zN o];exact a.each i f j hi d b
theorem Stay.asks (a:Stay E p gs rs fl){k:Nat}(h1:1<=k):Stay E p gs (askR rs k) fl:=by
 unfold askR
 cases h:rs[k]?
 case none=>exact a
 rename_i r
 obtain⟨g,l,c,j,o,m⟩:=a.get h1 h;refine⟨a.ok,a.by_,a.own,a.reps,by rw[Qj];exact a.len,fun i e f d b=>?_,fun i e f hi d b=>?_,a.free⟩
 ·rcases zcv b with⟨rfl,rfl,-⟩|⟨-,b⟩
  ·exact a.knew i e r d h
  exact a.knew i e f d b
 rcases zcv b with⟨rfl,rfl,-⟩|⟨n,b⟩
 ·rw[l]at d;obtain rfl:=Qa d;refine⟨c.s,c.has,c.top,?_,?_,.inr ?_⟩
  ·show GoodM r.s.all
   rw[c.s];exact j.all_good _
  ·intro t
   show ofM r.s.all t<=_
   rw[c.s];exact StayS.all_le _ _ _
  show _<=ofM r.s.all _
  rw[c.s,j.all_ne (Ne.symm a.ok.ne)];exact c.top
 exact a.each i e f hi d b
theorem Stay.askd (h:Stay E p gs rs fl){d:Deed}(h1:1<=d.n % 4):Stay E p gs (askI rs d) fl:=by
 unfold Go.Proofs.YtaabaflgeljbjaaGreat.askI;rw[h.len]
 split
 ·exact h.asks h1
 exact h
theorem Stay.join (a:Stay E p gs rs fl){k o:Nat}(h1:1<=k)(x:1<=o)(hk:k<4)(A:o<4)(y:fl k=fl o):Stay E p (zmi gs k o) (zmi rs k o) fl:=by
 obtain⟨C,h⟩:∃r,rs[k]? = some r:=⟨_,Qc (by rw[a.len];exact hk)⟩
 obtain⟨D,m⟩:∃r,rs[o]? = some r:=⟨_,Qc (by rw[a.len];exact A)⟩
 obtain⟨gk,q,v,F,ok,kk⟩:=a.get h1 h;obtain⟨l,u,w,G,H,B⟩:=a.get x m
 have z:(zmi rs k o).length=4:=by unfold zmi;rw[h,m];simp only[Qj];exact a.len
 refine⟨a.ok,a.by_,a.own,a.reps.join k o,z,fun i g r b d=>?_,fun i g r hi b d=>?_,a.free⟩
 ·rw[yha q u,Qb]at b;rw[yha h m,Qb]at d;obtain⟨n,c,rfl⟩:=b;obtain⟨r0,f,rfl⟩:=d;have:=a.knew i n r0 c f
  by_cases e:i=k
  ·simp only[zP e,this,B]
  simp only[zN e,this]
 rw[yha q u,Qb]at b;rw[yha h m,Qb]at d;obtain⟨n,c,rfl⟩:=b;obtain⟨r0,f,rfl⟩:=d;have j:=a.each i n r0 hi c f
 by_cases e:i=k
 ·subst e;rw[q]at c;rw[h]at f;obtain rfl:=Qa c;obtain rfl:=Qa f;simp only[if_true];refine⟨?_,?_,?_,j.askG,fun t=>?_,j.asked⟩
  ·show zb9 C.s D.s=ygv p (fl i) (zb9 gk.s l.s)
   rw[v.s,w.s,<- y,ygy a.reps.hist.toHist a.ok F G]
  ·show ofM (zb9 gk.s l.s).all p.1=_
   rw[zjk,v.has,w.has,Nat.max_self]
  ·show _<=ofM (zb9 gk.s l.s).all _
   rw[zjk];exact Qe j.top (Qk _ _)
  show _<=ofM (zb9 gk.s l.s).all t
  rw[zjk];exact Qe (j.ask t) (Qk _ _)
 simp only[zN e];exact j
theorem Stay.upd (a:Stay E p gs rs fl){k:Nat}(h1:1<=k)(hk:k<4)(y:E.length<200){key tx:Str}{o:Nat}{m:Int}(z:OpOk key o m tx){gk u:Rep}(f:gs[k]? = some gk)(h:rs[k]? = some u) :
  (updS u.s (zac k) (o,key,m,tx)).2=0/\u.knew=E.map (zao (vecS gk.s))/\Stay (updV E (vecS gk.s) rs k key o m tx).1 p (updR E gs k key o m tx).2 (updV E (vecS gk.s) rs k key o m tx).2 fl:=by
 obtain⟨g,c,I,L,ok,kk⟩:=a.get h1 h;rw[f]at c;obtain rfl:=Qa c;have A:=a.reps.hist;have F:=a.reps.upd (k:=k) hk y z;obtain⟨H,N,M⟩:=ok.is.upd A (ok.vec a.reps.few A.most) (by intro p v;cases v) .nil z (zfz k) (a.reps.own k gk f) (by have:=ok.most (zac k);omega)
 have hb:zac k≠p.1:=by rw[a.by_];intro e;have:=zp4 (by omega) (by decide) e;omega
 have C:zac k=p.2.2.1->p.2.2.2+p.2.1<=ofM gk.s.all (zac k):=fun e=>by rw[e];exact I.top
 have K:o<=4:=by rcases z.kind with⟨-,rfl⟩|⟨-,rfl|rfl⟩|⟨-,rfl⟩<;>decide
 have D:updS u.s (zac k) (o,key,m,tx)=(ygv p (fl k) (updS gk.s (zac k) (o,key,m,tx)).1,0):=by
  rw[I.s]
  cases fl k with
  | false=>exact Prod.ext rfl H
  | true=>exact yjz a.ok L.turn hb C K H
 have G:∀t,ofM (updS gk.s (zac k) (o,key,m,tx)).1.all t=zcy (vecS gk.s) (zac k) t:=fun t=>congrFun M t
 have B:∀t,ofM gk.s.all t<=ofM (updS gk.s (zac k) (o,key,m,tx)).1.all t:=fun t=>by
  rw[G];unfold zcy
  split
  ·rename_i e;rw[e];exact Nat.le_succ _
  exact Qd _
 rw[yi8 f]at F ⊢
 have x:∀ {l:List Rep} {r:Rep},l[k]? = some r->(updV E (vecS gk.s) l k key o m tx).1=E++[newE E (vecS gk.s) key m o tx (zac k)]:=fun {l r} y=>by unfold updV;rw[y]
 refine⟨by rw[D],kk.trans ok.knew,a.ok,a.by_,a.own,?_,?_,fun i g r c n=>?_,fun i g r hi c n=>?_,fun e d v=>?_⟩
 ·rw[x h,<- x f];exact F.2
 ·unfold updV;rw[h];simp only[List.length_mapIdx];exact a.len
 ·rw[yhg f,Qb]at c;rw[yhg h,Qb]at n;obtain⟨w,j,rfl⟩:=c;obtain⟨r0,q,rfl⟩:=n;have:=a.knew i w r0 j q
  by_cases e:i=k
  ·simp only[zP e,this]
  simp only[zN e,this]
 ·rw[yhg f,Qb]at c;rw[yhg h,Qb]at n;obtain⟨w,j,rfl⟩:=c;obtain⟨r0,q,rfl⟩:=n;have b:=a.each i w r0 hi j q
  by_cases e:i=k
  ·subst e;rw[f]at j;rw[h]at q;obtain rfl:=Qa j;obtain rfl:=Qa q;simp only[if_true];refine⟨?_,?_,?_,b.askG,fun t=>?_,b.asked⟩
   ·show(updS u.s _ _).1=_
    rw[D]
   ·show ofM (updS gk.s _ _).1.all p.1=_
    rw[G];unfold zcy;rw[zN (Ne.symm hb)];exact b.has
   ·exact Qe b.top (B _)
   exact Qe (b.ask t) (B t)
  simp only[zN e];exact⟨b.s,b.has,b.top,b.askG,b.ask,b.asked⟩
 rw[x h]at d;rcases List.mem_append.1 d with d|d
 ·exact a.free e d v
 simp only[List.mem_singleton]at d;subst d;refine .inr ?_
 show _<vecS gk.s (zac k)+1
 have J:zac k=p.2.2.1:=v;have:=C J
 show _<ofM gk.s.all (zac k)+1
 omega
theorem Stay.does (e:Stay E p gs rs fl)(t:E.length<200){d:Deed}(w:DeedOk d)(hk:1<=d.n % 4)(l:1<=d.other % 4)(o:3<=d.do_ % 5->fl (d.n % 4)=fl (d.other % 4)) :
  ∃V v,DoesOk E 4 (askI rs d) V d/\Stay (yg3 E V rs d).1 p v (yg3 E V rs d).2 fl:=by
 have b:=e.askd (d:=d) hk;have k:d.n % 4<4:=Nat.mod_lt _ (by decide);have y:d.other % 4<4:=Nat.mod_lt _ (by decide);obtain⟨J,f⟩:∃r,(askI rs d)[d.n % 4]? = some r:=⟨_,Qc (by rw[b.len];exact k)⟩
 obtain⟨gk,x,j,A,ok,kk⟩:=b.get hk f
 have kn:∀(i:Nat) (r:Rep),(askI rs d)[i]? = some r->r.knew.length=E.length:=fun i r a=>by
  have hi:i<gs.length:=by rw[e.reps.len,<- b.len];exact(Qh.1 a).1
  have h:=Qc hi;rw[b.knew i _ r h a,(e.reps.each i _ h).knew,List.length_map]
 have lim:∀r:Rep,(askI rs d)[d.n % 4]? = some r ∨ (askI rs d)[d.other % 4]? = some r->LimS 402 r.s:=fun r a=>by
  rcases a with a|a
  ·exact b.lim hk a
  exact b.lim l a
 have m:=b.upd hk k t (zry w) x f
 have few:∀ {r g:Rep},StayR p g r (fl (d.n % 4))->RepOkB 400 E 4 g->r.asked.length<=402:=fun {r g} u h=>by
  have F:=zd3 u.askG (ps:=zf9 4) fun s H=>h.paths s (by have:=u.ask s;omega)
  have c:(zf9 4).length=4:=by simp[zf9]
  omega
 refine⟨vecS gk.s,if 3<=d.do_ % 5 then zmi gs (d.n % 4) (d.other % 4)else(updR E gs (d.n % 4) (keyD d) (opD d) d.by_ (txD d)).2,⟨b.len,by decide,t,kn,lim,fun _ r a=>?_,fun c r q a z=>⟨?_,?_⟩⟩,?_⟩
 ·rw[f]at a;obtain rfl:=Qa a;exact⟨m.1,m.2.1⟩
 ·rw[f]at a;obtain rfl:=Qa a;exact few j ok
 ·rw[f]at a;obtain rfl:=Qa a;obtain⟨D,G,C,B,I,-⟩:=b.get l z;have:=yiw e.reps.hist.toHist e.ok A B (fl (d.n % 4)) j.ask j.asked;rw[C.s,j.s,<- o c];exact this
 unfold yg3;rw[e.len]
 by_cases c:3<=d.do_ % 5
 ·rw[zP c,zP c];exact b.join hk l k y (o c)
 rw[zN c,zN c];exact m.2.2
end
section
variable {E:List Ev} {p:PrD} {gs rs:List Rep} {fl:Nat->Bool}
theorem RepsOk.stay {F:List Rep}(A:RepsOk E 4 F){r0 a b c:Rep}(D:Go.Proofs.YtaabaflgeljbjaaGreat.meetA F 4 = [r0,a,b,c]) :
  ∃gs,Stay E (ygr a) gs [⟨r0.s,r0.knew,[]⟩,⟨ygo a,a.knew,[]⟩,⟨ygo a,a.knew,[]⟩,⟨ygo a,a.knew,[]⟩] (fun _=>false):=by
 have h:=A.met D;have f:RepsOk E 4 [r0,a,b,c]:=D▸A.meetA 4;have z:=f.hist;have m:=f.each 0 r0 rfl;have v:=f.each 1 a rfl
 have u:∀t,ofM (ygo a).all t=if t=zac 1 then ofM a.s.all (zac 1)+ofM a.s.all (zac 0)else ofM a.s.all t:=fun t=>by
  show ofM (setM _ _ _) t=_
  rw[zho,zN (zfz 1)]
 have H:∀t,ofM a.s.all t<=ofM (ygo a).all t:=fun t=>by
  rw[u]
  split
  ·rename_i e;rw[e];omega
  exact Qd _
 have B:ofM (ygo a).all (zac 0)=ofM a.s.all (zac 0):=by rw[u,zN p01']
 have G:ofM (ygo a).all (zac 1)=ofM a.s.all (zac 1)+ofM a.s.all (zac 0):=by rw[u,zP rfl]
 have J:=f.own 1 a rfl;have M:=v.most (zac 0);have N:=v.most (zac 1);have L:=z.most
 have kn:∀ {V w:Vec} {e:Ev},zao V e=true->V e.path<=w e.path->zao w e=true:=fun {V w e} h1 K=>by unfold zao at h1 ⊢;simp only[decide_eq_true_eq]at h1 ⊢;omega
 have cs:∀(k:Nat) (r:Rep),[⟨r0.s,r0.knew,[]⟩,⟨ygo a,a.knew,[]⟩,⟨ygo a,a.knew,[]⟩,(⟨ygo a,a.knew,[]⟩:Rep)][k]? = some r->(k=0/\r=⟨r0.s,r0.knew,[]⟩) ∨ ((k=1 ∨ k=2 ∨ k=3)/\r=⟨ygo a,a.knew,[]⟩):=fun k r hk=>by
  match k,hk with
  | 0,hk=>exact .inl ⟨rfl,(Qa hk).symm⟩
  | 1,hk=>exact .inr ⟨.inl rfl,(Qa hk).symm⟩
  | 2,hk=>exact .inr ⟨.inr (.inl rfl),(Qa hk).symm⟩
  | 3,hk=>exact .inr ⟨.inr (.inr rfl),(Qa hk).symm⟩
 have up:∀k,k=1 ∨ k=2 ∨ k=3->∃r,[r0,a,b,c][k]? = some r/\∀t,ofM r.s.all t<=ofM (ygo a).all t:=fun k hk=>by
  rcases hk with rfl|rfl|rfl
  ·exact⟨a,rfl,H⟩
  ·exact⟨b,rfl,h.leb⟩
  exact⟨c,rfl,h.lec⟩
 refine⟨[⟨r0.s,r0.knew,[]⟩,⟨ygo a,a.knew,[]⟩,⟨ygo a,a.knew,[]⟩,⟨ygo a,a.knew,[]⟩],h.ok,rfl,rfl,⟨z,rfl,by decide,fun k r hk=>?_,fun k r hk e n l=>?_,fun k r j q hk C=>?_⟩,rfl,fun i g r o d=>?_,fun i g r hi o d=>?_,fun e n l=>.inl ?_⟩
 ·rcases cs k r hk with⟨-,rfl⟩|⟨-,rfl⟩
  ·exact⟨m.is,m.paths,fun t=>by have:=m.most t;show ofM r0.s.all t<=_;omega,m.knew,fun t=>by rw[zff];exact Qg _,zln⟩
  refine⟨h.is,h.vec.paths,fun t=>?_,h.knew,fun t=>by rw[zff];exact Qg _,zln⟩
  show ofM (ygo a).all t<=_
  rw[u];have:=v.most t
  split<;>omega
 ·rcases cs k r hk with⟨rfl,rfl⟩|⟨x,rfl⟩
  ·exact f.own 0 r0 rfl e n l
  obtain⟨r,d,y⟩:=up k x;exact kn (f.own k r d e n l) (y _)
 ·rcases cs k r hk with⟨rfl,rfl⟩|⟨x,rfl⟩
  ·rcases cs j q C with⟨rfl,rfl⟩|⟨I,rfl⟩
   ·exact Qd _
   show ofM (ygo a).all _<=ofM r0.s.all _
   rw[B];exact f.top 0 r0 1 a rfl rfl
  rcases cs j q C with⟨rfl,rfl⟩|⟨I,rfl⟩
  ·obtain⟨r,d,y⟩:=up k x;exact Qe (f.top k r 0 r0 d rfl) (y _)
  exact Qd _
 ·rw[o]at d;rw[Qa d]
 ·rw[o]at d;obtain rfl:=Qa d;rcases cs i g o with⟨rfl,-⟩|⟨-,rfl⟩
  ·omega
  exact⟨rfl,B,Nat.le_of_eq G.symm,zln,fun t=>by rw[zff];exact Qg _,.inl rfl⟩
 have:=J e n l;unfold zao at this;simp only[decide_eq_true_eq,vecS]at this;rw[l]at this;exact this
theorem ykf {p:PrD}(c:p.1≠[])(l:List Entry)(k:Str):atE (l.map (zaq p)) k=zaq p (atE l k):=by
 unfold atE;rw[yhh]
 cases za4 l k
 case some x=>rfl
 have a:zbc [] p.1 = []:=zk7 c zj0 (by simp) (by simp);have b:zcr [] p = []:=zk9 zp9 (by simp[zab])
 show _=zaq p { zak with key:=k }
 unfold zaq zak;simp only[zff,Nat.lt_irrefl,if_false,a,b]
 rfl
theorem Stay.tells (c:Stay E p gs rs fl){i:Nat}{r:Rep}(h1:1<=i)(e:rs[i]? = some r) :
  ∃V,r.knew=E.map (zao V)/\mayS r.s=true/\SmallS r.s/\(∀k,(atE r.s.entries k).key=k)/\zb7 (atE r.s.entries keyN).counts=sumM V E /\
  (∀a b:Bool,(a=true↔yg2 E V [97])->(b=true↔yg2 E V [98])->zdo (atE r.s.entries keyA).items=ygt a b)/\(∀j,ygw E V E.length j->zio (atE r.s.entries keyC).cell=yhr E j):=by
 obtain⟨g,t,n,m,l,h⟩:=c.get h1 e;have d:=c.reps.hist;have hi:=fun k=>yki m.is k
 have hb:=c.ok.by_
 have ha:∀k,(atE r.s.entries k).key=(atE g.s.entries k).key/\zb7 (atE r.s.entries k).counts=zb7 (atE g.s.entries k).counts/\zdo (atE r.s.entries k).items=zdo (atE g.s.entries k).items/\(atE r.s.entries k).cell=(atE g.s.entries k).cell:=fun k=>by
  rw[n.s]
  cases fl i
  case false=>exact⟨rfl,rfl,rfl,rfl⟩
  show(atE (g.s.entries.map (zaq p)) k).key=_/\zb7 (atE (g.s.entries.map (zaq p)) k).counts=_/\zdo (atE (g.s.entries.map (zaq p)) k).items=_/\(atE (g.s.entries.map (zaq p)) k).cell=_
  rw[ykf hb];exact⟨rfl,ztf _ hb,ztg _ _,rfl⟩
 refine⟨vecS g.s,h.trans l.knew,c.may h1 e,(c.lim h1 e).small (by decide),fun k=>(ha k).1.trans (hi k).key,(ha keyN).2.1.trans (((hi keyN).value d).trans (ykj d _)),fun a b o q=>(ha keyA).2.2.1.trans (yjl d (hi keyA) o q),fun j f=>?_⟩;rw[(ha keyC).2.2.2];exact ykk d (hi keyC) f
theorem StayS.joined (c:HistOk E){ps:List Str}{a b:State}(ha:StayS E p a)(hb:StayS E p b)(j:VecOk ps a)(k:VecOk ps b)(h:∀e∈E,e.path=p.2.2.1->e.num<=p.2.2.2 ∨ p.2.2.2+p.2.1<e.num):StayS E p (zb9 a b):=by
 have hi:=ha.is.join0 c.toHist hb.is;have h1:ofM (zb9 a b).all p.1=p.2.1:=by rw[zjk,ha.has,hb.has,Nat.max_self]
 have d:p.2.2.2+p.2.1<=ofM (zb9 a b).all p.2.2.1:=by rw[zjk];exact Qe ha.top (Qk _ _)
 exact⟨hi,hi.turnS c (j.join k) h1 d fun e f _ i=>h e f i,h1,d⟩
theorem StayS.lim (d:HistOk E)(e:PrOk p){ps:List Str}{a:State}(ha:StayS E p a)(h:VecOk ps a)(f:Bool):LimS 402 (ygv p f a):=by
 have c:=ha.is.lim d h
 cases f with
 | false=>exact LimS.mono c (by decide)
 | true=>have b:=zlb p c;rw[ha.turn.prune e]at b;exact LimS.mono b (by decide)
theorem Stay.last (e:Stay E p gs rs fl)(n:fl 2=fl 1/\fl 3=fl 1){a b c:Rep}(ha:rs[1]? = some a)(hb:rs[2]? = some b)(q:rs[3]? = some c) :
  zb9 a.s (zb9 b.s c.s)=zb9 c.s (zb9 b.s a.s)/\LimS 402 (zb9 b.s c.s)/\LimS 402 (zb9 b.s a.s)/\LimS 402 (zb9 a.s (zb9 b.s c.s)):=by
 obtain⟨z,C,w,f,r,-⟩:=e.get (by decide) ha;obtain⟨A,D,x,h,t,-⟩:=e.get (by decide) hb;obtain⟨B,F,y,j,u,-⟩:=e.get (by decide) q;have d:=e.reps.hist;have k:=r.vec e.reps.few d.most;have i:=t.vec e.reps.few d.most;have l:=u.vec e.reps.few d.most;have m:=h.joined d j i l e.free;have o:=h.joined d f i k e.free;have v:=f.joined d m k (i.join l) e.free;rw[w.s,x.s,y.s,n.1,n.2,ygy d.toHist e.ok h j,ygy d.toHist e.ok h f,ygy d.toHist e.ok f m,ygy d.toHist e.ok j o];refine⟨?_,m.lim d e.ok (i.join l) _,o.lim d e.ok (i.join k) _,v.lim d e.ok (k.join (i.join l)) _⟩;rw[<- yja d.toHist f.is h.is j.is,yh9 d.toHist f.is h.is,yh9 d.toHist (h.is.join0 d.toHist f.is) j.is]
end
end
end Go.Proofs.YtaabaflgeljbjaaGreat
