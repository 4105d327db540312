/- Laws. -/
import Derived.Test.YtaabaflgeljbjaaGreatPr05
import Derived.Test.YtaabaflgeljbjaaGreatPr04
set_option linter.unusedVariables false
set_option linter.unusedSimpArgs false
set_option maxRecDepth 100000
set_option maxHeartbeats 40000000
namespace Go.Proofs.YtaabaflgeljbjaaGreat
open List renaming length_append→Qa,append_assoc→Qb,cons_append→Qc,length_cons→Qd,nil_append→Qe,length_nil→Qf
section
open Go.RowKit
theorem zi8:∀(l:List Mark) (a x m:Mark),za6 a (l++[x,m])=za6 a (l++[x])++(if m.1==x.1 then[]else[m])
 | [],a,x,m=>by
  simp only[Qe,za6]
  by_cases h1:x.1==a.1<;>by_cases c:m.1==x.1<;>simp[h1,c]
 | b::l,a,x,m=>by
  simp only[Qc,za6];have d:=zi8 l b x m
  by_cases h1:b.1==a.1<;>simp[h1,d]
theorem zga (q:List Mark)(x m:Mark):zb0 (q++[x]++[m])=zb0 (q++[x])++(if m.1==x.1 then[]else[m]):=by
 cases q with
 | nil=>simp only[Qe,Qc,zb0,za6]
 | cons a q=>simpa[zb0]using zi8 q a x m
theorem zwi (a b:Mark)(W:World):Calls Tryz.prog 133 #[.agg #[St a.1,U a.2],.agg #[St b.1,U b.2]] W fun e w'=>e=.returned (.bool (a.1==b.1))/\Ext W w':=by
 go_enter Tryz.func133,Tryz.ntmps133;go_wp2;go_ret;exact⟨rfl,((Ext.refl _).alloc _).alloc _⟩
theorem zq3 {v:Value}{l:List Mark}{w:World}{base:Nat}(L:Own w base 97 2 v l.length (l.flatMap zaj))(Z:base<=w.heap.size) :
  Calls Tryz.prog 132 #[v,.func (.func 133) #[] #[]] w fun e w'=>∃v',e=.returned v'/\Own w' base 97 2 v' (zb0 l).length ((zb0 l).flatMap zaj)/\Below base w w':=by
 by_cases ap:l.length<2
 ·obtain⟨A,c,rfl,-,-⟩:=L.form
  have am:zb0 l=l:=by
   match l,ap with
   | [],_=>rfl
   | [m],_=>rfl
  have X:=zH L;have Q:=zH am;have bi:(l.length:Int)<2:=by omega
  clear L am;go_enter Tryz.func132,Tryz.ntmps132;go_wp2;go_ret;exact⟨_,rfl,by rw[Q.out];exact X.out,Below.refl _ _⟩
 obtain⟨p,Y,tail,rfl,an,d,bt,bf,R⟩:=L.row (by omega);obtain⟨be,r0,ao⟩:∃a r,l=a::r:=by cases l with|nil=>simp at ap|cons a r=>exact⟨a,r,rfl⟩
 have ai:=zH d;have a9:=zH R;have bb:=zH ao;have bi:¬(l.length:Int)<2:=by omega
 have X:=zH L;have aj:=zH zwi;clear d R L ao;go_enter Tryz.func132,Tryz.ntmps132;go_wp2_with fail
 go_loopw [5] (fun i wr=>∃(q post:List Mark) (b:Mark),l=q++b::post/\i=I ((q.length:Int)+1)/\zb0 (q++[b])=q++[b]/\Ext w wr) (fun i _=>l.length-(intOf i).toNat)
 case atStart=>exact⟨[],r0,be,bb.out,rfl,rfl,Ext.refl _⟩
 obtain⟨q,post,b,h,rfl,S,hb⟩:=hrel;have s:l.length=q.length+1+post.length:=(by rw[h];simp;omega);have bp:q.length+1<=l.length:=by omega
 cases post with
 | cons m post =>
  have bq:q.length+1<l.length:=(by simp at s;omega);have d:=ai.out.ext hb;rw[h]at d;have D:=zgh q (m::post) b;have z:=zgh (q++[b]) post m;rw[Qb,Qa]at z;have H:=d.cell D.1;have J:=d.cell D.2;have B:=d.cell z.1;have C:=d.cell z.2;simp only[Qd,Qf,Nat.zero_add]at B C;have y:=zH h;have T:=zH S;clear h S d D z s
  have av:IntKind.i64.wrap ((q.length:Int)+1-1)=q.length:=by rw[IntWalk.i64_in _ (by omega)];omega
  have aw:IntKind.i64.wrap (q.length:Int)=q.length:=IntWalk.i64_in _ (by omega);have a3:(0:Int)<=(q.length:Int)+1:=(by omega);have a4:(q.length:Int)+1<(l.length:Int):=(by omega);have a5:(0:Int)<=(q.length:Int):=(by omega);have a6:(q.length:Int)<(l.length:Int):=(by omega);have a7:((q.length:Int)+1).toNat=q.length+1:=(by omega);go_wp2_with fail
  go_region_held3 (fun W=>W.cell? ⟨p,q.length * 2,none⟩=some (St b.1)/\W.cell? ⟨p,q.length * 2+1,none⟩=some (U b.2)/\W.cell? ⟨p,(q.length+1) * 2,none⟩=some (St m.1)/\W.cell? ⟨p,(q.length+1) * 2+1,none⟩=some (U m.2)/\Ext wr W) (first|exact⟨H,J,B,C,(Ext.refl _).drew⟩|exact⟨f.cell ‹_/\_/\_/\_/\Ext wr _›.1,f.cell ‹_/\_/\_/\_/\Ext wr _›.2.1,f.cell ‹_/\_/\_/\_/\Ext wr _›.2.2.1,f.cell ‹_/\_/\_/\_/\Ext wr _›.2.2.2.1,‹_/\_/\_/\_/\Ext wr _›.2.2.2.2.trans f⟩) (first|(go_at_call 133;refine(aj.out m b _).mono ?_;rintro e ae⟨rfl,f⟩))
  have ay:Ext wr ae:=‹_/\_/\_/\_/\Ext wr _›.2.2.2.2;have F:Ext w ae:=hb.trans ay;rename_i aa;clear aa H J B C;cases aq:m.1==b.1
  ·go_wp2;go_roundw
   case rel=>exact⟨q++[b],post,m,by rw[y.out];simp,by simp,by rw[zga,T.out,aq];rfl,F⟩
   case measure=>simp[intOf];omega
  have bu:¬Y=q.length+1:=(by omega);have ax:RowIs ae p 97 (l.flatMap zaj) tail:=ai.out.ext F;have E:=zH ax;clear ax;go_wp2_with fail
  go_loopw [5,7] (fun i k wr=>∃(G post kept g:List Mark) (b:Mark) (j:Nat),l=G++b::post/\i=I kept.length/\k=I ((j:Int)+1)/\kept=zb0 (G++[b])/\kept.length+g.length=G.length/\G.length=q.length+1+j/\RowIs wr p 97 ((kept++g++b::post).flatMap zaj) tail/\Below base w wr) (fun _ k _=>l.length-(intOf k).toNat)
  case atStart =>
   refine⟨q++[b],post,q++[b],[],m,0,by rw[y.out];simp,by simp,rfl,by rw[zga,T.out,aq];simp,by simp,by simp,?_,F.below Z⟩;have:=E.out;rw[y.out]at this
   simpa using this
  clear hb ay F f y T E av aw a3 a4 a5 a6 a7;obtain⟨G,post,kept,g,b,j,h,rfl,rfl,hk,N,O,d,hb⟩:=hrel;have s:l.length=q.length+1+j+1+post.length:=by rw[h];simp;omega
  cases post
  case cons m post=>
   have D:=zgh (kept++g) (m::post) b;have z:=zgh (kept++g++[b]) post m;rw[Qa,N,O]at D;rw[Qb,Qa,Qa,N,O]at z;have H:=d.cell D.1;have J:=d.cell D.2;have B:=d.cell z.1;have C:=d.cell z.2;simp only[Qd,Qf,Nat.zero_add]at B C;rw[show(q.length+1+j) * 2=(q.length+1) * 2+j * 2 by omega]at H J;rw[show(q.length+1+j+1) * 2=(q.length+1) * 2+(j+1) * 2 by omega]at B C;have bh:kept.length<l.length:=(by omega);have bg:j+1<l.length-(q.length+1):=by simp at s;omega
   have av:IntKind.i64.wrap ((j:Int)+1-1)=j:=by rw[IntWalk.i64_in _ (by omega)];omega
   have aw:IntKind.i64.wrap (j:Int)=j:=IntWalk.i64_in _ (by omega);have a3:(0:Int)<=(j:Int)+1:=(by omega);have a4:(j:Int)+1<((l.length-(q.length+1):Nat):Int):=(by omega);have a5:(0:Int)<=(j:Int):=(by omega);have a6:(j:Int)<((l.length-(q.length+1):Nat):Int):=(by omega);have a7:((j:Int)+1).toNat=j+1:=(by omega);have y:=zH h;have E:=zH hk;have ag:=zH N;have ah:=zH O;have V:=zH d;clear h hk N O d D z s;go_wp2_with fail
   go_region_held3 (fun W=>W.cell? ⟨p,(q.length+1) * 2+j * 2,none⟩=some (St b.1)/\W.cell? ⟨p,(q.length+1) * 2+j * 2+1,none⟩=some (U b.2)/\W.cell? ⟨p,(q.length+1) * 2+(j+1) * 2,none⟩=some (St m.1)/\W.cell? ⟨p,(q.length+1) * 2+(j+1) * 2+1,none⟩=some (U m.2)/\Ext wr W) (first|exact⟨H,J,B,C,(Ext.refl _).drew⟩|exact⟨f.cell ‹_/\_/\_/\_/\Ext wr _›.1,f.cell ‹_/\_/\_/\_/\Ext wr _›.2.1,f.cell ‹_/\_/\_/\_/\Ext wr _›.2.2.1,f.cell ‹_/\_/\_/\_/\Ext wr _›.2.2.2.1,‹_/\_/\_/\_/\Ext wr _›.2.2.2.2.trans f⟩) (first|(go_at_call 133;refine(aj.out m b _).mono ?_;rintro e af⟨rfl,f⟩))
   have az:Ext wr af:=‹_/\_/\_/\_/\Ext wr _›.2.2.2.2;have br:=‹_/\_/\_/\_/\Ext wr _›.2.2.1;have bs:=‹_/\_/\_/\_/\Ext wr _›.2.2.2.1;have F:Below base w af:=Below.trans hb (az.below (Nat.le_trans Z hb.size));have ac:=V.out.ext az;rename_i aa;clear aa H J B C f;cases ar:m.1==b.1
   ·obtain⟨x,M,ab⟩:∃x M,g++[b]=x::M:=by cases g with|nil=>exact⟨b,[],rfl⟩|cons x r=>exact⟨x,r++[b],rfl⟩
    have K:RowIs af p 97 ((kept++x::(M++m::post)).flatMap zaj) tail:=by
     have e:kept++g++b::m::post=kept++x::(M++m::post):=by rw[show kept++g++b::m::post=kept++(g++[b])++(m::post) by simp,ab];simp
     rwa[e]at ac
    have ad:=zgh kept (M++m::post) x;have bk:=K.cell ad.1;have bm:=K.cell ad.2;have bn:=K.frozen (kept.length * 2);have bo:=K.frozen (kept.length * 2+1);have bc:=zH K;have ba:=zH (congrArg List.length ab);clear K ac ad ab;go_wp2;go_roundw
    case rel =>
     refine⟨G++[b],post,kept++[m],M,m,j+1,by rw[y.out];simp,by simp,by simp,by rw[zga,<- E.out,ar];rfl,?_,?_,?_,?_⟩
     ·have h1:=ag.out;have ak:=ba.out;simp at ak ⊢;omega
     ·have:=ah.out;simp;omega
     ·have:=bc.out.setMark m
      simpa using this
     exact(F.setCell (by simp;omega) _).setCell (by simp;omega) _
    case measure=>simp[intOf];omega
   go_wp2;go_roundw
   case rel =>
    refine⟨G++[b],post,kept,g++[b],m,j+1,by rw[y.out];simp,by simp,by simp,by rw[zga,<- E.out,ar];simp,?_,?_,by simpa using ac,F⟩
    ·have h1:=ag.out;simp;omega
    have:=ah.out;simp;omega
   case measure=>simp[intOf];omega
  have a0:((kept++g++[b]).flatMap zaj).length=(kept.length+(l.length-kept.length)) * 2:=by rw[zb4];simp at s ⊢;omega
  have bh:kept.length<l.length:=(by simp at s;omega);have bg:¬(j:Int)+1<((l.length-(q.length+1):Nat):Int):=(by simp at s;omega);obtain⟨i,hi,a1,-,-⟩:=info_parts zgp;obtain⟨bj,a2,R⟩:=zig (P:=Tryz.prog) (t:=22) (o:=kept.length) (n:=l.length-kept.length) (c:=Y-kept.length) Tryz.underlying22 hi a1 (k:=2) rfl (by intro u au;simp[Value.cells]at au;rcases au with rfl|rfl<;>rfl) d (by omega) a0 0;rw[Qb kept g [b],znu]at R;have V:=zH d;have bd:=zH a2;have bv:¬Y=kept.length:=(by omega);have E:=zH hk;have y:=zH h;clear N O d a0 hi a1 a2 hk h s;go_wp2_with fail;go_ret;rw[y.out,<- E.out];have al:=V.out.setRow (kept.flatMap zaj++bj);rw[Qb]at al;refine⟨_,rfl,al.own an (by omega) bf ?_ ?_ (zb4 _),?_⟩
  ·have h1:=a9.out;have ak:=bd.out;simp only[Qa,zb4]at h1 ⊢;omega
  ·rw[<- zb4 kept,List.take_left]
  exact zi7 hb an _
 | nil=>have bw:¬(q.length:Int)+1<(l.length:Int):=(by simp at s;omega);have Q:zb0 l=l:=(by rw[h];exact S);have a8:=zH Q;clear h S s Q;go_wp2_with fail;go_ret;exact⟨_,rfl,by rw[a8.out];exact X.out.ext hb,hb.below Z⟩
end
section
open Go.Sort
theorem zt9 {α:Type}{lt:α->α->Bool}(h1:∀x,lt x x=false)(f:∀x y z,lt x y=true->lt y z=true->lt x z=true)(g:∀x y,lt x y=true ∨ x=y ∨ lt y x=true):SWO lt where
 irrefl:=h1
 trans x y z:=f x y z
 ntrans x y z a b:=zbt fun c=>by
  rcases g x y with d|rfl|d
  ·rw[d]at a;cases a
  ·rw[c]at b;cases b
  rcases g y z with e|rfl|e
  ·rw[e]at b;cases b
  ·rw[c]at a;cases a
  have:=f _ _ _ (f _ _ _ e d) c;rw[h1]at this;cases this
theorem zsm {α:Type}{lt:α->α->Bool}(d:∀x y,lt x y=true ∨ x=y ∨ lt y x=true)(x y:α)(a:lt x y=false)(b:lt y x=false):x=y:=by
 rcases d x y with c|c|c
 ·rw[c]at a;cases a
 ·exact c
 rw[c]at b;cases b
theorem zsn (a:Mark):ltOf cmpD a a=false:=zbt fun h=>by
 rcases cmpD_lt.1 h with h|⟨-,h⟩
 ·rw[zap]at h;cases h
 omega
theorem znv (a b c:Mark)(h:ltOf cmpD a b=true)(k:ltOf cmpD b c=true):ltOf cmpD a c=true:=by
 rw[cmpD_lt]at *;rcases h with h|⟨e,h⟩<;>rcases k with k|⟨f,k⟩
 ·exact .inl (zay h k)
 ·exact .inl (f▸h)
 ·exact .inl (e▸k)
 exact .inr ⟨e.trans f,by omega⟩
theorem zy5 (a b:Mark):ltOf cmpD a b=true ∨ a=b ∨ ltOf cmpD b a=true:=by
 rw[cmpD_lt,cmpD_lt];rcases zcj a.1 b.1 with h|h|h
 ·exact .inl (.inl h)
 ·rcases Nat.lt_trichotomy a.2 b.2 with k|k|k
  ·exact .inl (.inr ⟨h,k⟩)
  ·exact .inr (.inl (Prod.ext h k))
  exact .inr (.inr (.inr ⟨h.symm,k⟩))
 exact .inr (.inr (.inl h))
def cmpP (p q:zan):Int:=orI (cmpS p.1 q.1) (cmpD p.2 q.2)
theorem cmpP_lt {a b:zan}:ltOf cmpP a b=true↔ltS a.1 b.1=true ∨ (a.1=b.1/\ltOf cmpD a.2 b.2=true):=by
 unfold ltOf cmpP orI;rw[decide_eq_true_eq]
 by_cases h:a.1=b.1
 ·rw[zN (by rw[cmpS_eq.2 h];simp)];simp[h,zap]
 rw[zP (fun e=>h (cmpS_eq.1 e)),cmpS_lt];simp[h]
theorem zj1 (a:zan):ltOf cmpP a a=false:=zbt fun h=>by
 rcases cmpP_lt.1 h with h|⟨-,h⟩
 ·rw[zap]at h;cases h
 rw[zsn]at h;cases h
theorem znw (a b c:zan)(h:ltOf cmpP a b=true)(k:ltOf cmpP b c=true):ltOf cmpP a c=true:=by
 rw[cmpP_lt]at *;rcases h with h|⟨e,h⟩<;>rcases k with k|⟨f,k⟩
 ·exact .inl (zay h k)
 ·exact .inl (f▸h)
 ·exact .inl (e▸k)
 exact .inr ⟨e.trans f,znv _ _ _ h k⟩
theorem zm9 (a b:zan):ltOf cmpP a b=true ∨ a=b ∨ ltOf cmpP b a=true:=by
 rw[cmpP_lt,cmpP_lt];rcases zcj a.1 b.1 with h|h|h
 ·exact .inl (.inl h)
 ·rcases zy5 a.2 b.2 with k|k|k
  ·exact .inl (.inr ⟨h,k⟩)
  ·exact .inr (.inl (Prod.ext h k))
  exact .inr (.inr (.inr ⟨h.symm,k⟩))
 exact .inr (.inr (.inl h))
theorem zhm:SWO (ltOf cmpP):=zt9 zj1 znw zm9
theorem zjs (a b:zan)(h1:ltOf cmpP a b=false)(c:ltOf cmpP b a=false):a=b:=zsm zm9 a b h1 c
theorem zld {α:Type}{lt:α->α->Bool}(e:SWO lt)(f:∀a b,lt a b=false->lt b a=false->a=b){c d:List α}(g:c.Perm d):zco lt c=zco lt d :=
 zej f (((zbq c).trans g).trans (zbq d).symm) (zdn e c) (zdn e d)
def zab (l:List Item):List zan:=l.flatMap fun it=>it.2.map fun d=>(it.1,d)
def zb5 (l:List Item)(p:zan):List Item :=
 match l.getLast? with
 | none=>[(p.1,[p.2])]
 | some it=>if it.1==p.1 then l.dropLast++[(it.1,it.2++[p.2])]else l++[(p.1,[p.2])]
def zep (ps:List zan):List Item:=ps.foldl zb5 []
def za7 (ks:List zan):List Item:=zep (zco (ltOf cmpP) ks)
theorem zfe {a b:List zan}(h:a.Perm b):za7 a=za7 b:=by unfold za7;rw[zld zhm zjs h]
theorem zqj (p:zan):zb5 [] p = [(p.1,[p.2])]:=rfl
theorem zhn (pre:List Item)(t:Str)(a:List Dot)(d:Dot):zb5 (pre++[(t,a)]) (t,d)=pre++[(t,a++[d])]:=by simp[zb5]
theorem zg3 (pre:List Item)(it:Item)(p:zan)(h:(it.1==p.1)=false):zb5 (pre++[it]) p=pre++[it]++[(p.1,[p.2])]:=by simp[zb5,h]
theorem zhv (ps:List zan)(p:zan):zep (ps++[p])=zb5 (zep ps) p:=by simp[zep]
end
end Go.Proofs.YtaabaflgeljbjaaGreat
