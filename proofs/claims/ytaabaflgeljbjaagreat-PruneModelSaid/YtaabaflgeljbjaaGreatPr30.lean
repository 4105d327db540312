/- Laws. -/
import Derived.Test.YtaabaflgeljbjaaGreatPr26
import Derived.Test.YtaabaflgeljbjaaGreatPr28
import Derived.Test.YtaabaflgeljbjaaGreatPr01
import Derived.Test.YtaabaflgeljbjaaGreatPr22
set_option linter.unusedVariables false
set_option linter.unusedSimpArgs false
set_option maxRecDepth 100000
set_option maxHeartbeats 40000000
namespace Go.Proofs.YtaabaflgeljbjaaGreat
open Go.Value renaming slice→Xa,bool→Xb
open Go.Obj renaming cells→Xc
open Ext renaming refl→Xd
open Nat renaming le_trans→Qa
section
open Go.RowKit Go.Shelf
theorem zir:SmallE zak:=⟨by decide,by decide,by decide,(fun it h=>by cases h),by decide⟩
theorem zjy {l:List Entry}{k:Str}{m:Entry}(h:za4 l k=some m):m∈l:=List.mem_of_find?_eq_some h
theorem zpt {l:List Entry}{k:Str}{m:Entry}(h:za4 l k=some m):m.key=k:=by simpa using List.find?_some h
theorem zn8 {l:List Entry}(a:∀e∈l,SmallE e)(k:Str):SmallE ((za4 l k).getD zak):=by
 cases b:za4 l k with
 | none=>exact zir
 | some m=>exact a m (zjy b)
theorem ya5 {S:Nat->Prop}{s:State}{v1 v2 v3:Value}{w:World}(k:Str)(t:StAt w S s v1 v2 v3)(ag:∀e∈s.entries,SmallE e) :
  Calls Tryz.prog 37 #[stV v1 v2 v3,St k] w fun r w'=>∃A B C,r=.returned (.tuple #[entV ((za4 s.entries k).getD zak) A B C,Xb (za4 s.entries k).isSome])/\EntNew w' w.heap.size ((za4 s.entries k).getD zak) A B C/\Ext w w':=by
 obtain⟨n,a,o⟩:=s;obtain⟨f,j,g,l,h,m,rfl,rfl,rfl⟩:=t.fm;have x:=((Xd w).alloc (Xc #[Xa f n.length j,Xa g a.length l,Xa h o.length m] 26)).alloc (Xc #[St [],Xa none 0 0,Xa none 0 0,Xa none 0 0,.int .u64 0,St [],Xb false] 46);have z:=zaf (w.alloc (Xc #[Xa f n.length j,Xa g a.length l,Xa h o.length m] 26)) 46 [St [],Xa none 0 0,Xa none 0 0,Xa none 0 0,.int .u64 0,St [],Xb false];rw[World.size_alloc]at z;have Q:=zH (znf k (t.entries.ext (by decide) x));have ao:w.heap.size+2<=((w.alloc (Xc #[Xa f n.length j,Xa g a.length l,Xa h o.length m] 26)).alloc (Xc #[St [],Xa none 0 0,Xa none 0 0,Xa none 0 0,.int .u64 0,St [],Xb false] 46)).heap.size:=by simp
 have p:=zH (zn8 ag k);clear t;go_enter Tryz.func37,Tryz.ntmps37;go_wp2_with fail;generalize (w.alloc (Xc #[Xa f n.length j,Xa g a.length l,Xa h o.length m] 26)).alloc (Xc #[St [],Xa none 0 0,Xa none 0 0,Xa none 0 0,.int .u64 0,St [],Xb false] 46)=ah at *;refine Q.out.mono ?_;rintro r X⟨v1,v2,v3,rfl,c,i⟩;simp only at c p ⊢;have b:=zH p.out;clear p;generalize J:(za4 a k).getD zak=e at c b ⊢;generalize K:(za4 a k).isSome=is;have G:=zH J;have T:=zH K;clear J K;obtain⟨N,c1,O,c2,P,Y,rfl,rfl,rfl⟩:=c.fm;have d:=(Xd X).alloc (Xc #[St e.key,Xa N e.seen.length c1,Xa O e.counts.length c2,Xa P e.items.length Y,U e.cell.1,St e.cell.2.1,Xb e.cell.2.2] 46);have R:=zH (zgs (c.ext d) (Qa b.out.seen (by decide)) (Qa b.out.counts (by decide)) (Qa b.out.items (by decide)) (fun it Z=>Qa (b.out.dots it Z) (by decide)));have L:=x.trans (i.trans d);have ap:=(i.trans d).size;have M:=z.ext (i.trans d);clear c x i z;go_wp2_with fail;refine R.out.mono ?_;rintro r ai⟨A,B,C,rfl,u,y⟩;obtain⟨D,d1,E,H,F,I,rfl,rfl,rfl⟩:=u.fm;have hR:=M.ext y;obtain⟨r0,r1,ab,ac,ad,ae,af⟩:=hR.p7;obtain⟨f0,f1,aj,ak,al,am,an⟩:=hR.q7;have W:=zH (L.trans y);have V:=zH u;clear hR M u y d L;go_wp2_with fail
 (try simp only[Exit.inBlock,Exit.then])
 refine bodyPost_ret (v:=.tuple #[entV e (Xa D e.seen.length d1) (Xa E e.counts.length H) (Xa F e.items.length I),Xb is]) (by simp[results,Tryz.f37,go_sem,entV,entC,r0,r1,ab,ac,ad,ae,af]) rfl ?_;have aa:=zk1 (q:=w.heap.size+1) W.out (by omega) V.out (by omega);refine⟨Xa D e.seen.length d1,Xa E e.counts.length H,Xa F e.items.length I,by rw[G.out,T.out],?_⟩;rw[G.out];exact aa
theorem ValAt.lower {W:World}{base base':Nat}{e:Entry}{v:Value}(a:ValAt W base e v)(hb:base'<=base):ValAt W base' e v:=by
 unfold ValAt at a ⊢
 split
 ·rename_i h1;rw[zP h1]at a;exact a
 rename_i h1;rw[zN h1]at a
 split
 ·rename_i b;rw[zP b]at a;obtain⟨s,c,o⟩:=a;exact⟨s,c,o.lower hb⟩
 rename_i b;rw[zN b]at a;exact a
def atE (l:List Entry)(k:Str):Entry:=(za4 l k).getD { zak with key:=k }
theorem zzy {S:Nat->Prop}{s:State}{v1 v2 v3:Value}{w:World}(k:Str)(u:StAt w S s v1 v2 v3)(L:∀e∈s.entries,SmallE e) :
  Calls Tryz.prog 19 #[stV v1 v2 v3,St k] w fun r w'=>∃v,r=.returned v/\ValAt w' w.heap.size (atE s.entries k) v/\Ext w w':=by
 obtain⟨K,d,M⟩:=s;obtain⟨y,H,z,I,A,J,rfl,rfl,rfl⟩:=u.fm;have i:=(Xd w).alloc (Xc #[Xa y K.length H,Xa z d.length I,Xa A M.length J] 26);have m:=zH (znf k (u.entries.ext (by decide) i));have E:=zH L;have f:=zH (show atE d k=(za4 d k).getD { zak with key:=k } from rfl);clear u L;go_enter Tryz.func19,Tryz.ntmps19;go_wp2_with fail;generalize w.alloc (Xc #[Xa y K.length H,Xa z d.length I,Xa A M.length J] 26)=P at *;refine m.out.mono ?_;rintro r t⟨v1,v2,v3,rfl,a,l⟩;simp only at a E f ⊢
 cases b:za4 d k with
 | none =>
  have n:=zH (show atE d k = { zak with key:=k } by rw[f.out,b];rfl);rw[b]at a;simp only[Option.getD_none,Option.isSome_none]at a ⊢;have G:EntAt t S { zak with key:=k } (Xa none 0 0) (Xa none 0 0) (Xa none 0 0):=⟨Sl.nil _ _ (by decide),Sl.nil _ _ (by decide),Sl.nil _ _ (by decide)⟩
  obtain⟨B,c1,C,c2,D,F,rfl,rfl,rfl⟩:=a.fm;have c:=(Xd t).alloc (Xc #[St k,Xa none 0 0,Xa none 0 0,Xa none 0 0,.int .u64 0,St [],Xb false] 46);have o:=zH (zn5 (G.ext c) (show(zab ([]:List Item)).length<=_ by decide));have g:=zH (i.trans (l.trans c));clear a G i l b f m c;go_wp2_with fail;refine o.out.mono ?_;rintro r N⟨v,rfl,h,j⟩;have x:=g.out.size;have p:=zH h;have q:=zH j;clear h j;go_wp2_with fail;go_ret;exact⟨_,rfl,by rw[n.out];exact p.out.lower x,g.out.trans q.out⟩
 | some e=>have n:=zH (show atE d k=e by rw[f.out,b];rfl);have O:SmallE e:=E.out e (zjy b);rw[b]at a;simp only[Option.getD_some,Option.isSome_some]at a ⊢;obtain⟨B,c1,C,c2,D,F,rfl,rfl,rfl⟩:=a.fm;have c:=(Xd t).alloc (Xc #[St e.key,Xa B e.seen.length c1,Xa C e.counts.length c2,Xa D e.items.length F,U e.cell.1,St e.cell.2.1,Xb e.cell.2.2] 46);have o:=zH (zn5 (a.ext c) (Qa O.places (by decide)));have g:=zH (i.trans (l.trans c));clear a i l b f m c;go_wp2_with fail;refine o.out.mono ?_;rintro r N⟨v,rfl,h,j⟩;have x:=g.out.size;have p:=zH h;have q:=zH j;clear h j;go_wp2_with fail;go_ret;exact⟨_,rfl,by rw[n.out];exact p.out.lower x,g.out.trans q.out⟩
abbrev valC (k:Nat)(n:Int)(l:Value)(t:Str)(is:Bool):Value:=.agg #[K8 k,I n,l,St t,Xb is]
theorem ykr (n b:Int)(A:Option Addr)(a c:Nat)(t:Str)(z:Bool)(w:World) :
  Calls Tryz.prog 18 #[.iface 2 (I n),valC 1 b (Xa A a c) t z] w fun r w'=>r=.returned (Xb (decide (n=b)))/\Ext w w':=by
 have f:=fun W=>zoj (P:=Tryz.prog) (x:=20) (v:=I n) W Tryz.underlying2 (by simp)
 by_cases d:n=b
 ·subst d;go_enter Tryz.func18,Tryz.ntmps18;go_wp2;go_ret;exact⟨by simp,(Xd _).alloc _⟩
 have e:(n==b)=false:=by simpa using d
 go_enter Tryz.func18,Tryz.ntmps18;go_wp2;go_ret;exact⟨by simp[d],(Xd _).alloc _⟩
end
section
end
section
open Go.RowKit Go.Shelf
theorem yks {S S':Nat->Prop}{b c:Value}{A B:List Str}{w:World}(ha:Sl strT w S b A)(hb:Sl strT w S' c B)(t:Str)(z:Bool)(n:Int) :
  Calls Tryz.prog 18 #[.iface 24 b,valC 2 n c t z] w fun r w'=>r=.returned (Xb (decide (A=B)))/\Ext w w':=by
 obtain⟨d,i,rfl,-,-⟩:=ha.form;obtain⟨e,j,rfl,-,-⟩:=hb.form;have l:=fun W=>zoj (P:=Tryz.prog) (x:=20) (v:=Xa d A.length i) W Tryz.underlying24 (by simp)
 have a:=(Xd w).alloc (Xc #[K8 2,I n,Xa e B.length j,St t,Xb z] 51);have f:=zH (ztd (ha.ext (by decide) a) (hb.ext (by decide) a));have g:=zH a;clear ha hb a;go_enter Tryz.func18,Tryz.ntmps18;go_wp2_with fail;refine f.out.mono ?_;rintro r k⟨rfl,h⟩;go_wp2_with fail;go_ret;exact⟨rfl,g.out.trans h⟩
theorem ykt (w:World):(zeroValue 9).run Tryz.prog w=.ok (St []) w:=Tryz.zeroValue9 w
theorem ykp (c:Cell)(b:Int)(A:Option Addr)(a d:Nat)(w:World) :
  Calls Tryz.prog 18 #[zkd c,valC 3 b (Xa A a d) (zio c).1 (zio c).2] w fun r w'=>r=.returned (Xb true)/\Ext w w':=by
 unfold zkd;rcases h:zio c with⟨t,is⟩
 cases is
 case true=>
  have e:=fun W=>zoj (P:=Tryz.prog) (x:=20) (v:=St t) W Tryz.underlying9 (by simp)
  simp only[if_true];go_enter Tryz.func18,Tryz.ntmps18;go_wp2;go_ret;exact⟨by simp,(Xd _).alloc _⟩
 obtain rfl:t = []:=by
  unfold zio at h
  split at h
  ·injection h with h1 h2;exact h1.symm
  injection h with h1 h2;cases h2
 have e:=fun W=>yh8 (P:=Tryz.prog) (x:=20) W Tryz.underlying9 (by simp) (ykt W)
 simp only[Bool.false_eq_true,if_false];go_enter Tryz.func18,Tryz.ntmps18;go_wp2;go_ret;exact⟨by simp,(Xd _).alloc _⟩
end
end Go.Proofs.YtaabaflgeljbjaaGreat
