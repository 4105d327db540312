/- Contracts and plain laws. -/
import Derived.Test.YtaabaflgeljbjaaGreatPo24
import Derived.Test.YtaabaflgeljbjaaGreatPo42
import Derived.Test.YtaabaflgeljbjaaGreatPo39
import Derived.Test.YtaabaflgeljbjaaGreatPo41
import Derived.Test.YtaabaflgeljbjaaGreatPo19
import Derived.Test.YtaabaflgeljbjaaGreatPo11
import Derived.Test.YtaabaflgeljbjaaGreatPo25
import Derived.Test.YtaabaflgeljbjaaGreatPo34
import Derived.Test.YtaabaflgeljbjaaGreatPo23
import Derived.Test.YtaabaflgeljbjaaGreatPo27
import Derived.Test.YtaabaflgeljbjaaGreatPo40
import Derived.Test.YtaabaflgeljbjaaGreatPo29
import Derived.Test.YtaabaflgeljbjaaGreatPo05
import Derived.Test.YtaabaflgeljbjaaGreatPo01
import Derived.Test.YtaabaflgeljbjaaGreatPo21
set_option linter.unusedVariables false
set_option linter.unusedSimpArgs false
set_option maxRecDepth 100000
set_option maxHeartbeats 40000000
namespace Go.Proofs.YtaabaflgeljbjaaGreat
section
open Go.RowKit Go.Shelf
def zcx (all:List Mark) (p:PrD):Bool:=decide (ofM all p.1=p.2.1) && decide (p.2.2.2+p.2.1<=ofM all p.2.2.1)
theorem zgt {S:Nat->Prop} {s:State} {a1 a2 a3:Value} {w:World} (p:PrD) (hm:mayP p=true) (hs:StAt w S s a1 a2 a3) :
  Calls Tryz.prog 13 #[stV a1 a2 a3,prV p] w fun e w'=>e=.returned (.bool (zcx s.all p))/\Ext w w':=by
 obtain⟨sa,se,sp⟩:=s;obtain⟨b,c,o,n⟩:=p
 have hbd:n+c<=281474976710656:=by simp only [mayP,Bool.and_eq_true,decide_eq_true_eq] at hm;omega
 obtain⟨A1,n1,rfl,-,-⟩:=hs.all.form;obtain⟨A2,n2,rfl,-,-⟩:=hs.entries.form;obtain⟨A3,n3,rfl,-,-⟩:=hs.pruned.form;have HS:=zH hs;have HX:=zH (show Ext w ((w.alloc (.cells #[.slice A1 sa.length n1,.slice A2 se.length n2,.slice A3 sp.length n3] 26)).alloc (.cells #[St b,U c,St o,U n] 29)) from ((Ext.refl w).alloc _).alloc _);have rA:RowIs ((w.alloc (.cells #[.slice A1 sa.length n1,.slice A2 se.length n2,.slice A3 sp.length n3] 26)).alloc (.cells #[St b,U c,St o,U n] 29)) w.heap.size 26 [.slice A1 sa.length n1,.slice A2 se.length n2,.slice A3 sp.length n3] []:=(zai w 26 [.slice A1 sa.length n1,.slice A2 se.length n2,.slice A3 sp.length n3]).alloc _;have rB:RowIs ((w.alloc (.cells #[.slice A1 sa.length n1,.slice A2 se.length n2,.slice A3 sp.length n3] 26)).alloc (.cells #[St b,U c,St o,U n] 29)) (w.heap.size+1) 29 [St b,U c,St o,U n] []:=by have h:=zai (w.alloc (.cells #[.slice A1 sa.length n1,.slice A2 se.length n2,.slice A3 sp.length n3] 26)) 29 [St b,U c,St o,U n];simp only [World.size_alloc] at h;exact h
 obtain⟨u1,hu1⟩:∃ u,ofM sa b=u:=⟨_,rfl⟩
 obtain⟨u2,hu2⟩:∃ u,ofM sa o=u:=⟨_,rfl⟩
 have HO1:=zH hu1;have HO2:=zH hu2;have HR:=zH (show zcx sa (b,c,o,n)=(decide (u1=c) && decide (n+c<=u2)) by unfold zcx;rw [hu1,hu2]);clear hs hu1 hu2 hm;go_enter Tryz.func13,Tryz.ntmps13;go_wp2_with fail;generalize ((w.alloc (.cells #[.slice A1 sa.length n1,.slice A2 se.length n2,.slice A3 sp.length n3] 26)).alloc (.cells #[St b,U c,St o,U n] 29))=W0 at *
 by_cases hc:u1=c
 ·subst hc;have HQ:=zH (show zcx sa (b,u1,o,n)=decide (n+u1<=u2) by rw [HR.out];simp);clear HR
  refine zao [fun v _=>v=.pointer (some ⟨w.heap.size,0,none⟩),
   fun v _=>v=.slice A1 sa.length n1,
   fun v _=>v=.pointer (some ⟨w.heap.size+1,0,none⟩),
   fun v _=>v=St b,
   fun v _=>v=U u1,
   fun v _=>v=.pointer (some ⟨w.heap.size+1,1,none⟩),
   fun v _=>v=U u1,
   fun v _=>v=.bool true,
   fun v _=>v=.bool true,
   fun v _=>v=.pointer (some ⟨w.heap.size,0,none⟩),
   fun v _=>v=.slice A1 sa.length n1,
   fun v _=>v=.pointer (some ⟨w.heap.size+1,2,none⟩),
   fun v _=>v=St o,
   fun v _=>v=U u2,
   fun v _=>v=.pointer (some ⟨w.heap.size+1,3,none⟩),
   fun v _=>v=U n,
   fun v _=>v=.pointer (some ⟨w.heap.size+1,1,none⟩),
   fun v _=>v=U u1,
   fun v _=>v=U (n+u1),
   fun v _=>v=.bool (decide (n+u1<=u2)),
   fun v _=>v=.bool (decide (n+u1<=u2))] rfl (by kernel_rfl) ?hR ?hstep ?hend
  case hR=>simp only [List.mem_cons,List.not_mem_nil,or_false,forall_eq_or_imp,forall_eq];exact⟨kP,kP,kP,kP,kP,kP,kP,kP,kP,kP,kP,kP,kP,kP,kP,kP,kP,kP,kP,kP,kP⟩
  case hstep =>
   simp only [List.length_cons,List.length_nil,Nat.reduceAdd,List.take_succ_cons,List.take_zero,za6,and_true];refine ⟨?_,?_,?_,?_,?_,?_,?_,?_,?_,?_,?_,?_,?_,?_,?_,?_,?_,?_,?_,?_,?_⟩
   ·intro x W he f;have h:x 2=.pointer (some ⟨w.heap.size,0,none⟩):=f.1;have hr:=rA.ext he;obtain⟨k0,k1,k2⟩:=hr.p3;go_wp;exact sQ
   ·intro x W he f;have h:x 5=.pointer (some ⟨w.heap.size,0,none⟩):=f.1;have hc:=(rA.ext he).cell (j:=0) rfl;go_wp;exact sQ
   ·intro x W he f;have h:x 3=.pointer (some ⟨w.heap.size+1,0,none⟩):=f.1;have hr:=rB.ext he;obtain⟨k0,k1,k2,k3⟩:=hr.p4;go_wp;exact sQ
   ·intro x W he f;have h:x 7=.pointer (some ⟨w.heap.size+1,0,none⟩):=f.1;have hc:=(rB.ext he).cell (j:=0) rfl;go_wp;exact sQ
   ·intro x W he f;have h:x 6=.slice A1 sa.length n1:=f.1;have h2:x 8=St b:=f.2.1;have HC:=zH (zcw b (HS.out.all.ext (by decide) (HX.out.trans he)));rw [HO1.out] at HC;go_wp;refine HC.out.mono ?_;rintro r W2 ⟨rfl,hx2⟩;dsimp only;go_wp;exact zaa (v:=U u1) rfl hx2
   ·intro x W he f;have h:x 3=.pointer (some ⟨w.heap.size+1,0,none⟩):=f.1;have hr:=rB.ext he;obtain⟨k0,k1,k2,k3⟩:=hr.p4;go_wp;exact sQ
   ·intro x W he f;have h:x 10=.pointer (some ⟨w.heap.size+1,1,none⟩):=f.1;have hc:=(rB.ext he).cell (j:=1) rfl;go_wp;exact sQ
   ·intro x W he f;have h:x 9=U u1:=f.1;have h2:x 11=U u1:=f.2.1;go_wp;exact sQ
   ·intro x W he f;have h:x 12=.bool true:=f.1;go_wp;exact sQ
   ·intro x W he f;have h:x 2=.pointer (some ⟨w.heap.size,0,none⟩):=f.1;have hg:x 13=.bool true:=f.2.1;have hr:=rA.ext he;obtain⟨k0,k1,k2⟩:=hr.p3;go_wp;exact sQ
   ·intro x W he f;have h:x 14=.pointer (some ⟨w.heap.size,0,none⟩):=f.1;have hg:x 13=.bool true:=f.2.1;have hc:=(rA.ext he).cell (j:=0) rfl;go_wp;exact sQ
   ·intro x W he f;have h:x 3=.pointer (some ⟨w.heap.size+1,0,none⟩):=f.1;have hg:x 13=.bool true:=f.2.1;have hr:=rB.ext he;obtain⟨k0,k1,k2,k3⟩:=hr.p4;go_wp;exact sQ
   ·intro x W he f;have h:x 16=.pointer (some ⟨w.heap.size+1,2,none⟩):=f.1;have hg:x 13=.bool true:=f.2.1;have hc:=(rB.ext he).cell (j:=2) rfl;go_wp;exact sQ
   ·intro x W he f;have h:x 15=.slice A1 sa.length n1:=f.1;have h2:x 17=St o:=f.2.1;have hg:x 13=.bool true:=f.2.2.1;have HC:=zH (zcw o (HS.out.all.ext (by decide) (HX.out.trans he)));rw [HO2.out] at HC;go_wp;refine HC.out.mono ?_;rintro r W2 ⟨rfl,hx2⟩;dsimp only;go_wp;exact zaa (v:=U u2) rfl hx2
   ·intro x W he f;have h:x 3=.pointer (some ⟨w.heap.size+1,0,none⟩):=f.1;have hg:x 13=.bool true:=f.2.1;have hr:=rB.ext he;obtain⟨k0,k1,k2,k3⟩:=hr.p4;go_wp;exact sQ
   ·intro x W he f;have h:x 19=.pointer (some ⟨w.heap.size+1,3,none⟩):=f.1;have hg:x 13=.bool true:=f.2.1;have hc:=(rB.ext he).cell (j:=3) rfl;go_wp;exact sQ
   ·intro x W he f;have h:x 3=.pointer (some ⟨w.heap.size+1,0,none⟩):=f.1;have hg:x 13=.bool true:=f.2.1;have hr:=rB.ext he;obtain⟨k0,k1,k2,k3⟩:=hr.p4;go_wp;exact sQ
   ·intro x W he f;have h:x 21=.pointer (some ⟨w.heap.size+1,1,none⟩):=f.1;have hg:x 13=.bool true:=f.2.1;have hc:=(rB.ext he).cell (j:=1) rfl;go_wp;exact sQ
   ·intro x W he f;have h:x 20=U n:=f.1;have h2:x 22=U u1:=f.2.1;have hg:x 13=.bool true:=f.2.2.1;go_wp;exact sQ
   ·intro x W he f;have h:x 18=U u2:=f.1;have h2:x 23=U (n+u1):=f.2.1;have hz:decide ((n:Int)+(u1:Int)<=(u2:Int))=decide (n+u1<=u2):=(by rw [decide_eq_decide];omega);have hg:x 13=.bool true:=f.2.2.1;go_wp;exact sQ
   ·intro x W he f;have h:x 13=.bool true:=f.1;have h2:x 24=.bool (decide (n+u1<=u2)):=f.2.1;go_wp;exact sQ
  case hend=>intro x W he f;have h25:x 25=.bool (decide (n+u1<=u2)):=f.2.2.2.2.2.2.2.2.2.2.2.2.2.2.2.2.2.2.2.2.1;clear f;simp only [List.length_cons,List.length_nil,Nat.reduceAdd,List.take_succ_cons,List.take_zero,List.filterMap_cons,List.filterMap_nil,List.drop_succ_cons,List.drop_zero,zav,Act.put,List.setIfInBounds_toArray,List.set_cons_succ,List.set_cons_zero,h25];have HXX:=zH (HX.out.trans he);clear he;go_wp2_with fail;go_ret;exact⟨by rw [HQ.out];rfl,HXX.out⟩
 ·have HQ:=zH (show zcx sa (b,c,o,n)=false by rw [HR.out];simp [hc]);have hcb:((u1:Int) == (c:Int))=false:=by simp;omega
  clear HR
  refine zao [fun v _=>v=.pointer (some ⟨w.heap.size,0,none⟩),
   fun v _=>v=.slice A1 sa.length n1,
   fun v _=>v=.pointer (some ⟨w.heap.size+1,0,none⟩),
   fun v _=>v=St b,
   fun v _=>v=U u1,
   fun v _=>v=.pointer (some ⟨w.heap.size+1,1,none⟩),
   fun v _=>v=U c,
   fun v _=>v=.bool false,
   fun v _=>v=.bool false,
   fun _ _=>True,
   fun _ _=>True,
   fun _ _=>True,
   fun _ _=>True,
   fun _ _=>True,
   fun _ _=>True,
   fun _ _=>True,
   fun _ _=>True,
   fun _ _=>True,
   fun _ _=>True,
   fun _ _=>True,
   fun v _=>v=.bool false] rfl (by kernel_rfl) ?hR ?hstep ?hend
  case hR=>simp only [List.mem_cons,List.not_mem_nil,or_false,forall_eq_or_imp,forall_eq];exact⟨kP,kP,kP,kP,kP,kP,kP,kP,kP,kP,kP,kP,kP,kP,kP,kP,kP,kP,kP,kP,kP⟩
  case hstep =>
   simp only [List.length_cons,List.length_nil,Nat.reduceAdd,List.take_succ_cons,List.take_zero,za6,and_true];refine ⟨?_,?_,?_,?_,?_,?_,?_,?_,?_,?_,?_,?_,?_,?_,?_,?_,?_,?_,?_,?_,?_⟩
   ·intro x W he f;have h:x 2=.pointer (some ⟨w.heap.size,0,none⟩):=f.1;have hr:=rA.ext he;obtain⟨k0,k1,k2⟩:=hr.p3;go_wp;exact sQ
   ·intro x W he f;have h:x 5=.pointer (some ⟨w.heap.size,0,none⟩):=f.1;have hc:=(rA.ext he).cell (j:=0) rfl;go_wp;exact sQ
   ·intro x W he f;have h:x 3=.pointer (some ⟨w.heap.size+1,0,none⟩):=f.1;have hr:=rB.ext he;obtain⟨k0,k1,k2,k3⟩:=hr.p4;go_wp;exact sQ
   ·intro x W he f;have h:x 7=.pointer (some ⟨w.heap.size+1,0,none⟩):=f.1;have hc:=(rB.ext he).cell (j:=0) rfl;go_wp;exact sQ
   ·intro x W he f;have h:x 6=.slice A1 sa.length n1:=f.1;have h2:x 8=St b:=f.2.1;have HC:=zH (zcw b (HS.out.all.ext (by decide) (HX.out.trans he)));rw [HO1.out] at HC;go_wp;refine HC.out.mono ?_;rintro r W2 ⟨rfl,hx2⟩;dsimp only;go_wp;exact zaa (v:=U u1) rfl hx2
   ·intro x W he f;have h:x 3=.pointer (some ⟨w.heap.size+1,0,none⟩):=f.1;have hr:=rB.ext he;obtain⟨k0,k1,k2,k3⟩:=hr.p4;go_wp;exact sQ
   ·intro x W he f;have h:x 10=.pointer (some ⟨w.heap.size+1,1,none⟩):=f.1;have hc:=(rB.ext he).cell (j:=1) rfl;go_wp;exact sQ
   ·intro x W he f;have h:x 9=U u1:=f.1;have h2:x 11=U c:=f.2.1;go_wp;exact sQ
   ·intro x W he f;have h:x 12=.bool false:=f.1;go_wp;exact sQ
   ·intro x W he f;have hg:x 13=.bool false:=f.2.1;go_wp;exact zaa trivial (Ext.refl _)
   ·intro x W he f;have hg:x 13=.bool false:=f.2.1;go_wp;exact zaa trivial (Ext.refl _)
   ·intro x W he f;have hg:x 13=.bool false:=f.2.1;go_wp;exact zaa trivial (Ext.refl _)
   ·intro x W he f;have hg:x 13=.bool false:=f.2.1;go_wp;exact zaa trivial (Ext.refl _)
   ·intro x W he f;have hg:x 13=.bool false:=f.2.2.1;go_wp;exact zaa trivial (Ext.refl _)
   ·intro x W he f;have hg:x 13=.bool false:=f.2.1;go_wp;exact zaa trivial (Ext.refl _)
   ·intro x W he f;have hg:x 13=.bool false:=f.2.1;go_wp;exact zaa trivial (Ext.refl _)
   ·intro x W he f;have hg:x 13=.bool false:=f.2.1;go_wp;exact zaa trivial (Ext.refl _)
   ·intro x W he f;have hg:x 13=.bool false:=f.2.1;go_wp;exact zaa trivial (Ext.refl _)
   ·intro x W he f;have hg:x 13=.bool false:=f.2.2.1;go_wp;exact zaa trivial (Ext.refl _)
   ·intro x W he f;have hg:x 13=.bool false:=f.2.2.1;go_wp;exact zaa trivial (Ext.refl _)
   ·intro x W he f;have h:x 13=.bool false:=f.1;go_wp;exact sQ
  case hend=>intro x W he f;have h25:x 25=.bool false:=f.2.2.2.2.2.2.2.2.2.2.2.2.2.2.2.2.2.2.2.2.1;clear f;simp only [List.length_cons,List.length_nil,Nat.reduceAdd,List.take_succ_cons,List.take_zero,List.filterMap_cons,List.filterMap_nil,List.drop_succ_cons,List.drop_zero,zav,Act.put,List.setIfInBounds_toArray,List.set_cons_succ,List.set_cons_zero,h25];have HXX:=zH (HX.out.trans he);clear he;go_wp2_with fail;go_ret;exact⟨by rw [HQ.out];rfl,HXX.out⟩
end
section
open Go.RowKit
structure Ev where
 key:Str
 n:Int
 op:Nat
 tx:Str
 kn:List Bool
 path:Str
 num:Nat
abbrev Vec:=Str->Nat
theorem zda (it:Item) (r:List Item):zac (it :: r)=it.2.map (fun d=>(it.1,d))++zac r:=rfl
theorem zqg {l:List Item} {q:zan} (h:q ∈ zac l):∃ it ∈ l,q.1=it.1/\q.2 ∈ it.2:=by
 obtain⟨it,hit,h⟩:=List.mem_flatMap.1 h;obtain⟨d,hd,he⟩:=List.mem_map.1 h;exact⟨it,hit,by rw [<- he],by rw [<- he];exact hd⟩
theorem zu5 (s:Str) {a b:Dot} (h:ltOf cmpD a b=true):ltOf cmpP (s,a) (s,b)=true:=cmpP_lt.2 (Or.inr (And.intro (Eq.refl s) h))
theorem zjt {l:List Item} (h1:l.Pairwise fun a b=>ltS a.1 b.1=true) (h2:∀ it ∈ l,it.2.Pairwise fun a b=>ltOf cmpD a b=true):(zac l).Pairwise fun a b=>ltOf cmpP a b=true:=by
 induction l with
 | nil=>exact .nil
 | cons it r ih =>
  obtain⟨g1,g2⟩:=List.pairwise_cons.1 h1;rw [zda];refine List.pairwise_append.2 ⟨?_,ih g2 fun x hx=>h2 x (List.mem_cons_of_mem _ hx),fun a ha b hb=>?_⟩
  ·rw [List.pairwise_map];refine List.Pairwise.imp (fun {a b} hd=>?_) (h2 it List.mem_cons_self);exact zu5 it.1 hd
  ·obtain⟨d,-,he⟩:=List.mem_map.1 ha;obtain⟨x,hx,hb1,-⟩:=zqg hb;refine cmpP_lt.2 (.inl ?_);rw [<- he,hb1];exact g1 x hx
theorem zks {l:List Item} (h1:l.Pairwise fun a b=>ltS a.1 b.1=true) (h2:∀ it ∈ l,it.2 ≠ []/\it.2.Pairwise fun a b=>ltOf cmpD a b=true):zbc (zac l)=l:=by
 have hp:=zjt h1 fun it hit=>(h2 it hit).2
 have hs:zb7 (ltOf cmpP) (zac l)=zac l:=by refine zdf zhl (zbh _) (zcn zfz _) (hp.imp fun {a b} hab=>zce fun hba=>?_);have hk:=zlm _ _ _ hab hba;rw [zhx] at hk;cases hk
 unfold zbc;rw [hs];have hg:=zf6 _ hp;have hpl:=zee (zac l);generalize zdo (zac l)=m at *;obtain⟨g1,g2⟩:=hg;have h2':∀ it ∈ l,it.2 ≠ []:=fun it hit=>(h2 it hit).1
 have g2':∀ it ∈ m,it.2 ≠ []:=fun it hit=>(g2 it hit).1
 clear h2 g2 hs hp
 have first:∀ {l:List Item},(l.Pairwise fun a b=>ltS a.1 b.1=true)->∀ {it:Item},it ∈ l->∀ d,(it.1,d) ∈ zac l↔d ∈ it.2:=by
  intro l hl it hit d;refine ⟨fun h=>?_,fun h=>zfg hit h⟩;obtain⟨x,hx,hm⟩:=List.mem_flatMap.1 h;obtain⟨d',hd',he⟩:=List.mem_map.1 hm;injection he with e1 e2
  subst e2
  have:x=it:=by
   clear h hm hd'
   induction l with
   | nil=>cases hx
   | cons y r ih =>
    obtain⟨k1,k2⟩:=List.pairwise_cons.1 hl;rcases List.mem_cons.1 hx with rfl | hx'
    ·rcases List.mem_cons.1 hit with rfl | hi'
     ·rfl
     ·exact absurd e1 (zch (k1 it hi'))
    ·rcases List.mem_cons.1 hit with rfl | hi'
     ·exact absurd e1.symm (zch (k1 x hx'))
     ·exact ih k2 hi' hx'
  rw [<- this];exact hd'
 clear first
 induction l generalizing m with
 | nil =>
  cases m with
  | nil=>rfl
  | cons it r =>
   cases hd:it.2 with
   | nil=>exact absurd hd (g2' it (by simp))
   | cons d ds=>simp [zac,hd] at hpl
 | cons it r ih =>
  cases m with
  | nil =>
   cases hd:it.2 with
   | nil=>exact absurd hd (h2' it (by simp))
   | cons d ds=>simp [zac,hd] at hpl
  | cons jt s =>
   obtain⟨k1,k2⟩:=List.pairwise_cons.1 h1;obtain⟨k3,k4⟩:=List.pairwise_cons.1 g1
   have cut:∀ (t:Str) (ds es:List Dot) (a b:List zan),(∀ p ∈ a,p.1 ≠ t)->(∀ p ∈ b,p.1 ≠ t)->ds.map (fun d=>(t,d))++a=es.map (fun d=>(t,d))++b->ds=es/\a=b:=by
    intro t ds
    induction ds with
    | nil =>
     intro es a b ha hb h
     cases es with
     | nil=>exact⟨rfl,h⟩
     | cons e es=>simp only [List.map_nil,List.nil_append,List.map_cons,List.cons_append] at h;exact absurd rfl (ha (t,e) (by rw [h];simp))
    | cons d ds ihd =>
     intro es a b ha hb h
     cases es with
     | nil=>simp only [List.map_nil,List.nil_append,List.map_cons,List.cons_append] at h;exact absurd rfl (hb (t,d) (by rw [<- h];simp))
     | cons e es=>simp only [List.map_cons,List.cons_append,List.cons.injEq,Prod.mk.injEq,true_and] at h;obtain⟨r1,r2⟩:=ihd es a b ha hb h.2;exact⟨by rw [h.1,r1],r2⟩
   have hpl':jt.2.map (fun d=>(jt.1,d))++zac s=it.2.map (fun d=>(it.1,d))++zac r:=by simpa [zac] using hpl
   have ht:jt.1=it.1:=by
    cases hd:jt.2 with
    | nil=>exact absurd hd (g2' jt (by simp))
    | cons d ds =>
     cases he:it.2 with
     | nil=>exact absurd he (h2' it (by simp))
     | cons e es=>rw [hd,he] at hpl';simp only [List.map_cons,List.cons_append,List.cons.injEq,Prod.mk.injEq] at hpl';exact hpl'.1.1
   have ne:∀ {l:List Item} {t:Str},(∀ x ∈ l,ltS t x.1=true)->∀ p ∈ zac l,p.1 ≠ t:=by intro l t hl p hp;obtain⟨x,hx,hm⟩:=List.mem_flatMap.1 hp;obtain⟨d',-,rfl⟩:=List.mem_map.1 hm;exact (zch (hl x hx)).symm
   rw [ht] at hpl';obtain⟨r1,r2⟩:=cut it.1 _ _ _ _ (ne (ht ▸ k3)) (ne k1) hpl';have:=ih k2 s r2 k4 (fun x hx=>h2' x (List.mem_cons_of_mem _ hx)) (fun x hx=>g2' x (List.mem_cons_of_mem _ hx));rw [this]
   congr 1
   exact Prod.ext ht r1
theorem itemsL_places {ks:List zan} {q:zan}:q ∈ zac (zbc ks)↔q ∈ ks:=by
 unfold zbc;rw [zee,(zbh ks).mem_iff]
end
section
open Go.RowKit
end
section
def insD (d:Dot):Bool->List Dot->List Dot
 | dn,[]=>if dn then [] else [d]
 | dn,x :: r=>if dn=false/\cmpD d x < 0 then d :: x :: insD d true r else x :: insD d dn r
def putD (l:List Dot) (d:Dot):List Dot:=if d ∈ l then l else insD d false l
def zcg (t:Str) (d:Dot):Bool->List Item->List Item
 | dn,[]=>if dn then [] else [(t,[d])]
 | dn,x :: r=>if x.1=t then (x.1,putD x.2 d) :: zcg t d true r else if dn=false/\ltS t x.1=true then (t,[d]) :: x :: zcg t d true r else x :: zcg t d dn r
theorem zgg (d x:Dot) (dn:Bool) (r:List Dot):insD d dn (x :: r)=if dn=false/\cmpD d x < 0 then d :: x :: insD d true r else x :: insD d dn r:=rfl
theorem zgv (t:Str) (d:Dot) (x:Item) (dn:Bool) (r:List Item):zcg t d dn (x :: r)=if x.1=t then (x.1,putD x.2 d) :: zcg t d true r else if dn=false/\ltS t x.1=true then (t,[d]) :: x :: zcg t d true r else x :: zcg t d dn r:=rfl
def insQ (o:List Item) (q:zan):List Item:=zcg q.1 q.2 false o
theorem zu6 {a b:Dot}:cmpD a b=0↔a=b:=by
 unfold cmpD orI
 constructor
 ·intro h
  split at h
  ·rename_i h1;exact absurd h h1
  ·rename_i h1;have h2:cmpS a.1 b.1=0:=Classical.byContradiction h1;exact Prod.ext (cmpS_eq.1 h2) (cmpN_eq.1 h)
 ·rintro rfl;rw [cmpS_eq.2 rfl,cmpN_eq.2 rfl];rfl
theorem ltOf_cmpD {a b:Dot}:ltOf cmpD a b=true↔cmpD a b < 0:=by simp [ltOf]
theorem zhv (d:Dot):∀ l:List Dot,insD d true l=l
 | []=>rfl
 | x :: r=>by rw [zgg,if_neg (by simp),zhv d r]
theorem zox (d:Dot):∀ (l:List Dot),(insD d false l).length=l.length+1
 | []=>rfl
 | x :: r=>by
  rw [zgg]
  split
  ·simp [zhv]
  ·simp [zox d r]
theorem zlf (d x:Dot):∀ l:List Dot,x ∈ insD d false l↔x=d ∨ x ∈ l
 | []=>by simp [insD]
 | y :: r=>by
  rw [zgg]
  split
  ·rw [zhv];simp
  ·rw [List.mem_cons,zlf d x r,List.mem_cons]
   constructor
   ·rintro (h | h | h) <;> simp [h]
   ·rintro (h | h | h) <;> simp [h]
theorem zoy (l:List Dot) (d x:Dot):x ∈ putD l d↔x=d ∨ x ∈ l:=by
 unfold putD
 split
 ·constructor
  ·exact .inr
  ·rintro (rfl | h)
   ·assumption
   ·exact h
 ·exact zlf d x l
theorem zxx (l:List Dot) (d:Dot):putD l d ≠ []:=fun h=>by
 have:=(zoy l d d).2 (.inl rfl);rw [h] at this;cases this
theorem zm9 (d:Dot):∀ l:List Dot,d ∉ l->(l.Pairwise fun a b=>ltOf cmpD a b=true)->(insD d false l).Pairwise fun a b=>ltOf cmpD a b=true
 | [],_,_=>by simp [insD]
 | y :: r,hd,h=>by
  obtain⟨h1,h2⟩:=List.pairwise_cons.1 h;rw [zgg]
  split
  ·rename_i hc;rw [zhv];have hc':=ltOf_cmpD.2 hc.2;refine List.pairwise_cons.2 ⟨fun x hx=>?_,h⟩;rcases List.mem_cons.1 hx with rfl | hx
   ·exact hc'
   ·exact zih _ _ _ hc' (h1 x hx)
  ·rename_i hc;have hn:¬ d=y:=fun e=>hd (by simp [e])
   refine List.pairwise_cons.2 ⟨fun x hx=>?_,zm9 d r (fun k=>hd (by simp [k])) h2⟩;rcases (zlf d x r).1 hx with rfl | hx
   ·rcases zoi y x with k | k | k
    ·exact k
    ·exact absurd k.symm hn
    ·exact absurd ⟨rfl,ltOf_cmpD.1 k⟩ hc
   ·exact h1 x hx
theorem zu7 {l:List Dot} (d:Dot) (h:l.Pairwise fun a b=>ltOf cmpD a b=true):(putD l d).Pairwise fun a b=>ltOf cmpD a b=true:=by
 unfold putD
 split
 ·exact h
 ·exact zm9 d l (by assumption) h
def RiseB (l:List Item):Prop:=(l.Pairwise fun a b=>ltS a.1 b.1=true)/\∀ it ∈ l,it.2 ≠ []/\it.2.Pairwise fun a b=>ltOf cmpD a b=true
theorem zna:RiseB []:=⟨.nil,by simp⟩
theorem GoodB.rise {l:List Item} (h:GoodB l):RiseB l:=⟨h.1,fun it hit=>(h.2.1 it hit).2⟩
theorem RiseB.nodup {l:List Item} (h:RiseB l):(zac l).Nodup:=(zjt h.1 fun it hit=>(h.2 it hit).2).imp fun {a b} hab e=>by subst e;rw [zhx] at hab;cases hab
theorem RiseB.ext {a b:List Item} (ha:RiseB a) (hb:RiseB b) (h:∀ q,q ∈ zac a↔q ∈ zac b):a=b:=by
 rw [<- zks ha.1 ha.2,<- zks hb.1 hb.2];exact zf3 (zc3 ha.nodup hb.nodup h)
theorem zsq {ks:List zan} (h:ks.Nodup):RiseB (zbc ks):=zf6 _ (zh0 h)
theorem ziz (t:Str) (d:Dot):∀ l:List Item,(∀ x ∈ l,x.1 ≠ t)->zcg t d true l=l
 | [],_=>rfl
 | x :: r,h=>by rw [zgv,if_neg (h x (by simp)),if_neg (by simp),ziz t d r fun y hy=>h y (by simp [hy])]
theorem zl1 (t:Str) (d:Dot):∀ (l:List Item) (dn:Bool),∀ y ∈ zcg t d dn l,y.1=t ∨ ∃ x ∈ l,x.1=y.1
 | [],dn,y,hy=>by
  unfold zcg at hy
  split at hy
  ·cases hy
  ·rw [List.mem_singleton.1 hy];exact .inl rfl
 | x :: r,dn,y,hy=>by
  rw [zgv] at hy;have ih:=zl1 t d r
  split at hy
  ·rename_i h;rcases List.mem_cons.1 hy with rfl | hy
   ·exact .inl h
   ·rcases ih true y hy with h1 | ⟨z,hz,h1⟩
    ·exact .inl h1
    ·exact .inr ⟨z,by simp [hz],h1⟩
  ·split at hy
   ·rcases List.mem_cons.1 hy with rfl | hy
    ·exact .inl rfl
    ·rcases List.mem_cons.1 hy with rfl | hy
     ·exact .inr ⟨y,by simp,rfl⟩
     ·rcases ih true y hy with h1 | ⟨z,hz,h1⟩
      ·exact .inl h1
      ·exact .inr ⟨z,by simp [hz],h1⟩
   ·rcases List.mem_cons.1 hy with rfl | hy
    ·exact .inr ⟨y,by simp,rfl⟩
    ·rcases ih dn y hy with h1 | ⟨z,hz,h1⟩
     ·exact .inl h1
     ·exact .inr ⟨z,by simp [hz],h1⟩
theorem zsr (t:Str) (ds:List Dot) (d:Dot) (q:zan):q ∈ (putD ds d).map (fun x=>(t,x))↔q=(t,d) ∨ q ∈ ds.map (fun x=>(t,x)):=by
 simp only [List.mem_map,zoy]
 constructor
 ·rintro⟨x,rfl | hx,rfl⟩
  ·exact .inl rfl
  ·exact .inr ⟨x,hx,rfl⟩
 ·rintro (rfl | ⟨x,hx,rfl⟩)
  ·exact⟨d,.inl rfl,rfl⟩
  ·exact⟨x,.inr hx,rfl⟩
theorem zkt (t:Str) (d:Dot):∀ l:List Item,RiseB l->RiseB (zcg t d false l)/\∀ q,q ∈ zac (zcg t d false l)↔q=(t,d) ∨ q ∈ zac l
 | [],_=>⟨⟨by simp [zcg],by simp [zcg]⟩,fun q=>by simp [zcg,zac]⟩
 | x :: r,h=>by
  obtain⟨h1,h2⟩:=List.pairwise_cons.1 h.1;have hx:=h.2 x (by simp);have hr:RiseB r:=⟨h2,fun it hit=>h.2 it (by simp [hit])⟩
  rw [zgv]
  by_cases he:x.1=t
  ·have hd:=ziz t d r fun y hy e=>absurd (he.trans e.symm) (zch (h1 y hy))
   rw [if_pos he,hd];refine ⟨⟨List.pairwise_cons.2 ⟨h1,h2⟩,fun it hit=>?_⟩,fun q=>?_⟩
   ·rcases List.mem_cons.1 hit with rfl | hit
    ·exact⟨zxx _ _,zu7 d hx.2⟩
    ·exact hr.2 it hit
   ·rw [zda,zda,List.mem_append,List.mem_append,zsr,he,or_assoc]
  ·rw [if_neg he]
   by_cases hc:false=false/\ltS t x.1=true
   ·have hd:=ziz t d r fun y hy e=>absurd e.symm (zch (zaw hc.2 (h1 y hy)))
    rw [if_pos hc,hd];refine ⟨⟨List.pairwise_cons.2 ⟨fun y hy=>?_,h.1⟩,fun it hit=>?_⟩,fun q=>?_⟩
    ·rcases List.mem_cons.1 hy with rfl | hy
     ·exact hc.2
     ·exact zaw hc.2 (h1 y hy)
    ·rcases List.mem_cons.1 hit with rfl | hit
     ·exact⟨by simp,by simp⟩
     ·exact h.2 it hit
    ·rw [zda];simp
   ·rw [if_neg hc];obtain⟨g1,g2⟩:=zkt t d r hr;refine ⟨⟨List.pairwise_cons.2 ⟨fun y hy=>?_,g1.1⟩,fun it hit=>?_⟩,fun q=>?_⟩
    ·rcases zl1 t d r false y hy with e | ⟨z,hz,e⟩
     ·rw [e];rcases zb4 x.1 t with k | k | k
      ·exact k
      ·exact absurd k he
      ·exact absurd ⟨rfl,k⟩ hc
     ·rw [<- e];exact h1 z hz
    ·rcases List.mem_cons.1 hit with rfl | hit
     ·exact hx
     ·exact g1.2 it hit
    ·rw [zda,zda,List.mem_append,List.mem_append,g2]
     constructor
     ·rintro (k | k | k) <;> simp [k]
     ·rintro (k | k | k) <;> simp [k]
theorem zoz (qs:List zan):∀ o:List Item,RiseB o->RiseB (qs.foldl insQ o)/\∀ q,q ∈ zac (qs.foldl insQ o)↔q ∈ qs ∨ q ∈ zac o:=by
 induction qs with
 | nil=>intro o h;exact⟨h,fun q=>by simp⟩
 | cons p r ih =>
  intro o h;obtain⟨g1,g2⟩:=zkt p.1 p.2 o h;obtain⟨k1,k2⟩:=ih (insQ o p) g1;refine ⟨k1,fun q=>?_⟩;rw [List.foldl_cons,k2,show (q ∈ zac (insQ o p)↔_) from g2 q,List.mem_cons]
  constructor
  ·rintro (h | h | h) <;> simp [h]
  ·rintro ((h | h) | h) <;> simp [h]
theorem RiseB.clean {l:List Item} (h:RiseB l):(zac l).foldl insQ []=l:=by
 obtain⟨g1,g2⟩:=zoz (zac l) [] zna;exact RiseB.ext g1 h fun q=>by rw [g2];simp [zac]
end
section
def zdj (l:List Entry) (k:Str) (e:Entry):List Entry:=(l.filter fun x=>ltS x.key k)++e :: (l.filter fun x=>ltS k x.key)
theorem zh2 {α:Type} {P:α->Bool} {l:List α} {i:Nat} (h1:∀ j x,j < i->l[j]? = some x->P x=true) (h2:∀ j x,i<=j->l[j]? = some x->P x=false):l.filter P=l.take i:=by
 conv=>lhs;rw [<- List.take_append_drop i l]
 rw [List.filter_append]
 have a:(l.take i).filter P=l.take i:=List.filter_eq_self.2 fun x hx=>by
  obtain⟨j,hj⟩:=List.getElem?_of_mem hx;have hji:j < i:=by have:=(List.getElem?_eq_some_iff.1 hj).1;simp at this;omega
  rw [List.getElem?_take_of_lt hji] at hj;exact h1 j x hji hj
 have b:(l.drop i).filter P = []:=List.filter_eq_nil_iff.2 fun x hx=>by obtain⟨j,hj⟩:=List.getElem?_of_mem hx;rw [List.getElem?_drop] at hj;simp [h2 (i+j) x (by omega) hj]
 rw [a,b,List.append_nil]
theorem zh3 {α:Type} {P:α->Bool} {l:List α} {i:Nat} (h1:∀ j x,j < i->l[j]? = some x->P x=false) (h2:∀ j x,i<=j->l[j]? = some x->P x=true):l.filter P=l.drop i:=by
 conv=>lhs;rw [<- List.take_append_drop i l]
 rw [List.filter_append]
 have a:(l.take i).filter P = []:=List.filter_eq_nil_iff.2 fun x hx=>by
  obtain⟨j,hj⟩:=List.getElem?_of_mem hx;have hji:j < i:=by have:=(List.getElem?_eq_some_iff.1 hj).1;simp at this;omega
  rw [List.getElem?_take_of_lt hji] at hj;simp [h1 j x hji hj]
 have b:(l.drop i).filter P=l.drop i:=List.filter_eq_self.2 fun x hx=>by obtain⟨j,hj⟩:=List.getElem?_of_mem hx;rw [List.getElem?_drop] at hj;exact h2 (i+j) x (by omega) hj
 rw [a,b,List.nil_append]
theorem zu8 {l : List Entry} {k : Str} {i : Nat} {is : Bool} {m e : Entry} (hR : RiseS (l.map (·.key))) (hF : Found (l.map (·.key)) k i is) (hf : za4 l k = some m) : i < l.length /\ l.set i e = zdj l k e := by
 have hk := zm2 hf
 obtain ⟨h, hh⟩ := List.getElem?_of_mem (zhs hf)
 have hx : (l.map (·.key))[h]? = some k := by rw [List.getElem?_map, hh]; simp [hk]
 have hi : h = i := by
   rcases Nat.lt_trichotomy h i with h1 | h1 | h1
   · have := hF.2.1.1 h k h1 hx; rw [zal] at this; cases this
   · exact h1
   · have hil : i < (l.map (·.key)).length := Nat.lt_trans h1 (List.getElem?_eq_some_iff.1 hx).1
     have hxi : (l.map (·.key))[i]? = some (l.map (·.key))[i] := List.getElem?_eq_getElem hil
     have h2 := hF.2.1.2 i _ (Nat.le_refl _) hxi
     rw [hR.lt h1 hxi hx] at h2
     cases h2
 subst hi
 have hil := (List.getElem?_eq_some_iff.1 hh).1
 have key : ∀ {j : Nat} {x : Entry}, l[j]? = some x -> (l.map (·.key))[j]? = some x.key := fun h => by rw [List.getElem?_map, h]; rfl
 refine ⟨hil, ?_⟩
 unfold zdj
 rw [zh2 (i := h) (fun j x hj hx' => hR.lt hj (key hx') hx) (fun j x hj hx' => by
     rcases Nat.eq_or_lt_of_le hj with rfl | h1
     · have := Option.some.inj (hx.symm.trans (key hx'))
       rw [<- this]; exact zal _
     · exact zcd (hR.lt h1 hx (key hx'))),
   zh3 (i := h + 1) (fun j x hj hx' => by
     rcases Nat.eq_or_lt_of_le (Nat.le_of_lt_succ hj) with rfl | h1
     · have := Option.some.inj (hx.symm.trans (key hx'))
       rw [<- this]; exact zal _
     · exact zcd (hR.lt h1 (key hx') hx)) (fun j x hj hx' => hR.lt (by omega) hx (key hx')),
   List.set_eq_take_append_cons_drop, if_pos hil]
theorem zxy {l:List Entry} {k:Str} {i:Nat} {is:Bool} {e:Entry} (hR:RiseS (l.map (·.key))) (hF:Found (l.map (·.key)) k i is) (hf:za4 l k=none):i<=l.length/\l.take i++e :: l.drop i=zdj l k e:=by
 have hno:∀ x ∈ l,x.key ≠ k:=fun x hx he=>by have:=List.find?_eq_none.1 hf x hx;simp [he] at this
 have key:∀ {j:Nat} {x:Entry},l[j]? = some x->(l.map (·.key))[j]? = some x.key:=fun h=>by rw [List.getElem?_map,h];rfl
 have gt:∀ (j:Nat) (x:Entry),i<=j->l[j]? = some x->ltS k x.key=true:=fun j x hj hx=>by
  rcases zb4 k x.key with h | h | h
  ·exact h
  ·exact absurd h.symm (hno x (List.mem_of_getElem? hx))
  ·rw [hF.2.1.2 j _ hj (key hx)] at h;cases h
 refine ⟨by have:=hF.1;simpa using this,?_⟩;unfold zdj;rw [zh2 (i:=i) (fun j x hj hx=>hF.2.1.1 j _ hj (key hx)) (fun j x hj hx=>hF.2.1.2 j _ hj (key hx)),zh3 (i:=i) (fun j x hj hx=>zcd (hF.2.1.1 j _ hj (key hx))) gt]
structure MayS (s:State):Prop where
 all:mayM s.all=true
 each:∀ e ∈ s.entries,mayE e=true/\zbf s.all e.seen=true
 rise:RiseS (s.entries.map (·.key))
 pruned:∀ p ∈ s.pruned,p ≠ []/\ofM s.all p=0
 risep:RiseS s.pruned
theorem znb (all:List Mark):∀ (l:List Entry) (prev:Option Str),zdd all prev l=true↔(∀ e ∈ l,mayE e=true/\zbf all e.seen=true)/\RiseS (l.map (·.key))/\∀ k,prev=some k->∀ e ∈ l,ltS k e.key=true
 | [],prev=>by simp [zdd,RiseS]
 | e :: r,prev=>by
  have ih:=znb all r (some e.key);unfold RiseS at ih ⊢;simp only [zdd,Bool.and_eq_true,ih,List.map_cons,List.pairwise_cons,List.mem_cons,forall_eq_or_imp,List.mem_map,forall_exists_index,and_imp,forall_apply_eq_imp_iff₂,Option.some.injEq,forall_eq']
  constructor
  ·rintro⟨h1,h2,h3,h4,h5,h6⟩;refine ⟨⟨⟨h1,h3⟩,h4⟩,⟨h6,h5⟩,fun k hk=>?_⟩;subst hk;exact⟨h2,fun x hx=>zaw h2 (h6 x hx)⟩
  ·rintro⟨⟨⟨h1,h3⟩,h4⟩,⟨h6,h5⟩,h7⟩;refine ⟨h1,?_,h3,h4,h5,h6⟩
   cases prev with
   | none=>rfl
   | some k=>exact (h7 k rfl).1
theorem znc (all:List Mark):∀ (l:List Str) (prev:Option Str),zcr all prev l=true↔(∀ p ∈ l,p ≠ []/\ofM all p=0)/\RiseS l/\∀ k,prev=some k->∀ p ∈ l,ltS k p=true
 | [],prev=>by simp [zcr,RiseS]
 | p :: r,prev=>by
  have ih:=znc all r (some p);have hpe:(!p.isEmpty)=true↔p ≠ []:=by cases p <;> simp
  unfold RiseS at ih ⊢;simp only [zcr,Bool.and_eq_true,ih,hpe,decide_eq_true_eq,List.pairwise_cons,List.mem_cons,forall_eq_or_imp,Option.some.injEq,forall_eq']
  constructor
  ·rintro⟨h1,h2,h3,h4,h5,h6⟩;refine ⟨⟨⟨h1,h3⟩,h4⟩,⟨h6,h5⟩,fun k hk=>?_⟩;subst hk;exact⟨h2,fun x hx=>zaw h2 (h6 x hx)⟩
  ·rintro⟨⟨⟨h1,h3⟩,h4⟩,⟨h6,h5⟩,h7⟩;refine ⟨h1,?_,h3,h4,h5,h6⟩
   cases prev with
   | none=>rfl
   | some k=>exact (h7 k rfl).1
theorem mayS_iff {s:State}:mayS s=true↔MayS s:=by
 unfold mayS;simp only [Bool.and_eq_true,znb,znc]
 constructor
 ·rintro⟨h1,⟨h2,h3,-⟩,h4,h5,-⟩;exact⟨h1,h2,h3,h4,h5⟩
 ·rintro⟨h1,h2,h3,h4,h5⟩;exact⟨h1,⟨h2,h3,by simp⟩,h4,h5,by simp⟩
def updS (s:State) (p:Str) (o:OpD):State × Nat :=
 if p = [] ∨ mayS s=false then (za3,2) else if 281474976710656<=ofM s.all p then (za3,9) else if za4 s.entries o.2.1=none/\256<=s.entries.length then (za3,6) else
 if (updE ((za4 s.entries o.2.1).getD zam) o (p,ofM s.all p+1)).2=0 then (⟨setM s.all p (ofM s.all p+1),zdj s.entries o.2.1 (updE ((za4 s.entries o.2.1).getD zam) o (p,ofM s.all p+1)).1,s.pruned⟩,0)
 else (za3,(updE ((za4 s.entries o.2.1).getD zam) o (p,ofM s.all p+1)).2)
end
section
theorem zu9 {l:List Entry} (hR:RiseS (l.map (·.key))) {a b:Entry} (ha:a ∈ l) (hb:b ∈ l) (e:a.key=b.key):a=b:=by
 unfold RiseS at hR;rw [List.pairwise_map] at hR
 induction l with
 | nil=>cases ha
 | cons x r ih =>
  obtain⟨h1,h2⟩:=List.pairwise_cons.1 hR;rcases List.mem_cons.1 ha with e1 | ha'
  ·rcases List.mem_cons.1 hb with e2 | hb'
   ·rw [e1,e2]
   ·rw [e1] at e;exact absurd e (zch (h1 b hb'))
  ·rcases List.mem_cons.1 hb with e2 | hb'
   ·rw [e2] at e;exact absurd e.symm (zch (h1 a ha'))
   ·exact ih h2 ha' hb'
theorem zo0 {l:List Entry} (hR:RiseS (l.map (·.key))) {x:Entry} (hx:x ∈ l):za4 l x.key=some x:=by
 cases h:za4 l x.key with
 | none=>unfold za4 at h;have:=List.find?_eq_none.1 h x hx;simp at this
 | some y=>rw [zu9 hR (zhs h) hx (zm2 h)]
end
section
end
section
open Go.RowKit
theorem zo1 {a b:List Str} (ha:RiseS a) (hb:RiseS b) (h:∀ k,k ∈ a↔k ∈ b):a=b:=by
 unfold RiseS at ha hb;have nd:∀ {l:List Str},l.Pairwise (fun a b=>ltS a b=true)->l.Nodup:=fun hl=>hl.imp fun {a b} hab e=>by subst e;rw [zal] at hab;cases hab
 exact List.Perm.eq_of_pairwise (le:=fun a b=>ltS a b=true) (fun x y _ _ h1 h2=>by rw [zcd h1] at h2;cases h2) ha hb (zc3 (nd ha) (nd hb) h)
end
section
open Go.RowKit
end
section
open Go.RowKit
def zj9 (l:List zab):Int:=((za0 l).map fun p=>(p.2:Int) - ((getL (0:Nat) (za2 l) p.1:Nat):Int)).sum
theorem zw4 (L Lm:List (Str × Nat)):∀ t:Nat,((L.foldl (zgy Lm) t:Nat):Int) % 18446744073709551616=((t:Int)+(L.map fun p=>(p.2:Int) - ((getL (0:Nat) Lm p.1:Nat):Int)).sum) % 18446744073709551616:=by
 induction L with
 | nil=>intro t;simp
 | cons p r ih=>intro t;rw [List.foldl_cons,ih,List.map_cons,List.sum_cons];unfold zgy addU subU;omega
theorem znv {L:List (Str × Nat)} (hn:(L.map Prod.fst).Nodup) {p:Str × Nat} (hp:p ∈ L):getL 0 L p.1=p.2:=by
 induction L with
 | nil=>cases hp
 | cons q r ih =>
  obtain⟨a,b⟩:=q;rw [zu3];simp only [List.map_cons,List.nodup_cons] at hn;rcases List.mem_cons.1 hp with he | hp'
  ·rw [he];simp
  ·rw [if_neg fun e:p.1=a=>hn.1 (e ▸ List.mem_map.2 ⟨p,hp',rfl⟩)];exact ih hn.2 hp'
end
section
open Go.RowKit
section
variable {E:List Ev} {V:Vec} {k:Str} {n:Int} {o:Nat} {tx p:Str}
end
end
section
open Go.RowKit
end
section
open Go.RowKit
theorem zi0 {l:List Item} {t:Str}:t ∈ zbg l↔∃ q ∈ zac l,q.1=t:=by
 unfold zbg
 constructor
 ·intro h;obtain⟨it,hit,rfl⟩:=List.mem_map.1 h;have hr:=zf6 (zb7 (ltOf cmpP) (setL (zac l))) (zh0 (zcz _));obtain⟨hne,-⟩:=hr.2 it hit
  cases hd:it.2 with
  | nil=>exact absurd hd hne
  | cons d ds=>have:=zfg hit (d:=d) (by rw [hd];simp);have h2:=itemsL_places.1 this;rw [mem_setL] at h2;exact⟨_,h2,rfl⟩
 ·rintro⟨q,hq,rfl⟩;have:q ∈ zac (zbc (setL (zac l))):=by rw [itemsL_places,mem_setL];exact hq
  obtain⟨it,hit,hm⟩:=List.mem_flatMap.1 this;obtain⟨d,-,rfl⟩:=List.mem_map.1 hm;exact List.mem_map.2 ⟨it,hit,rfl⟩
theorem zh4 (l:List Item):RiseS (zbg l):=by
 unfold zbg RiseS;rw [List.pairwise_map];exact (zf6 (zb7 (ltOf cmpP) (setL (zac l))) (zh0 (zcz _))).1
end
section
open Go.RowKit
theorem zss {κ ν:Type} [DecidableEq κ] (L:List (κ × ν)) (k s:κ):(delL L k).lookup s=if s=k then none else L.lookup s:=by
 induction L with
 | nil=>simp [delL]
 | cons p r ih =>
  obtain⟨a,v⟩:=p;unfold delL at ih ⊢
  by_cases ha:a=k
  ·subst ha;rw [List.filter_cons_of_neg (by simp),ih,List.lookup_cons]
   by_cases hs:s=a
   ·simp [hs]
   ·rw [if_neg hs,if_neg hs,zgf hs]
  ·rw [List.filter_cons_of_pos (by simpa using ha),List.lookup_cons,List.lookup_cons,ih]
   by_cases hs:s=a
   ·subst hs;rw [if_neg ha];simp [ha]
   ·rw [zgf hs]
theorem zw5 {κ ν:Type} [DecidableEq κ] (z:ν) (L:List (κ × ν)) (k s:κ):getL z (delL L k) s=if s=k then z else getL z L s:=by
 unfold getL;rw [zss]
 split <;> rfl
theorem zw6 {κ ν:Type} [DecidableEq κ] {L:List (κ × ν)} {k s:κ}:s ∈ (delL L k).map Prod.fst↔s ≠ k/\s ∈ L.map Prod.fst:=by
 unfold delL;rw [List.mem_map,List.mem_map]
 constructor
 ·rintro⟨p,hp,rfl⟩;obtain⟨h1,h2⟩:=List.mem_filter.1 hp;exact⟨by simpa using h2,p,h1,rfl⟩
 ·rintro⟨h,p,hp,rfl⟩;exact⟨p,List.mem_filter.2 ⟨hp,by simpa using h⟩,rfl⟩
theorem znd {L:List (Str × Nat)} {s:Str} (k:Str):getL 0 (zdc L s) k=if k=s then 0 else if k = [] then addU (getL 0 L []) (getL 0 L s) else getL 0 L k:=by
 unfold zdc;rw [zw5,zld]
theorem foldP_key {L:List (Str × Nat)} {s k:Str}:k ∈ (zdc L s).map Prod.fst↔k ≠ s/\(k = [] ∨ k ∈ L.map Prod.fst):=by
 unfold zdc;rw [zw6,zlc]
theorem zku {L:List (Str × Nat)} (h:(L.map Prod.fst).Nodup) (s:Str):((zdc L s).map Prod.fst).Nodup:=(zgn h _ _).sublist ((List.filter_sublist (l:=putL L _ _)).map _)
theorem zo2 (l:List zab) {s:Str} (h:s ≠ []):zbd l s=zcy (zdc (za0 l) s) (zdc (za2 l) s):=by simp [zbd,h]
theorem zst (l:List zab) (s:Str):GoodC (zbd l s):=by
 unfold zbd
 split
 ·exact ziv (zd0 l)
 ·exact ziv (zku (zd0 l) s)
theorem zhw (l:List zab) {s:Str} (h:s ≠ []) (k:Str):zcs (zbd l s) k=(if k=s then 0 else if k = [] then addU (zcs l []) (zcs l s) else zcs l k)/\zb9 (zbd l s) k=(if k=s then 0 else if k = [] then addU (zb9 l []) (zb9 l s) else zb9 l k):=by
 rw [zo2 l h]
 have:=zu4 (Lp:=zdc (za0 l) s) (Lm:=zdc (za2 l) s) (fun k hk=>by rw [foldP_key] at hk ⊢;refine ⟨hk.1,hk.2.imp id fun h=>?_⟩;rw [zqb] at h;rw [ziw];exact h) (zku (zd0 l) s) k
 rw [znd,znd] at this;exact this
theorem zsu {l:List zab} {s:Str} (h:s ≠ []) {c:zab} (hc:c ∈ zbd l s):c.1 ≠ s:=by
 rw [zo2 l h] at hc;exact (foldP_key.1 (listL_mem.1 hc).1).1
theorem zsv {l:List zab} {s:Str} (h:s ≠ []) (hg:GoodC l) (hb:∀ c ∈ l,c.2.1 < 18446744073709551616/\c.2.2 < 18446744073709551616) (hn:∀ c ∈ l,c.1 ≠ s):zbd l s=l:=by
 have hp:∀ k,zcs l k < 18446744073709551616:=fun k=>Nat.lt_succ_of_le (plusC_le.2 fun c hc _=>Nat.le_of_lt_succ (hb c hc).1)
 have hm:∀ k,zb9 l k < 18446744073709551616:=fun k=>Nat.lt_succ_of_le (minusC_le.2 fun c hc _=>Nat.le_of_lt_succ (hb c hc).2)
 have h1:=zc0 hn;have h2:=zcl hn;refine (zst l s).ext hg fun k=>?_
 obtain⟨a,b⟩:=zhw l h k;rw [a,b]
 by_cases hk:k=s
 ·subst hk;simp [h1,h2]
 ·rw [if_neg hk,if_neg hk]
  by_cases hk0:k = []
  ·subst hk0;have a1:=hp [];have a2:=hm [];rw [if_pos rfl,if_pos rfl,h1,h2];unfold addU;omega
  ·rw [if_neg hk0,if_neg hk0];exact⟨rfl,rfl⟩
theorem zw7 {a b:List Int} (h:a.Perm b):a.sum=b.sum:=by
 induction h with
 | nil=>rfl
 | cons x _ ih=>simp [ih]
 | swap x y l=>simp;omega
 | trans _ _ ih1 ih2=>exact ih1.trans ih2
theorem zlg (f:Str->Int):∀ U:List Str,(U.map f).sum=((U.filter fun k=>decide (f k ≠ 0)).map f).sum
 | []=>rfl
 | k :: r=>by
  have ih:=zlg f r
  by_cases h:f k=0
  ·rw [List.filter_cons_of_neg (by simpa using h),<- ih];simp [h]
  ·rw [List.filter_cons_of_pos (by simpa using h)];simp [ih]
theorem zva {f:Str->Int} {U K:List Str} (hU:U.Nodup) (hK:K.Nodup) (h:∀ k,f k ≠ 0->(k ∈ U↔k ∈ K)):(U.map f).sum=(K.map f).sum:=by
 rw [zlg f U,zlg f K];refine zw7 ((zc3 (hU.filter _) (hK.filter _) fun k=>?_).map f);rw [List.mem_filter,List.mem_filter]
 constructor
 ·rintro⟨h1,h2⟩;exact⟨(h k (by simpa using h2)).1 h1,h2⟩
 ·rintro⟨h1,h2⟩;exact⟨(h k (by simpa using h2)).2 h1,h2⟩
def netC (l:List zab) (k:Str):Int:=((zcs l k:Nat):Int) - (zb9 l k:Nat)
theorem zsw (l:List zab):zj9 l=(((za0 l).map Prod.fst).map (netC l)).sum:=by
 have hnd:=zd0 l;unfold zj9;rw [List.map_map]
 congr 1
 refine List.map_congr_left fun p hp=>?_
 simp only [Function.comp,netC];rw [show zcs l p.1=p.2 from znv hnd hp]
 rfl
theorem zi1 {l:List zab} {U:List Str} (hU:U.Nodup) (h:∀ k,netC l k ≠ 0->k ∈ U):zj9 l=(U.map (netC l)).sum:=by
 rw [zsw];refine zva (zd0 l) hU fun k hk=>⟨fun _=>h k hk,fun _=>?_⟩
 refine Classical.byContradiction fun hn=>hk ?_
 rw [ziw] at hn;have h1:∀ c ∈ l,c.1 ≠ k:=fun c hc e=>hn ⟨c,hc,e⟩
 unfold netC;rw [zc0 h1,zcl h1]
 rfl
theorem zi2 (l:List zab):zba l=wrap64 (zj9 l):=by
 have h:=zw4 (za0 l) (za2 l) 0;unfold zba wrap64 sumL;have e:zj9 l=((za0 l).map fun p=>(p.2:Int) - ((getL (0:Nat) (za2 l) p.1:Nat):Int)).sum:=rfl;rw [<- e] at h;omega
theorem zju {x y:Int} (h:x % 18446744073709551616=y % 18446744073709551616):wrap64 x=wrap64 y:=by
 unfold wrap64;omega
theorem znw {f g:Str->Int} {U:List Str} (h:∀ k ∈ U,f k=g k):(U.map f).sum=(U.map g).sum:=by
 congr 1
 exact List.map_congr_left h
theorem zqh (l:List zab) {s:Str} (h:s ≠ []):zba (zbd l s)=zba l:=by
 rw [zi2,zi2];refine zju ?_;obtain⟨R,hR⟩:∃ R,(((za0 l).map Prod.fst).filter fun k=>decide (k ≠ []/\k ≠ s))=R:=⟨_,rfl⟩
 have hRn:R.Nodup:=hR ▸ (zd0 l).filter _;have hRm:∀ k,k ∈ R↔k ∈ (za0 l).map Prod.fst/\k ≠ []/\k ≠ s:=fun k=>by rw [<- hR,List.mem_filter];simp
 have hU:([] :: s :: R).Nodup:=by
  rw [List.nodup_cons,List.nodup_cons];refine ⟨fun hm=>?_,fun hm=>((hRm s).1 hm).2.2 rfl,hRn⟩;rcases List.mem_cons.1 hm with e | hm
  ·exact h e.symm
  ·exact ((hRm []).1 hm).2.1 rfl
 have hl:∀ k,netC l k ≠ 0->k ∈ [] :: s :: R:=fun k hk=>by
  by_cases h0:k = []
  ·simp [h0]
  ·by_cases h1:k=s
   ·simp [h1]
   ·refine List.mem_cons_of_mem _ (List.mem_cons_of_mem _ ((hRm k).2 ⟨?_,h0,h1⟩));refine Classical.byContradiction fun hn=>hk ?_
    rw [ziw] at hn;have h1:∀ c ∈ l,c.1 ≠ k:=fun c hc e=>hn ⟨c,hc,e⟩
    unfold netC;rw [zc0 h1,zcl h1]
    rfl
 have hf:∀ k,k ≠ []->k ≠ s->netC (zbd l s) k=netC l k:=fun k h0 h1=>by obtain⟨a,b⟩:=zhw l h k;rw [if_neg h1,if_neg h0] at a b;unfold netC;rw [a,b]
 rw [zi1 hU hl,zi1 (l:=zbd l s) hU fun k hk=>by
  by_cases h0:k = []
  ·simp [h0]
  ·by_cases h1:k=s
   ·simp [h1]
   ·exact hl k (by rw [<- hf k h0 h1];exact hk)]
 rw [List.map_cons,List.map_cons,List.map_cons,List.map_cons,List.sum_cons,List.sum_cons,List.sum_cons,List.sum_cons,znw fun k hk=>hf k ((hRm k).1 hk).2.1 ((hRm k).1 hk).2.2];obtain⟨a,b⟩:=zhw l h [];obtain⟨c,d⟩:=zhw l h s;rw [if_neg (Ne.symm h),if_pos rfl] at a b;rw [if_pos rfl] at c d;unfold netC;rw [a,b,c,d];unfold addU;omega
theorem zsx (l:List Item) (p:PrD):RiseB (zcq l p):=zsq (zcz _)
theorem zo3 {ks:List zan} {q:zan}:q ∈ zac (zbc ks)↔q ∈ ks:=by
 unfold zbc;rw [zee,(zbh ks).mem_iff]
theorem turnB_mem {l:List Item} {p:PrD} {q:zan}:q ∈ zac (zcq l p)↔∃ x ∈ zac l,zcf p x=q:=by
 unfold zcq;rw [zo3,mem_setL,List.mem_map]
 constructor
 ·rintro⟨x,hx,e⟩;exact⟨x,mem_setL.1 hx,e⟩
 ·rintro⟨x,hx,e⟩;exact⟨x,mem_setL.2 hx,e⟩
theorem zl2 (p:PrD) (q:zan):(zcf p q).1=q.1:=by
 unfold zcf
 split <;> rfl
theorem zsy {p:PrD} (h:p.2.2.1 ≠ p.1) (q:zan):(zcf p q).2.1 ≠ p.1:=by
 unfold zcf
 split
 ·exact h
 ·assumption
theorem zsz {l:List Item} {p:PrD} (hl:RiseB l) (h:∀ q ∈ zac l,q.2.1 ≠ p.1):zcq l p=l :=
 (zsx l p).ext hl fun q=>by
  rw [turnB_mem]
  constructor
  ·rintro⟨x,hx,rfl⟩;rw [zcf,if_neg (h x hx)];exact hx
  ·intro hq;exact⟨q,hq,by rw [zcf,if_neg (h q hq)]⟩
theorem zqi (l:List Item) (p:PrD):zbg (zcq l p)=zbg l :=
 zo1 (zh4 _) (zh4 _) fun t=>by
  rw [zi0,zi0]
  constructor
  ·rintro⟨q,hq,rfl⟩;obtain⟨x,hx,rfl⟩:=turnB_mem.1 hq;exact⟨x,hx,(zl2 p x).symm⟩
  ·rintro⟨x,hx,rfl⟩;exact⟨zcf p x,turnB_mem.2 ⟨x,hx,rfl⟩,zl2 p x⟩
def zca (p:PrD) (e:Entry):Entry:=⟨e.key,if 0 < ofM e.seen p.1 then setM (zar e.seen p.1) p.2.2.1 (max (ofM e.seen p.2.2.1) (p.2.2.2+p.2.1)) else e.seen,zbd e.counts p.1,zcq e.items p,e.cell⟩
def insP (l:List Str) (s:Str):List Str:=(l.filter fun x=>ltS x s)++s :: (l.filter fun x=>ltS s x)
def zax (s:State) (p:PrD):State × Nat :=
 if mayS s && mayP p then
  if p.1 ∈ s.pruned then (s,0)
  else if 0 < ofM s.all p.1 then
   if zcx s.all p then (⟨zar s.all p.1,s.entries.map (zca p),insP s.pruned p.1⟩,0) else (za3,170)
  else (⟨s.all,s.entries,insP s.pruned p.1⟩,0)
 else (za3,2)
end
section
open Go.RowKit Go.Shelf
section
variable {w w1 w2:World} {g:Nat}
theorem Kept2.trans1 (h:Kept2 w w1 g g) (k:Kept2 w1 w2 g g):Kept2 w w2 g g :=
 ⟨k.os.trans h.os,k.tape.trans h.tape,k.output.trans h.output,Nat.le_trans h.size k.size,fun j hj h1 h2=>(k.other j (Nat.lt_of_lt_of_le hj h.size) h1 h2).trans (h.other j hj h1 h2)⟩
theorem Kept2.ofExt (h:Ext w w1):Kept2 w w1 g g:=⟨h.os,h.tape,h.output,h.size,fun j hj _ _=>h.block j hj⟩
theorem Kept2.set (h:Kept2 w w1 g g) (j:Nat) (u:Value):Kept2 w (w1.setCell ⟨g,j,none⟩ u) g g :=
 ⟨h.os,h.tape,h.output,by rw [World.size_setCell];exact h.size,fun b hb h1 h2=>(Below.heap_setCell _ _ _ _ h1).trans (h.other b hb h1 h2)⟩
end
theorem zne {tid base:Nat} {v:Value} {l:List zab} {w:World} (h:Own w base tid 3 v l.length (l.flatMap za5)):Sl zbo w (fun b=>base<=b) v l :=
 (OwnL.flat_iff (S:=fun b=>base<=b).2 h).sl (by decide) (fun _ _ h=>h) (fun _ h _=>h)
theorem RowIs.set2 {w:World} {g T o:Nat} {X1 X2 tail:List Value} {c0 c1 c2 c3 c4 c5 c6:Value} (h:RowIs w g T (X1++([c0,c1,c2,c3,c4,c5,c6]++X2)) tail) (ho:X1.length=o) (u:Value) :
  RowIs (w.setCell ⟨g,o+1,none⟩ u) g T (X1++([c0,u,c2,c3,c4,c5,c6]++X2)) tail/\RowIs (w.setCell ⟨g,o+2,none⟩ u) g T (X1++([c0,c1,u,c3,c4,c5,c6]++X2)) tail/\RowIs (w.setCell ⟨g,o+3,none⟩ u) g T (X1++([c0,c1,c2,u,c4,c5,c6]++X2)) tail:=by
 subst ho;refine ⟨?_,?_,?_⟩
 ·have:=h.set (j:=X1.length+1) (by simp) u;simpa [List.set_append] using this
 ·have:=h.set (j:=X1.length+2) (by simp) u;simpa [List.set_append] using this
 ·have:=h.set (j:=X1.length+3) (by simp) u;simpa [List.set_append] using this
theorem RowIs.apart {w:World} {g B T T':Nat} {xs tl ys tl':List Value} (h:RowIs w g T xs tl) (k:RowIs w B T' ys tl') (hT:T ≠ T'):B ≠ g:=by
 rintro rfl;unfold RowIs at h k;rw [h] at k;injection k with e
 injection e with e1 e2 e3
 exact hT e2
theorem zqj {S:Nat->Prop} {p:PrD} {e:Entry} {v1 v2 v3:Value} {w:World} {g B o:Nat} {X1 X2 tail:List Value} (hrow:RowIs w g 46 (X1++(entL e v1 v2 v3++X2)) tail) (ho:X1.length=o) (hat:EntAt w S e v1 v2 v3) (hS:¬ S g)
  (hP:RowIs w B 29 (prC p) []) (hbd:p.2.2.2+p.2.1 < 18446744073709551616) (sm:SmallE e) :
  Calls Tryz.prog 91 #[.pointer (some ⟨g,o,none⟩),.pointer (some ⟨B,0,none⟩)] w fun r w'=>∃ u1 u2 u3,r=.returned (.tuple #[])/\RowIs w' g 46 (X1++(entL (zca p e) u1 u2 u3++X2)) tail /\
   EntAt w' (fun b=>S b ∨ w.heap.size<=b) (zca p e) u1 u2 u3/\Kept2 w w' g g:=by
 obtain⟨k,es,ec,ei,cs,ct,cg⟩:=e;obtain⟨b,c,ow,n⟩:=p;obtain⟨A1,n1,rfl,-,-⟩:=hat.seen.form;obtain⟨A2,n2,rfl,-,-⟩:=hat.counts.form;obtain⟨A3,n3,rfl,-,-⟩:=hat.items.form;have HLC:ec.length < 1099511627776:=Nat.lt_of_le_of_lt sm.counts (by decide);have HLP:(zac ei).length<=1099511627776:=Nat.le_trans sm.places (by decide);have HLS:es.length<=1099511627776:=Nat.le_trans sm.seen (by decide);have HBg:=zH (hrow.apart hP (by decide));have hgw:=hrow.lt;have hwrap:IntKind.u64.wrap ((n:Int)+(c:Int))=((n+c:Nat):Int):=by rw [zbl];simp only at hbd;omega
 obtain⟨u1,hu1⟩:∃ u,ofM es b=u:=⟨_,rfl⟩
 obtain⟨u2,hu2⟩:∃ u,ofM es ow=u:=⟨_,rfl⟩
 have HU1:=zH hu1;have HU2:=zH hu2;clear sm hu1 hu2;obtain⟨W0,hW0⟩:∃ W0,W0=w:=⟨_,rfl⟩
 subst hW0;have HA0:=zH hat;have rR0:=zH hrow;have rP0:=hP;have hP0:=zH hP;obtain⟨c0,c1,c2,c3,-,-,-⟩:=zlw hrow ho;have z2:=hrow.frozen (o+2);clear hat hrow hP;go_enter Tryz.func91,Tryz.ntmps91;go_wp2_with fail;refine zao [fun v _=>v=.pointer (some ⟨g,o,none⟩),fun v _=>v=.pointer (some ⟨g,o,none⟩),fun v _=>v=.pointer (some ⟨g,o,none⟩),fun v _=>v=.pointer (some ⟨g,o+2,none⟩),fun v _=>v=.slice A2 ec.length n2,fun v _=>v=.pointer (some ⟨B,0,none⟩),fun v _=>v=St b,fun v W=>Own W W0.heap.size 54 3 v (zbd ec b).length ((zbd ec b).flatMap za5)] rfl (by kernel_rfl) ?hR ?hstep ?hend
 case hR=>simp only [List.mem_cons,List.not_mem_nil,or_false,forall_eq_or_imp,forall_eq];exact⟨kP,kP,kP,kP,kP,kP,kP,fun v _ _ h he=>h.ext he⟩
 case hstep =>
  simp only [List.length_cons,List.length_nil,Nat.reduceAdd,List.take_succ_cons,List.take_zero,za6,and_true];refine ⟨?_,?_,?_,?_,?_,?_,?_,?_⟩
  ·intro x W he f;have h0:x 0=.pointer (some ⟨g,o,none⟩):=f.1;go_wp;exact sQ
  ·intro x W he f;have h0:x 0=.pointer (some ⟨g,o,none⟩):=f.1;go_wp;exact sQ
  ·intro x W he f;have h0:x 5=.pointer (some ⟨g,o,none⟩):=f.1;go_wp;exact sQ
  ·intro x W he f;have h0:x 6=.pointer (some ⟨g,o,none⟩):=f.1;go_wp;exact sQ
  ·intro x W he f;have h0:x 7=.pointer (some ⟨g,o+2,none⟩):=f.1;have q:=he.cell c2;go_wp;exact sQ
  ·intro x W he f;have h0:x 1=.pointer (some ⟨B,0,none⟩):=f.1;go_wp;exact sQ
  ·intro x W he f;have h0:x 9=.pointer (some ⟨B,0,none⟩):=f.1;have q0:=(rP0.ext he).cell (j:=0) rfl;go_wp;exact sQ
  ·intro x W he f;have h0:x 8=.slice A2 ec.length n2:=f.1;have h1:x 10=St b:=f.2.1;have hs:=he.size;have HC:=zH (zty b (HA0.out.counts.ext (by decide) he) HLC);go_wp;refine HC.out.mono ?_;rintro r W3 ⟨v3,rfl,hv3,hx3⟩;dsimp only;go_wp;exact zaa (v:=v3) (hv3.lower hs) hx3
 case hend =>
  intro x Wz hxz f;have e4:x 4=.pointer (some ⟨g,o,none⟩):=f.1;have f11:Own Wz W0.heap.size 54 3 (x 11) (zbd ec b).length ((zbd ec b).flatMap za5):=f.2.2.2.2.2.2.2.1;clear f;obtain⟨C2,m2,e11,-,-⟩:=f11.form;rw [e11] at f11;simp only [List.length_cons,List.length_nil,Nat.reduceAdd,List.take_succ_cons,List.take_zero,List.filterMap_cons,List.filterMap_nil,List.drop_succ_cons,List.drop_zero,zav,Act.put,List.setIfInBounds_toArray,List.set_cons_succ,List.set_cons_zero,e4,e11];have q2:=hxz.cell c2;have y2:Wz.frozen? ⟨g,o+2,none⟩=false:=(hxz.frozen hgw).trans z2;go_wp2_with fail;obtain⟨Wa,hWa⟩:∃ X,Wz.setCell ⟨g,o+2,none⟩ (.slice C2 (zbd ec b).length m2)=X:=⟨_,rfl⟩
  have Ka:=(Kept2.ofExt (g:=g) hxz).set (o+2) (.slice C2 (zbd ec b).length m2);have rRa:=((rR0.out.ext hxz).set2 ho (.slice C2 (zbd ec b).length m2)).2.1;have fC:=f11.keep (w':=Wz.setCell ⟨g,o+2,none⟩ (.slice C2 (zbd ec b).length m2)) fun b hb hlt=>Below.heap_setCell _ _ _ _ (by have:=(f11.base_le hb).1;show b ≠ g;omega)
  rw [hWa] at Ka rRa fC ⊢;have HAa:=zH (HA0.out.kept Ka (fun b hb=>⟨fun e=>hS (e ▸ hb),fun e=>hS (e ▸ hb)⟩));have rPa:=rP0.keep (Ka.other B rP0.lt HBg.out HBg.out);have hza:=Ka.size;obtain⟨-,d1,d2,d3,-,-,-⟩:=zlw rRa ho;have y3:=rRa.frozen (o+3);have RRa:=zH rRa;have FC:=zH fC;have KA:=zH Ka;clear f11 fC rRa Ka rP0 hxz y2 z2 c0 c1 c2 c3 q2 e4 e11;refine zao [fun v _=>v=.pointer (some ⟨g,o,none⟩),fun v _=>v=.pointer (some ⟨g,o,none⟩),fun v _=>v=.pointer (some ⟨g,o,none⟩),fun v _=>v=.pointer (some ⟨g,o+3,none⟩),fun v _=>v=.slice A3 ei.length n3,fun v _=>v=prV (b,c,ow,n),fun v W=>OwnL itemT 57 W Wa.heap.size (fun b=>Wa.heap.size<=b) v (zcq ei (b,c,ow,n))] rfl (by kernel_rfl) ?hR ?hstep ?hend
  case hR=>simp only [List.mem_cons,List.not_mem_nil,or_false,forall_eq_or_imp,forall_eq];exact⟨kP,kP,kP,kP,kP,kP,fun v _ _ h he=>h.ext he⟩
  case hstep =>
   simp only [List.length_cons,List.length_nil,Nat.reduceAdd,List.take_succ_cons,List.take_zero,za6,and_true];refine ⟨?_,?_,?_,?_,?_,?_,?_⟩
   ·intro x W he f;have h0:x 0=.pointer (some ⟨g,o,none⟩):=f.1;go_wp;exact sQ
   ·intro x W he f;have h0:x 0=.pointer (some ⟨g,o,none⟩):=f.1;go_wp;exact sQ
   ·intro x W he f;have h0:x 15=.pointer (some ⟨g,o,none⟩):=f.1;go_wp;exact sQ
   ·intro x W he f;have h0:x 16=.pointer (some ⟨g,o,none⟩):=f.1;go_wp;exact sQ
   ·intro x W he f;have h0:x 17=.pointer (some ⟨g,o+3,none⟩):=f.1;have q:=he.cell d3;go_wp;exact sQ
   ·intro x W he f;have h0:x 1=.pointer (some ⟨B,0,none⟩):=f.1;have q0:=(rPa.ext he).cell (j:=0) rfl;have q1:=(rPa.ext he).cell (j:=1) rfl;have q2:=(rPa.ext he).cell (j:=2) rfl;have q3:=(rPa.ext he).cell (j:=3) rfl;go_wp;exact sQ
   ·intro x W he f;have h0:x 18=.slice A3 ei.length n3:=f.1;have h1:x 19=prV (b,c,ow,n):=f.2.1;have hs:=he.size;have HC:=zH (zul (b,c,ow,n) (HAa.out.items.ext (by decide) he) HLP);go_wp;refine HC.out.mono ?_;rintro r W3 ⟨v3,rfl,hv3,hx3⟩;dsimp only;go_wp;exact zaa (v:=v3) ((hv3.lower hs).mono fun b _ hb=>Nat.le_trans hs hb) hx3
  case hend =>
   intro x Wz hxz f;have e14:x 14=.pointer (some ⟨g,o,none⟩):=f.1;have f20:OwnL itemT 57 Wz Wa.heap.size (fun b=>Wa.heap.size<=b) (x 20) (zcq ei (b,c,ow,n)):=f.2.2.2.2.2.2.1;clear f;obtain⟨C3,m3,e20,-,-⟩:=f20.form;rw [e20] at f20;simp only [List.length_cons,List.length_nil,Nat.reduceAdd,List.take_succ_cons,List.take_zero,List.filterMap_cons,List.filterMap_nil,List.drop_succ_cons,List.drop_zero,zav,Act.put,List.setIfInBounds_toArray,List.set_cons_succ,List.set_cons_zero,e14,e20];have q3:=hxz.cell d3;have y3z:Wz.frozen? ⟨g,o+3,none⟩=false:=(hxz.frozen (Nat.lt_of_lt_of_le hgw hza)).trans y3;go_wp2_with fail;obtain⟨Wb,hWb⟩:∃ X,Wz.setCell ⟨g,o+3,none⟩ (.slice C3 (zcq ei (b,c,ow,n)).length m3)=X:=⟨_,rfl⟩
   have Kb:=(Kept2.ofExt (g:=g) hxz).set (o+3) (.slice C3 (zcq ei (b,c,ow,n)).length m3);have rRb:=((RRa.out.ext hxz).set2 ho (.slice C3 (zcq ei (b,c,ow,n)).length m3)).2.2;have fC:=(FC.out.ext hxz).keep (w':=Wz.setCell ⟨g,o+3,none⟩ (.slice C3 (zcq ei (b,c,ow,n)).length m3)) fun b hb hlt=>Below.heap_setCell _ _ _ _ (by have:=(FC.out.base_le hb).1;show b ≠ g;omega)
   have fI:=f20.keep (w':=Wz.setCell ⟨g,o+3,none⟩ (.slice C3 (zcq ei (b,c,ow,n)).length m3)) (fun b hb hlt=>Below.heap_setCell _ _ _ _ (by show b ≠ g;omega)) fun b hb hlt=>Below.heap_setCell _ _ _ _ (by have:=(f20.base_le hb).1;show b ≠ g;omega)
   rw [hWb] at Kb rRb fC fI ⊢;have Kb:=KA.out.trans1 Kb;have HAb:=zH (HA0.out.kept Kb (fun b hb=>⟨fun e=>hS (e ▸ hb),fun e=>hS (e ▸ hb)⟩));have rPb:=hP0.out.keep (Kb.other B hP0.out.lt HBg.out HBg.out);have hzb:=Kb.size;obtain⟨V3,hV3⟩:∃ V,Value.slice C3 (zcq ei (b,c,ow,n)).length m3=V:=⟨_,rfl⟩
   rw [hV3] at fI rRb ⊢;obtain⟨-,d1,d2,d3,-,-,-⟩:=zlw rRb ho;have HEND:=zH (⟨fC,fI⟩:Own Wb W0.heap.size 54 3 (.slice C2 (zbd ec b).length m2) (zbd ec b).length ((zbd ec b).flatMap za5)/\OwnL itemT 57 Wb Wa.heap.size (fun b=>Wa.heap.size<=b) V3 (zcq ei (b,c,ow,n)));have RRb:=zH rRb;have KB:=zH Kb;clear f20 fC fI rRb Kb hxz q3 y3z y3 e14 e20 rPa HAa FC RRa KA;refine zao [fun v _=>v=.pointer (some ⟨g,o,none⟩),fun v _=>v=.pointer (some ⟨g,o,none⟩),fun v _=>v=.pointer (some ⟨g,o+1,none⟩),fun v _=>v=.slice A1 es.length n1,fun v _=>v=.pointer (some ⟨B,0,none⟩),fun v _=>v=St b,fun v _=>v=U u1] rfl (by kernel_rfl) ?hR ?hstep ?hend
   case hR=>simp only [List.mem_cons,List.not_mem_nil,or_false,forall_eq_or_imp,forall_eq];exact⟨kP,kP,kP,kP,kP,kP,kP⟩
   case hstep =>
    simp only [List.length_cons,List.length_nil,Nat.reduceAdd,List.take_succ_cons,List.take_zero,za6,and_true];refine ⟨?_,?_,?_,?_,?_,?_,?_⟩
    ·intro x W he f;have h0:x 0=.pointer (some ⟨g,o,none⟩):=f.1;go_wp;exact sQ
    ·intro x W he f;have h0:x 23=.pointer (some ⟨g,o,none⟩):=f.1;go_wp;exact sQ
    ·intro x W he f;have h0:x 24=.pointer (some ⟨g,o,none⟩):=f.1;go_wp;exact sQ
    ·intro x W he f;have h0:x 25=.pointer (some ⟨g,o+1,none⟩):=f.1;have q:=he.cell d1;go_wp;exact sQ
    ·intro x W he f;have h0:x 1=.pointer (some ⟨B,0,none⟩):=f.1;go_wp;exact sQ
    ·intro x W he f;have h0:x 27=.pointer (some ⟨B,0,none⟩):=f.1;have q0:=(rPb.ext he).cell (j:=0) rfl;go_wp;exact sQ
    ·intro x W he f;have h0:x 26=.slice A1 es.length n1:=f.1;have h1:x 28=St b:=f.2.1;have hs:=he.size;have HC:=zH (zcw b (HAb.out.seen.ext (by decide) he));rw [HU1.out] at HC;go_wp;refine HC.out.mono ?_;rintro r W3 ⟨rfl,hx3⟩;dsimp only;go_wp;exact zaa (v:=U u1) rfl hx3
   case hend =>
    intro x Wz hxz f;have e29:x 29=U u1:=f.2.2.2.2.2.2.1;clear f;simp only [List.length_cons,List.length_nil,Nat.reduceAdd,List.take_succ_cons,List.take_zero,List.filterMap_cons,List.filterMap_nil,List.drop_succ_cons,List.drop_zero,zav,Act.put,List.setIfInBounds_toArray,List.set_cons_succ,List.set_cons_zero,e29];rcases Nat.eq_zero_or_pos u1 with h0 | h0
    ·subst h0;have HKZ:=zH (KB.out.trans1 (Kept2.ofExt hxz));have HT:=zH (show zca (b,c,ow,n) ⟨k,es,ec,ei,cs,ct,cg⟩=⟨k,es,zbd ec b,zcq ei (b,c,ow,n),cs,ct,cg⟩ by unfold zca;simp only;rw [HU1.out];rfl);have HX:=zH hxz;clear hxz;go_wp2_with fail
     go_end0
     obtain⟨hC,hI⟩:=HEND.out;refine ⟨_,_,_,rfl,by rw [HT.out];exact RRb.out.ext HX.out,?_,HKZ.out⟩;rw [HT.out];exact⟨((HAb.out.ext HX.out).seen).mono (by decide) fun b _ h=>.inl h,((zne hC).ext (by decide) HX.out).mono (by decide) fun b _ h=>.inr h,((hI.ext HX.out).sl (by decide) (fun b _ h=>.inr (Nat.le_trans hza h)) (fun b h _=>.inr (Nat.le_trans hza h)))⟩
    ·have h1:(u1:Int) > 0:=(by omega);have hxc:=hxz;have HKC:=zH (KB.out.trans1 (Kept2.ofExt hxz));have rPc:=rPb.ext hxz;have dc1:=hxz.cell d1;have dc2:=hxz.cell d2;have dc3:=hxz.cell d3;clear hxz;go_wp2_with fail;obtain⟨Wc,hWc⟩:∃ X,Wz=X:=⟨_,rfl⟩
     rw [hWc] at hxc HKC rPc dc1 dc2 dc3 ⊢;clear hWc;refine zao [fun v _=>v=.pointer (some ⟨g,o,none⟩),fun v _=>v=.pointer (some ⟨g,o,none⟩),fun v _=>v=.pointer (some ⟨g,o+1,none⟩),fun v _=>v=.slice A1 es.length n1,fun v _=>v=.pointer (some ⟨B,2,none⟩),fun v _=>v=St ow,fun v _=>v=U u2,fun v _=>v=.pointer (some ⟨B,3,none⟩),fun v _=>v=U n,fun v _=>v=.pointer (some ⟨B,1,none⟩),fun v _=>v=U c,fun v _=>v=U (n+c),fun v _=>v=U (max u2 (n+c))] rfl (by kernel_rfl) ?hR ?hstep ?hend
     case hR=>simp only [List.mem_cons,List.not_mem_nil,or_false,forall_eq_or_imp,forall_eq];exact⟨kP,kP,kP,kP,kP,kP,kP,kP,kP,kP,kP,kP,kP⟩
     case hstep =>
      simp only [List.length_cons,List.length_nil,Nat.reduceAdd,List.take_succ_cons,List.take_zero,za6,and_true];refine ⟨?_,?_,?_,?_,?_,?_,?_,?_,?_,?_,?_,?_,?_⟩
      ·intro x W he f;have h0:x 0=.pointer (some ⟨g,o,none⟩):=f.1;go_wp;exact sQ
      ·intro x W he f;have h0:x 31=.pointer (some ⟨g,o,none⟩):=f.1;go_wp;exact sQ
      ·intro x W he f;have h0:x 32=.pointer (some ⟨g,o,none⟩):=f.1;go_wp;exact sQ
      ·intro x W he f;have h0:x 33=.pointer (some ⟨g,o+1,none⟩):=f.1;have q:=he.cell dc1;go_wp;exact sQ
      ·intro x W he f;have h0:x 1=.pointer (some ⟨B,0,none⟩):=f.1;go_wp;exact sQ
      ·intro x W he f;have h0:x 35=.pointer (some ⟨B,2,none⟩):=f.1;have q2:=(rPc.ext he).cell (j:=2) rfl;go_wp;exact sQ
      ·intro x W he f;have h0:x 34=.slice A1 es.length n1:=f.1;have h1:x 36=St ow:=f.2.1;have hs:=he.size;have HC:=zH (zcw ow (HAb.out.seen.ext (by decide) (hxc.trans he)));rw [HU2.out] at HC;go_wp;refine HC.out.mono ?_;rintro r W3 ⟨rfl,hx3⟩;dsimp only;go_wp;exact zaa (v:=U u2) rfl hx3
      ·intro x W he f;have h0:x 1=.pointer (some ⟨B,0,none⟩):=f.1;go_wp;exact sQ
      ·intro x W he f;have h0:x 38=.pointer (some ⟨B,3,none⟩):=f.1;have q3:=(rPc.ext he).cell (j:=3) rfl;go_wp;exact sQ
      ·intro x W he f;have h0:x 1=.pointer (some ⟨B,0,none⟩):=f.1;go_wp;exact sQ
      ·intro x W he f;have h0:x 40=.pointer (some ⟨B,1,none⟩):=f.1;have q1:=(rPc.ext he).cell (j:=1) rfl;go_wp;exact sQ
      ·intro x W he f;have h0:x 39=U n:=f.1;have h1:x 41=U c:=f.2.1;go_wp;exact sQ
      ·intro x W he f;have h0:x 37=U u2:=f.1;have h1:x 42=U (n+c):=f.2.1;go_wp;exact zaa (congrArg (Value.int .u64) (by omega)) (Ext.refl _)
     case hend =>
      intro x Wz hxz f;have e43:x 43=U (max u2 (n+c)):=f.2.2.2.2.2.2.2.2.2.2.2.2.1;clear f;simp only [List.length_cons,List.length_nil,Nat.reduceAdd,List.take_succ_cons,List.take_zero,List.filterMap_cons,List.filterMap_nil,List.drop_succ_cons,List.drop_zero,zav,Act.put,List.setIfInBounds_toArray,List.set_cons_succ,List.set_cons_zero,e43];obtain⟨u3,hu3⟩:∃ u,max u2 (n+c)=u:=⟨_,rfl⟩
      have HU3:=zH hu3;rw [hu3];have hxd:=hxc.trans hxz;have rPd:=rPc.ext hxz;have HAd:=zH (HAb.out.ext hxd);have dd1:=hxz.cell dc1;have dd2:=hxz.cell dc2;have dd3:=hxz.cell dc3;have HKD:=zH (KB.out.trans1 (Kept2.ofExt hxd));clear hu3 hxz rPc dc1 dc2 dc3 e43 HKC;go_wp2_with fail;obtain⟨Wd,hWd⟩:∃ X,Wz=X:=⟨_,rfl⟩
      rw [hWd] at hxd HKD rPd dd1 dd2 dd3 HAd ⊢;clear hWd;refine zao [fun v _=>v=.pointer (some ⟨g,o,none⟩),fun v _=>v=.pointer (some ⟨g,o,none⟩),fun v _=>v=.pointer (some ⟨g,o,none⟩),fun v _=>v=.pointer (some ⟨g,o+1,none⟩),fun v _=>v=.slice A1 es.length n1,fun v _=>v=.pointer (some ⟨B,0,none⟩),fun v _=>v=St b,fun v W=>Own W Wd.heap.size 97 2 v (zar es b).length ((zar es b).flatMap zae),fun v _=>v=.pointer (some ⟨B,2,none⟩),fun v _=>v=St ow,fun v _=>v=U u3,fun v W=>Own W Wd.heap.size 97 2 v (setM (zar es b) ow u3).length ((setM (zar es b) ow u3).flatMap zae)] rfl (by kernel_rfl) ?hR ?hstep ?hend
      case hR=>simp only [List.mem_cons,List.not_mem_nil,or_false,forall_eq_or_imp,forall_eq];exact⟨kP,kP,kP,kP,kP,kP,kP,fun v _ _ h he=>h.ext he,kP,kP,kP,fun v _ _ h he=>h.ext he⟩
      case hstep =>
       simp only [List.length_cons,List.length_nil,Nat.reduceAdd,List.take_succ_cons,List.take_zero,za6,and_true];refine ⟨?_,?_,?_,?_,?_,?_,?_,?_,?_,?_,?_,?_⟩
       ·intro x W he f;have h0:x 0=.pointer (some ⟨g,o,none⟩):=f.1;go_wp;exact sQ
       ·intro x W he f;have h0:x 0=.pointer (some ⟨g,o,none⟩):=f.1;go_wp;exact sQ
       ·intro x W he f;have h0:x 45=.pointer (some ⟨g,o,none⟩):=f.1;go_wp;exact sQ
       ·intro x W he f;have h0:x 46=.pointer (some ⟨g,o,none⟩):=f.1;go_wp;exact sQ
       ·intro x W he f;have h0:x 47=.pointer (some ⟨g,o+1,none⟩):=f.1;have q:=he.cell dd1;go_wp;exact sQ
       ·intro x W he f;have h0:x 1=.pointer (some ⟨B,0,none⟩):=f.1;go_wp;exact sQ
       ·intro x W he f;have h0:x 49=.pointer (some ⟨B,0,none⟩):=f.1;have q0:=(rPd.ext he).cell (j:=0) rfl;go_wp;exact sQ
       ·intro x W he f;have h0:x 48=.slice A1 es.length n1:=f.1;have h1:x 50=St b:=f.2.1;have hs:=he.size;have HC:=zH (zil b (HAd.out.seen.ext (by decide) he) HLS);go_wp;refine HC.out.mono ?_;rintro r W3 ⟨v3,rfl,hv3,hx3⟩;dsimp only;go_wp;exact zaa (v:=v3) (hv3.lower hs) hx3
       ·intro x W he f;have h0:x 1=.pointer (some ⟨B,0,none⟩):=f.1;go_wp;exact sQ
       ·intro x W he f;have h0:x 52=.pointer (some ⟨B,2,none⟩):=f.1;have q2:=(rPd.ext he).cell (j:=2) rfl;go_wp;exact sQ
       ·intro x W he f;have h0:x 3=U u3:=f.1;go_wp;exact sQ
       ·intro x W he f;have h0:Own W Wd.heap.size 97 2 (x 51) (zar es b).length ((zar es b).flatMap zae):=f.1;obtain⟨CC,cc,hcc,-,-⟩:=h0.form;rw [hcc] at h0;have h1:x 53=St ow:=f.2.1;have h2:x 54=U u3:=f.2.2.1;have hs:=he.size;have HC:=zH (zh8 ow u3 (zay h0) (Nat.le_trans (zga es b) HLS));clear h0;go_wp;refine HC.out.mono ?_;rintro r W3 ⟨v3,rfl,hv3,hx3⟩;dsimp only;go_wp;exact zaa (v:=v3) (hv3.lower hs) hx3
      case hend =>
       intro x Wz hxz f;have e44:x 44=.pointer (some ⟨g,o,none⟩):=f.1;have f55:Own Wz Wd.heap.size 97 2 (x 55) (setM (zar es b) ow u3).length ((setM (zar es b) ow u3).flatMap zae):=f.2.2.2.2.2.2.2.2.2.2.2.1;clear f;obtain⟨C1,m1,e55,-,-⟩:=f55.form;rw [e55] at f55;simp only [List.length_cons,List.length_nil,Nat.reduceAdd,List.take_succ_cons,List.take_zero,List.filterMap_cons,List.filterMap_nil,List.drop_succ_cons,List.drop_zero,zav,Act.put,List.setIfInBounds_toArray,List.set_cons_succ,List.set_cons_zero,e44,e55];have HSZ:=zH hxd.size;have hzd:=hxd.size;have q1:=hxz.cell dd1;have y1:Wz.frozen? ⟨g,o+1,none⟩=false:=(RRb.out.ext (hxd.trans hxz)).frozen (o+1);go_wp2_with fail
       go_end0
       obtain⟨hC,hI⟩:=HEND.out
       have HT:zca (b,c,ow,n) ⟨k,es,ec,ei,cs,ct,cg⟩=⟨k,setM (zar es b) ow u3,zbd ec b,zcq ei (b,c,ow,n),cs,ct,cg⟩:=by unfold zca;simp only;rw [if_pos (by rw [HU1.out];exact h0),HU2.out,HU3.out]
       have hxe:=hxd.trans hxz;have hgb:g < Wb.heap.size:=RRb.out.lt;refine ⟨.slice C1 (setM (zar es b) ow u3).length m1,.slice C2 (zbd ec b).length m2,V3,rfl,?_,?_,(HKD.out.trans1 (Kept2.ofExt hxz)).set (o+1) _⟩
       ·rw [HT];exact ((RRb.out.ext hxe).set2 ho _).1
       ·rw [HT];have a1:=f55.keep (w':=Wz.setCell ⟨g,o+1,none⟩ (.slice C1 (setM (zar es b) ow u3).length m1)) fun b hb _=>Below.heap_setCell _ _ _ _ (by have:=(f55.base_le hb).1;show b ≠ g;omega)
        have a2:=(hC.ext hxe).keep (w':=Wz.setCell ⟨g,o+1,none⟩ (.slice C1 (setM (zar es b) ow u3).length m1)) fun b hb _=>Below.heap_setCell _ _ _ _ (by have:=(hC.base_le hb).1;show b ≠ g;omega)
        have a3:=(hI.ext hxe).keep (w':=Wz.setCell ⟨g,o+1,none⟩ (.slice C1 (setM (zar es b) ow u3).length m1)) (fun b hb _=>Below.heap_setCell _ _ _ _ (by show b ≠ g;omega)) fun b hb _=>Below.heap_setCell _ _ _ _ (by have:=(hI.base_le hb).1;show b ≠ g;omega)
        exact⟨(zay a1).mono (by decide) fun b _ h=>.inr (by omega),(zne a2).mono (by decide) fun b _ h=>.inr h,a3.sl (by decide) (fun b _ h=>.inr (Nat.le_trans hza h)) (fun b h _=>.inr (Nat.le_trans hza h))⟩
end
section
open Go.RowKit Go.Shelf
theorem RowE.turn {W:World} {m z:Nat} {v:Value} {l:List Entry} {i:Nat} {e:Entry} (h:RowE W m z v l) (hi:l[i]? = some e):∃ g cap X1 X2 tail v1 v2 v3,v=.slice (some ⟨g,0,none⟩) l.length cap/\m<=g/\RowIs W g 46 (X1++(entL e v1 v2 v3++X2)) tail/\X1.length=i * 7/\EntAt W (SE m z v) e v1 v2 v3/\¬ SE m z v g /\
  ∀ W' e' u1 u2 u3,RowIs W' g 46 (X1++(entL e' u1 u2 u3++X2)) tail->Kept2 W W' g g->EntAt W' (fun b=>SE m z v b ∨ W.heap.size<=b) e' u1 u2 u3->z < W.heap.size->RowE W' m z v (l.set i e'):=by
 obtain⟨vss,h1,h2,h3⟩:=h;have hil:=(List.getElem?_eq_some_iff.1 hi).1;obtain⟨g,cap,tail,rfl,hmg,hrow,hnc,hcm,hcl⟩:=h3.row (by omega);have hiv:i < vss.length:=by omega
 obtain⟨vs,hvs⟩:∃ vs,vss[i]? = some vs:=⟨_,List.getElem?_eq_getElem hiv⟩
 have hrd:=h2 i e vs hi hvs;have hvi:vss[i]=vs:=(List.getElem?_eq_some_iff.1 hvs).2;have hsp:vss=vss.take i++vs :: vss.drop (i+1):=by rw [<- hvi,List.getElem_cons_drop,List.take_append_drop]
 have hfl:vss.flatten=(vss.take i).flatten++(vs++(vss.drop (i+1)).flatten):=by conv=>lhs;rw [hsp];simp
 have hl7:∀ L:List (List Value),(∀ x ∈ L,x.length=7)->L.flatten.length=L.length * 7:=by
  intro L
  induction L with
  | nil=>simp
  | cons a r ih=>intro hL;simp only [List.flatten_cons,List.length_append,List.length_cons];rw [ih fun x hx=>hL x (by simp [hx]),hL a (by simp)];omega
 have hlen7:∀ x ∈ vss,x.length=7:=fun x hx=>by
  obtain⟨j,hj⟩:=List.getElem?_of_mem hx;have hjl:j < l.length:=by rw [<- h1];exact (List.getElem?_eq_some_iff.1 hj).1
  exact entryT.len (h2 j _ x (List.getElem?_eq_getElem hjl) hj)
 have hX1:(vss.take i).flatten.length=i * 7:=by rw [hl7 _ fun x hx=>hlen7 x (List.mem_of_mem_take hx),List.length_take];congr 1;omega
 obtain⟨v1,v2,v3,rfl,g1,g2,g3⟩:=hrd;have hog:zaf (.slice (some ⟨g,0,none⟩) l.length cap) g:=⟨g,_,cap,rfl,by omega,rfl⟩
 rw [hfl] at hrow;refine ⟨g,cap,_,_,tail,v1,v2,v3,rfl,hmg,hrow,hX1,⟨g1,g2,g3⟩,fun hs=>hs.2.2 hog,fun W' e' u1 u2 u3 hr hk ha hz=>?_⟩;have hgW:=hrow.lt;have hSE:∀ b,W.heap.size<=b->SE m z (.slice (some ⟨g,0,none⟩) l.length cap) b:=fun b hb=>⟨by omega,by omega,fun ⟨g',n',c',ee,hc,e2⟩=>by cases ee;omega⟩
 refine ⟨vss.take i++entL e' u1 u2 u3 :: vss.drop (i+1),by simp;omega,fun j x ys hx hy=>?_,?_⟩
 ·by_cases hji:j=i
  ·subst hji
   have hy':ys=entL e' u1 u2 u3:=by rw [List.getElem?_append_right (by simp;omega)] at hy;simp only [List.length_take,Nat.min_eq_left (Nat.le_of_lt hiv),Nat.sub_self,List.getElem?_cons_zero,Option.some.injEq] at hy;exact hy.symm
   have hx':x=e':=by rw [List.getElem?_set_self hil] at hx;exact (Option.some.inj hx).symm
   subst hy' hx';exact entryT.mono (ha.rd (S':=fun b=>SE m z (.slice (some ⟨g,0,none⟩) l.length cap) b ∨ W.heap.size<=b) fun b _ h=>h) fun b _ h=>h.elim (fun h=>by simpa using h) fun h=>by simpa using hSE b h
  ·have hx':l[j]? = some x:=by rwa [List.getElem?_set_ne (fun e=>hji e.symm)] at hx
   have hy':vss[j]? = some ys:=by
    rw [hsp]
    by_cases hlt:j < i
    ·rw [List.getElem?_append_left (by simp;omega)] at hy ⊢;exact hy
    ·rw [List.getElem?_append_right (by simp;omega)] at hy ⊢;rw [List.length_take,Nat.min_eq_left (Nat.le_of_lt hiv)] at hy ⊢;obtain⟨k,hk⟩:∃ k,j - i=k+1:=⟨j - i - 1,by omega⟩
     rw [hk] at hy ⊢;exact hy
   have:=entryT.keep (w':=W') (h2 j x ys hx' hy') fun b hb hlt=>hk.other b hlt (fun e=>hb.2.2 (e ▸ hog)) (fun e=>hb.2.2 (e ▸ hog))
   simpa using this
 ·have hfl2:(vss.take i++entL e' u1 u2 u3 :: vss.drop (i+1)).flatten=(vss.take i).flatten++(entL e' u1 u2 u3++(vss.drop (i+1)).flatten):=by simp
  rw [List.length_set,hfl2]
  have hln:((vss.take i).flatten++(entL e' u1 u2 u3++(vss.drop (i+1)).flatten)).length=l.length * 7:=by
   rw [<- hfl2,hl7 _ (fun x hx=>?_)]
   ·simp;omega
   ·rcases List.mem_append.1 hx with hx | hx
    ·exact hlen7 x (List.mem_of_mem_take hx)
    ·rcases List.mem_cons.1 hx with rfl | hx
     ·rfl
     ·exact hlen7 x (List.mem_of_mem_drop hx)
  refine hr.own hmg hnc hcm ?_ ?_ hln
  ·rw [hfl] at hcl
   simpa using hcl
  ·rw [show l.length * entryT.k=l.length * 7 from rfl,<- hln,List.take_length]
theorem zo5 (l:List Str):l.flatMap strC=l.map (fun s=>St s):=by
 induction l with
 | nil=>rfl
 | cons a r ih=>simp [ih,strC]
theorem zs0 {l:List Str} {s:Str} {i:Nat} (hR:RiseS l) (hF:Found l s i false):i<=l.length/\l.take i++s :: l.drop i=insP l s:=by
 have hno:=hF.no hR
 have gt:∀ (j:Nat) (x:Str),i<=j->l[j]? = some x->ltS s x=true:=fun j x hj hx=>by
  rcases zb4 s x with h | h | h
  ·exact h
  ·exact absurd (h ▸ List.mem_of_getElem? hx) hno
  ·rw [hF.2.1.2 j _ hj hx] at h;cases h
 refine ⟨hF.1,?_⟩;unfold insP;rw [zh2 (i:=i) (fun j x hj hx=>hF.2.1.1 j _ hj hx) (fun j x hj hx=>hF.2.1.2 j _ hj hx),zh3 (i:=i) (fun j x hj hx=>zcd (hF.2.1.1 j _ hj hx)) gt]
theorem zxb (l:List Str) (s:Str) {i:Nat} (h:l.take i++s :: l.drop i=insP l s) (hi:i<=l.length):(insP l s).length=l.length+1:=by
 rw [<- h];simp;omega
theorem zo6 {w W:World} {z m q:Nat} {v1 v2 v3:Value} {s:State} {zs:List Value} (h1:Own W w.heap.size 97 2 v1 s.all.length (s.all.flatMap zae)) (hE:RowE W m z v2 s.entries) (h3:Own W w.heap.size 9 1 v3 s.pruned.length (s.pruned.flatMap strC))
  (hr:RowIs W q 26 zs []) (hq:q < m) (hw:w.heap.size<=m):StAt (put3 W q v1 v2 v3) (fun b=>w.heap.size<=b) s v1 v2 v3:=by
 have hk:=zd2 W q v1 v2 v3;have a1:=h1.keep (w':=put3 W q v1 v2 v3) fun b hb _=>hk b (fun e=>h1.apart hr (by decide) (e ▸ hb))
 have a3:=h3.keep (w':=put3 W q v1 v2 v3) fun b hb _=>hk b (fun e=>h3.apart hr (by decide) (e ▸ hb))
 have a2:RowE (put3 W q v1 v2 v3) m z v2 s.entries:=hE.keep fun b hb hlt _=>hk b (by omega)
 exact⟨zay a1,OwnL.sl a2 (by decide) (fun b _ h=>Nat.le_trans hw h.1) (fun b h _=>Nat.le_trans hw h),zfd a3⟩
theorem zs1 (b:Str) (c:Nat) (ow:Str) (n:Nat) (w:World):Calls Tryz.prog 41 #[prV (b,c,ow,n)] w fun e w'=>e=.returned (.func (.func 91) #[] #[.pointer (some ⟨w.heap.size,0,none⟩)])/\w'=w.alloc (.cells #[St b,U c,St ow,U n] 29):=by
 go_enter Tryz.func41,Tryz.ntmps41;go_wp2;go_ret;exact⟨rfl,rfl⟩
theorem zxc {α:Type} {T:α->α} {l:List α} {j:Nat} {e:α} (h:l[j]? = some e):((l.take j).map T++l.drop j)[j]? = some e/\((l.take j).map T++l.drop j).set j (T e)=(l.take (j+1)).map T++l.drop (j+1):=by
 have hj:=(List.getElem?_eq_some_iff.1 h).1;have hd:l.drop j=e :: l.drop (j+1):=by rw [<- (List.getElem?_eq_some_iff.1 h).2,List.getElem_cons_drop]
 have hl:((l.take j).map T).length=j:=by simp;omega
 constructor
 ·rw [List.getElem?_append_right (by omega),hl,Nat.sub_self,hd]
  rfl
 ·rw [List.set_append_right _ _ (by omega),hl,Nat.sub_self,hd,List.set_cons_zero,List.take_add_one,h];simp
theorem zfu {S:Nat->Prop} {s:State} {v1 v2 v3:Value} {w:World} (p:PrD) (h:StAt w S s v1 v2 v3) (sm:SmallS s) :
  Calls Tryz.prog 10 #[stV v1 v2 v3,prV p] w fun r w'=>∃ u1 u2 u3,r=.returned (.tuple #[stV u1 u2 u3,I (zax s p).2])/\StAt w' (fun b=>w.heap.size<=b) (zax s p).1 u1 u2 u3/\Ext w w':=by
 have HRS:=zH (show zax s p=if mayS s && mayP p then (if p.1 ∈ s.pruned then (s,0) else if 0 < ofM s.all p.1 then (if zcx s.all p then (⟨zar s.all p.1,s.entries.map (zca p),insP s.pruned p.1⟩,0) else (za3,170)) else (⟨s.all,s.entries,insP s.pruned p.1⟩,0)) else (za3,2) from rfl);have HRI:=zH (fun hm:mayS s=true=>(mayS_iff.1 hm).risep);have HBD:=zH (fun hp:mayP p=true=>(show p.2.2.2+p.2.1 < 18446744073709551616 by simp only [mayP,Bool.and_eq_true,decide_eq_true_eq] at hp;omega));have SM:=zH sm;obtain⟨sa,se,sp⟩:=s;obtain⟨b,c,ow,n⟩:=p;obtain⟨A1,n1,rfl,-,-⟩:=h.all.form;obtain⟨A2,n2,rfl,-,-⟩:=h.entries.form;obtain⟨A3,n3,rfl,-,-⟩:=h.pruned.form;obtain⟨W0,hW0⟩:∃ X,((w.alloc (.cells #[.slice A1 sa.length n1,.slice A2 se.length n2,.slice A3 sp.length n3] 26)).alloc (.cells #[St b,U c,St ow,U n] 29)).alloc (.cells #[.slice none 0 0,.slice none 0 0,.slice none 0 0] 26)=X:=⟨_,rfl⟩
 have hx0:Ext w W0:=by rw [<- hW0];exact (((Ext.refl w).alloc _).alloc _).alloc _
 have rB0:RowIs W0 w.heap.size 26 [.slice A1 sa.length n1,.slice A2 se.length n2,.slice A3 sp.length n3] []:=by rw [<- hW0];exact ((zai w _ _).alloc _).alloc _
 have rP0:RowIs W0 (w.heap.size+1) 29 [St b,U c,St ow,U n] []:=by rw [<- hW0];have h:=zai (w.alloc (.cells #[.slice A1 sa.length n1,.slice A2 se.length n2,.slice A3 sp.length n3] 26)) 29 [St b,U c,St ow,U n];simp only [World.size_alloc] at h;exact h.alloc _
 have rR0:RowIs W0 (w.heap.size+2) 26 [.slice none 0 0,.slice none 0 0,.slice none 0 0] []:=by rw [<- hW0];have h:=zai ((w.alloc (.cells #[.slice A1 sa.length n1,.slice A2 se.length n2,.slice A3 sp.length n3] 26)).alloc (.cells #[St b,U c,St ow,U n] 29)) 26 [.slice none 0 0,.slice none 0 0,.slice none 0 0];simp only [World.size_alloc] at h;exact h
 have hz0:w.heap.size+3<=W0.heap.size:=by rw [<- hW0];simp
 have H0:=zH ((h.mono (S':=fun b=>b < w.heap.size) (fun b hb _=>hb)).ext hx0);have H1:=zH (ziu (h.ext hx0) sm);obtain⟨b0,b1,b2⟩:=rB0.p3;clear h sm;go_enter Tryz.func10,Tryz.ntmps10;refine wp_seq_k ?_;intro K hK;have HK:=zH hK;clear hK;go_wp2_with fail
 (try rw [hW0])
 clear hW0;refine HK.out _ _ ?_;clear HK K;refine wp_seq_k ?_;intro K hK;have HK:=zH hK;clear hK;go_wp2_with fail;refine H1.out.mono ?_;rintro r W1 ⟨rfl,hx1⟩;have hx01:=hx0.trans hx1;have rB1:=rB0.ext hx1;have rP1:=rP0.ext hx1;have rR1:=rR0.ext hx1;have hz1:=Nat.le_trans hz0 hx1.size;have H1:=zH (H0.out.ext hx1);clear hx0 rB0 rP0 rR0 hz0 hx1 b0 b1 b2
 cases hm:mayS ⟨sa,se,sp⟩ with
 | false =>
  have HR:=zH (show zax ⟨sa,se,sp⟩ (b,c,ow,n)=(za3,2) by rw [HRS.out,hm];rfl);clear HRS HRI hm;obtain⟨r0,r1,r2⟩:=rR1.p3;obtain⟨f0,f1,f2⟩:=rR1.q3;have HX:=zH hx01;go_wp2_with fail
  (try simp only [Exit.inBlock,Exit.then])
  refine bodyPost_ret (v:=.tuple #[stV (.slice none 0 0) (.slice none 0 0) (.slice none 0 0),I 2]) (by simp [results,Tryz.f10,go_sem,r0,r1,r2]) rfl ?_;have hq:=zbe (q:=w.heap.size+2) HX.out (by omega) (.slice none 0 0) (.slice none 0 0) (.slice none 0 0);refine ⟨.slice none 0 0,.slice none 0 0,.slice none 0 0,by (rw [HR.out];try rfl),?_⟩;rw [HR.out];exact⟨StAt.none _ _ _ _ _,hq⟩
 | true =>
  have HMP:=zH (zk6 (b,c,ow,n) W1);obtain⟨p0,p1,p2,p3⟩:=rP1.p4;have HRP:=zH (HRI.out hm);have HRS2:=HRS;have HM:=zH hm;clear HRI hm;go_wp2_with fail;refine HMP.out.mono ?_;rintro r W2 ⟨rfl,hx2⟩;have hx02:=hx01.trans hx2;have rB2:=rB1.ext hx2;have rP2:=rP1.ext hx2;have rR2:=rR1.ext hx2;have hz2:=Nat.le_trans hz1 hx2.size;have H2:=zH (H1.out.ext hx2);clear rB1 rP1 rR1 hz1 hx2 p0 p1 p2 p3 hx01 HMP H1
  cases hp:mayP (b,c,ow,n) with
  | false =>
   have HR:=zH (show zax ⟨sa,se,sp⟩ (b,c,ow,n)=(za3,2) by rw [HRS.out,HM.out,hp];rfl);clear HRS HM hp;obtain⟨r0,r1,r2⟩:=rR2.p3;obtain⟨f0,f1,f2⟩:=rR2.q3;have HX:=zH hx02;go_wp2_with fail
   (try simp only [Exit.inBlock,Exit.then])
   refine bodyPost_ret (v:=.tuple #[stV (.slice none 0 0) (.slice none 0 0) (.slice none 0 0),I 2]) (by simp [results,Tryz.f10,go_sem,r0,r1,r2]) rfl ?_;have hq:=zbe (q:=w.heap.size+2) HX.out (by omega) (.slice none 0 0) (.slice none 0 0) (.slice none 0 0);refine ⟨.slice none 0 0,.slice none 0 0,.slice none 0 0,by (rw [HR.out];try rfl),?_⟩;rw [HR.out];exact⟨StAt.none _ _ _ _ _,hq⟩
  | true =>
   have hbd:=HBD.out hp;have HPM:=zH hp;have HRS3:=zH (show zax ⟨sa,se,sp⟩ (b,c,ow,n)=if b ∈ sp then (⟨sa,se,sp⟩,0) else if 0 < ofM sa b then (if zcx sa (b,c,ow,n) then (⟨zar sa b,se.map (zca (b,c,ow,n)),insP sp b⟩,0) else (za3,170)) else (⟨sa,se,insP sp b⟩,0) by rw [HRS.out,HM.out,hp];rfl);have HC:=zH (zl3 H2.out SM.out);obtain⟨b0,b1,b2⟩:=rB2.p3;clear HRS HM hp HBD HRS2;go_wp2_with fail;refine HK.out _ _ ?_;clear HK K;refine wp_seq_k ?_;intro K hK;have HK:=zH hK;clear hK;go_wp2_with fail;refine HC.out.mono ?_;rintro r W3 ⟨u1,u2,u3,rfl,⟨ho1,ho3,m,hm2,hmz,hbl,hoE⟩,hx3⟩;obtain⟨C1,c1,rfl,-,-⟩:=ho1.form;obtain⟨C2,c2,rfl,-,-⟩:=hoE.form;obtain⟨C3,c3,rfl,-,-⟩:=ho3.form;simp only at ho1 ho3 hoE ⊢;have hx03:=hx02.trans hx3;obtain⟨z6,hz6⟩:∃ z,W3.heap.size=z:=⟨_,rfl⟩
   rw [hz6] at hmz;have hE3:RowE W3 m z6 (.slice C2 se.length c2) se:=OwnL.mono hoE.toT fun b hb h=>⟨h.1,by omega,h.2⟩
   obtain⟨W4,hW4⟩:∃ X,W3.alloc (.cells #[.slice C1 sa.length c1,.slice C2 se.length c2,.slice C3 sp.length c3] 26)=X:=⟨_,rfl⟩
   have hx4:Ext W3 W4:=(by rw [<- hW4];exact (Ext.refl W3).alloc _);have r64:RowIs W4 z6 26 [.slice C1 sa.length c1,.slice C2 se.length c2,.slice C3 sp.length c3] []:=(by rw [<- hW4,<- hz6];exact zai W3 _ _);have hx04:=hx03.trans hx4;have hB:w.heap.size+3<=m:=Nat.le_trans hz2 hm2;have hbw:w.heap.size<=W2.heap.size:=hx02.size;have ho14:=(ho1.ext hx4).lower hbw;have ho34:=(ho3.ext hx4).lower hbw;have hE4:=hE3.ext hx4;have HBS:=zH (zqk b (zfd ho34) HRP.out (Nat.le_trans SM.out.pruned (by decide)));have rB4:=(rB2.ext hx3).ext hx4;have rP4:=(rP2.ext hx3).ext hx4;have rR4:=(rR2.ext hx3).ext hx4;have q2:=r64.cell (j:=2) rfl;have p0:=rP4.cell (j:=0) rfl;have hz4:w.heap.size+3<=z6:=(by rw [<- hz6];exact Nat.le_trans hz2 hx3.size);have H4:=zH ((H2.out.ext hx3).ext hx4);clear ho1 ho3 hoE hE3 hx3 hx4 hx03 hx02 hm2 rB2 rP2 rR2 hz2 b0 b1 b2 H2;go_wp2_with fail
   (try rw [hz6])
   (try rw [hW4])
   clear hW4 hz6;refine HK.out _ _ ?_;clear HK K;refine wp_seq_k ?_;intro K hK;have HK:=zH hK;clear hK;go_wp2_with fail;refine HBS.out.mono ?_;rintro r W5 ⟨i,is,rfl,hF,hx5⟩;have hx05:=hx04.trans hx5;have r65:=r64.ext hx5;have ho15:=ho14.ext hx5;have ho35:=ho34.ext hx5;have hE5:=hE4.ext hx5;have rB5:=rB4.ext hx5;have rP5:=rP4.ext hx5;have rR5:=rR4.ext hx5;have H5:=zH (H4.out.ext hx5);clear hx04 r64 ho14 ho34 hE4 rB4 rP4 rR4 hx5 q2 p0 HBS H4;go_wp2_with fail;refine HK.out _ _ ?_;clear HK K;refine wp_seq_k ?_;intro K hK;have HK:=zH hK;clear hK
   cases is with
   | true =>
    have hbm:b ∈ sp:=List.mem_of_getElem? hF.yes;have HR:=zH (show zax ⟨sa,se,sp⟩ (b,c,ow,n)=(⟨sa,se,sp⟩,0) by rw [HRS3.out,if_pos hbm]);obtain⟨q0,q1,q2⟩:=r65.p3;obtain⟨r0,r1,r2⟩:=rR5.p3;obtain⟨f0,f1,f2⟩:=rR5.q3;have HX:=zH hx05;clear hbm hF;go_wp2_with fail
    (try simp only [Exit.inBlock,Exit.then])
    refine bodyPost_ret (v:=.tuple #[stV (.slice C1 sa.length c1) (.slice C2 se.length c2) (.slice C3 sp.length c3),I 0]) (by simp [results,Tryz.f10,go_sem,r0,r1,r2]) rfl ?_;have hq:=zbe (q:=w.heap.size+2) HX.out (by omega) (.slice C1 sa.length c1) (.slice C2 se.length c2) (.slice C3 sp.length c3);have he:=zo6 (s:=⟨sa,se,sp⟩) ho15 hE5 ho35 rR5 (by omega) (by omega);refine ⟨_,_,_,by (rw [HR.out];try rfl),?_⟩;rw [HR.out];exact⟨he,hq⟩
   | false =>
    have hbm:=hF.no HRP.out;have HRS4:=zH (show zax ⟨sa,se,sp⟩ (b,c,ow,n)=if 0 < ofM sa b then (if zcx sa (b,c,ow,n) then (⟨zar sa b,se.map (zca (b,c,ow,n)),insP sp b⟩,0) else (za3,170)) else (⟨sa,se,insP sp b⟩,0) by rw [HRS3.out,if_neg hbm]);have HIP:=zH (zs0 HRP.out hF);have HOF:=zH (zcw b (H5.out.all));have q0:=rB5.cell (j:=0) rfl;have p0:=rP5.cell (j:=0) rfl;clear hbm HRS3 hF;go_wp2_with fail;refine HK.out _ _ ?_;clear HK K;refine wp_seq_k ?_;intro K hK
    have REST:∀ ⦃u9 u10 u11 u12 u13 u14 u15 u16 u17 u18 u19 u20 u21 u22 u23 u24 u25 u26 u27 u28 u29 u30 u31 u32 u33 u34 u35 u36 u37 u38 u39 u40 u41 u42 u43 u44 u45 u46 u47 u48 u49 u50 u51 u52 u53 u54 u55 u56 u57 u58 u59 u60 u61 u62 u63:Value⦄ (W:World) (al:List Mark) (en:List Entry) (D1:Option Addr) (d1:Nat),en.length=se.length ->
      RowIs W z6 26 [.slice D1 al.length d1,.slice C2 se.length c2,.slice C3 sp.length c3] []->RowIs W (w.heap.size+1) 29 [St b,U c,St ow,U n] []->RowIs W (w.heap.size+2) 26 [.slice none 0 0,.slice none 0 0,.slice none 0 0] [] ->
      Own W w.heap.size 97 2 (.slice D1 al.length d1) al.length (al.flatMap zae)->RowE W m z6 (.slice C2 se.length c2) en->Own W w.heap.size 9 1 (.slice C3 sp.length c3) sp.length (sp.flatMap strC)->Ext w W->zax ⟨sa,se,sp⟩ (b,c,ow,n)=(⟨al,en,insP sp b⟩,0) ->
      K ⟨#[stV (.slice A1 sa.length n1) (.slice A2 se.length n2) (.slice A3 sp.length n3),prV (b,c,ow,n),.pointer (some ⟨w.heap.size,0,none⟩),.pointer (some ⟨w.heap.size+1,0,none⟩),.pointer (some ⟨w.heap.size+1+1,0,none⟩),.int .i64 0,.pointer (some ⟨z6,0,none⟩),I i,.bool false,u9,u10,u11,u12,u13,u14,u15,u16,u17,u18,u19,u20,u21,u22,u23,u24,u25,u26,u27,u28,u29,u30,u31,u32,u33,u34,u35,u36,u37,u38,u39,u40,u41,u42,u43,u44,u45,u46,u47,u48,u49,u50,u51,u52,u53,u54,u55,u56,u57,u58,u59,u60,u61,u62,u63,undef,undef,undef,undef,undef,undef,undef,undef,undef],[]⟩ W:=by
     intro u9 u10 u11 u12 u13 u14 u15 u16 u17 u18 u19 u20 u21 u22 u23 u24 u25 u26 u27 u28 u29 u30 u31 u32 u33 u34 u35 u36 u37 u38 u39 u40 u41 u42 u43 u44 u45 u46 u47 u48 u49 u50 u51 u52 u53 u54 u55 u56 u57 u58 u59 u60 u61 u62 u63 W al en D1 d1 hen r6 rP rR h1 hE h3 hx hR;have HR:=zH hR;have HSP:=zH SM.out.pruned;refine hK _ _ ?_;have q2:=r6.cell (j:=2) rfl;have p0:=rP.cell (j:=0) rfl;have hil:=HIP.out.1;clear hK K hR HRS4 HOF q0 HRP SM H5 HPM;obtain⟨vb,hvb⟩:∃ z,W.heap.size=z:=⟨_,rfl⟩
     obtain⟨Wb,hWb⟩:∃ X,W.alloc (.cells #[St b] 9)=X:=⟨_,rfl⟩
     have hxb:Ext W Wb:=(by rw [<- hWb];exact (Ext.refl W).alloc _);have rV:RowIs Wb vb 9 [St b] []:=(by rw [<- hWb,<- hvb];exact zai W _ _);have hws:=hx.size;have hwb:=(hx.trans hxb).size;have h3b:=h3.ext hxb;have HI:=zH (zqm (i:=i) h3b rV rfl (by intro u hu;simp at hu;subst hu;rfl) (by intro u hu;rw [zo5] at hu;obtain⟨y,-,rfl⟩:=List.mem_map.1 hu;rfl) hil HSP.out hwb (fun ho=>by have:=(h3.base_le ho).2;omega));have HB1:=zH (fun b' (ho:zaf (.slice C3 sp.length c3) b')=>(h3.base_le ho).1);have HN6:=zH (h3.apart r6 (by decide));have HNR:=zH (h3.apart rR (by decide));have HN1:=zH (h1.apart2 h3 (by decide));obtain⟨xE,hoE⟩:=hE.own;have HN2:=zH (hoE.apart2 h3 (by decide));have r6b:=r6.ext hxb;have rRb:=rR.ext hxb;have h1b:=h1.ext hxb;have hEb:=hE.ext hxb;have hxw:=hx.trans hxb;clear r6 rP rR h1 hE h3 hx hxb h3b hoE;go_wp2_with fail
     (try rw [hvb])
     (try rw [hWb])
     clear hWb;refine HI.out.mono ?_;rintro r W6 ⟨v',rfl,hv',hgr⟩;have hm6:=hgr.moved (Ext.refl Wb);have r66:=r6b.mvR hm6.mv HN6.out;have rR6:=rRb.mvR hm6.mv HNR.out;have h16:=h1b.mvR hm6.mv HN1.out;have hE6:RowE W6 m z6 (.slice C2 se.length c2) en:=hEb.keep fun b' hb' hlt hor=>hm6.mv.2 b' hlt fun ho=>hor.elim (fun _=>by have:=hbl b' (.inr ho);omega) fun h2=>HN2.out b' h2 ho
     have hxw6:=hxw.moved hm6 HB1.out
     have hv6:Own W6 w.heap.size 9 1 v' (insP sp b).length ((insP sp b).flatMap strC):=by
      rw [zxb sp b HIP.out.2 hil,<- HIP.out.2];rw [zo5] at hv' ⊢;rw [<- List.map_take,<- List.map_drop] at hv'
      simpa using hv'
     obtain⟨D3,d3,rfl,-,-⟩:=hv6.form;have y2:=r66.cell (j:=2) rfl;have g2:=r66.frozen 2;have hS:=r66.set (j:=2) (by simp) (.slice D3 (insP sp b).length d3);simp only [List.set_cons_succ,List.set_cons_zero] at hS;obtain⟨W7,hW7⟩:∃ X,W6.setCell ⟨z6,2,none⟩ (.slice D3 (insP sp b).length d3)=X:=⟨_,rfl⟩
     have hk7:∀ b',b' ≠ z6->W7.heap[b']? = W6.heap[b']?:=fun b' hb'=>by rw [<- hW7];exact Below.heap_setCell _ _ _ _ hb'
     have h17:=h16.keep (w':=W7) fun b' hb' _=>hk7 b' (fun e=>h16.apart r66 (by decide) (e ▸ hb'))
     have hv7:=hv6.keep (w':=W7) fun b' hb' _=>hk7 b' (fun e=>hv6.apart r66 (by decide) (e ▸ hb'))
     have hE7:RowE W7 m z6 (.slice C2 se.length c2) en:=(by rw [<- hW7];exact hE6.set r66 (by decide));have rR7:=rR6.keep (hk7 _ (by omega));have hx7:Ext w W7:=(by rw [<- hW7];exact hxw6.set (by simp;omega) _);rw [hW7] at hS;obtain⟨q0,q1,q2⟩:=hS.p3;obtain⟨r0,r1,r2⟩:=rR7.p3;obtain⟨f0,f1,f2⟩:=rR7.q3;have HX:=zH hx7;clear hv' hgr hm6 r66 rR6 h16 hE6 hxw6 hv6 hS hk7 hx7;go_wp2_with fail
     (try simp only [Exit.inBlock,Exit.then])
     refine bodyPost_ret (v:=.tuple #[stV (.slice D1 al.length d1) (.slice C2 se.length c2) (.slice D3 (insP sp b).length d3),I 0]) (by simp [results,Tryz.f10,go_sem,r0,r1,r2]) rfl ?_;have hq:=zbe (q:=w.heap.size+2) HX.out (by omega) (.slice D1 al.length d1) (.slice C2 se.length c2) (.slice D3 (insP sp b).length d3);have he:=zo6 (s:=⟨al,en,insP sp b⟩) h17 hE7 hv7 rR7 (by omega) (by omega);refine ⟨_,_,_,by (rw [HR.out];try rfl),?_⟩;rw [HR.out];exact⟨he,hq⟩
    have HRST:=zH REST;clear REST hK;go_wp2_with fail;refine HOF.out.mono ?_;rintro r W6 ⟨rfl,hx6⟩;have hx06:=hx05.trans hx6;have r66:=r65.ext hx6;have ho16:=ho15.ext hx6;have ho36:=ho35.ext hx6;have hE6:=hE5.ext hx6;have rB6:=rB5.ext hx6;have rP6:=rP5.ext hx6;have rR6:=rR5.ext hx6;have H6:=zH (H5.out.ext hx6);clear hx05 r65 ho15 ho35 hE5 rB5 rP5 rR5 hx6 q0 p0 HOF H5;obtain⟨zz,hzz⟩:∃ z,ofM sa b=z:=⟨_,rfl⟩
    rw [hzz] at HRS4;rw [hzz];rcases Nat.eq_zero_or_pos zz with h0 | h0
    ·subst h0;have HR:=zH (show zax ⟨sa,se,sp⟩ (b,c,ow,n)=(⟨sa,se,insP sp b⟩,0) by rw [HRS4.out,if_neg (by omega)])
     have HEND:=zH (⟨r66,rP6,rR6,ho16,hE6,ho36,hx06⟩:RowIs W6 z6 26 [.slice C1 sa.length c1,.slice C2 se.length c2,.slice C3 sp.length c3] []/\RowIs W6 (w.heap.size+1) 29 [St b,U c,St ow,U n] []/\RowIs W6 (w.heap.size+2) 26 [.slice none 0 0,.slice none 0 0,.slice none 0 0] [] /\
      Own W6 w.heap.size 97 2 (.slice C1 sa.length c1) sa.length (sa.flatMap zae)/\RowE W6 m z6 (.slice C2 se.length c2) se/\Own W6 w.heap.size 9 1 (.slice C3 sp.length c3) sp.length (sp.flatMap strC)/\Ext w W6)
     clear r66 rB6 rP6 rR6 ho16 ho36 hE6 hx06 H6;go_wp2_with fail;obtain⟨e1,e2,e3,e4,e5,e6,e7⟩:=HEND.out;exact HRST.out W6 sa se C1 c1 rfl e1 e2 e3 e4 e5 e6 e7 HR.out
    ·have hgt:(zz:Int) > 0:=(by omega);have HRS5:=zH (show zax ⟨sa,se,sp⟩ (b,c,ow,n)=if zcx sa (b,c,ow,n) then (⟨zar sa b,se.map (zca (b,c,ow,n)),insP sp b⟩,0) else (za3,170) by rw [HRS4.out,if_pos h0]);have HRY:=zH (zgt (b,c,ow,n) HPM.out H6.out);obtain⟨b0,b1,b2⟩:=rB6.p3;obtain⟨p0,p1,p2,p3⟩:=rP6.p4;clear HRS4 H6 h0 hzz;go_wp2_with fail;refine HRY.out.mono ?_;rintro r W7 ⟨rfl,hx7⟩;simp only at HRS5 ⊢;have hx07:=hx06.trans hx7;have r67:=r66.ext hx7;have ho17:=ho16.ext hx7;have ho37:=ho36.ext hx7;have hE7:=hE6.ext hx7;have rP7:=rP6.ext hx7;have rR7:=rR6.ext hx7;clear hx06 r66 ho16 ho36 hE6 rB6 rP6 rR6 hx7 b0 b1 b2 p0 p1 p2 p3 HRY hgt
     cases hr:zcx sa (b,c,ow,n) with
     | false =>
      have HR:=zH (show zax ⟨sa,se,sp⟩ (b,c,ow,n)=(za3,170) by rw [HRS5.out,hr];rfl);clear HRS5 hr HRST;obtain⟨r0,r1,r2⟩:=rR7.p3;obtain⟨f0,f1,f2⟩:=rR7.q3;have HX:=zH hx07;go_wp2_with fail
      (try simp only [Exit.inBlock,Exit.then])
      refine bodyPost_ret (v:=.tuple #[stV (.slice none 0 0) (.slice none 0 0) (.slice none 0 0),I 170]) (by simp [results,Tryz.f10,go_sem,r0,r1,r2]) rfl ?_;have hq:=zbe (q:=w.heap.size+2) HX.out (by omega) (.slice none 0 0) (.slice none 0 0) (.slice none 0 0);refine ⟨.slice none 0 0,.slice none 0 0,.slice none 0 0,by (rw [HR.out];try rfl),?_⟩;rw [HR.out];exact⟨StAt.none _ _ _ _ _,hq⟩
     | true =>
      have HR:=zH (show zax ⟨sa,se,sp⟩ (b,c,ow,n)=(⟨zar sa b,se.map (zca (b,c,ow,n)),insP sp b⟩,0) by rw [HRS5.out,hr];rfl);obtain⟨p0,p1,p2,p3⟩:=rP7.p4;have HTN:=zH (zs1 b c ow n W7);clear HRS5 hr;go_wp2_with fail;refine HTN.out.mono ?_;rintro r W8 ⟨rfl,hW8⟩;have hx8:Ext W7 W8:=(by rw [hW8];exact (Ext.refl W7).alloc _);obtain⟨pb,hpb⟩:∃ z,W7.heap.size=z:=⟨_,rfl⟩
      have rPB:RowIs W8 pb 29 [St b,U c,St ow,U n] []:=(by rw [hW8,<- hpb];exact zai W7 _ _);have q1:=(r67.ext hx8).cell (j:=1) rfl
      have HLOOP:=zH (⟨r67.ext hx8,rP7.ext hx8,rR7.ext hx8,rPB,ho17.ext hx8,hE7.ext hx8,ho37.ext hx8,hx07.trans hx8⟩:RowIs W8 z6 26 [.slice C1 sa.length c1,.slice C2 se.length c2,.slice C3 sp.length c3] []/\RowIs W8 (w.heap.size+1) 29 [St b,U c,St ow,U n] []/\RowIs W8 (w.heap.size+2) 26 [.slice none 0 0,.slice none 0 0,.slice none 0 0] [] /\
       RowIs W8 pb 29 [St b,U c,St ow,U n] []/\Own W8 w.heap.size 97 2 (.slice C1 sa.length c1) sa.length (sa.flatMap zae)/\RowE W8 m z6 (.slice C2 se.length c2) se/\Own W8 w.heap.size 9 1 (.slice C3 sp.length c3) sp.length (sp.flatMap strC)/\Ext w W8)
      have hz68:z6 < W8.heap.size:=(r67.ext hx8).lt;have eg:∀ args w,(callFunc 91 args).run Tryz.prog w=.ok (.enter 91 args) w:=enters_of Tryz.func91 (by kernel_rfl) rfl;clear hW8 hx8 r67 rP7 rR7 rPB ho17 hE7 ho37 hx07 p0 p1 p2 p3;go_wp2_with fail
      (try rw [hpb])
      clear hpb;have hseb:se.length<=549755813888:=SM.out.entries
      go_loopw [48] (fun i wr=>∃ j:Nat,i=I j/\j<=se.length/\z6 < wr.heap.size/\Hid (RowIs wr z6 26 [.slice C1 sa.length c1,.slice C2 se.length c2,.slice C3 sp.length c3] []/\RowIs wr (w.heap.size+1) 29 [St b,U c,St ow,U n] []/\RowIs wr (w.heap.size+2) 26 [.slice none 0 0,.slice none 0 0,.slice none 0 0] [] /\
       RowIs wr pb 29 [St b,U c,St ow,U n] []/\Own wr w.heap.size 97 2 (.slice C1 sa.length c1) sa.length (sa.flatMap zae)/\RowE wr m z6 (.slice C2 se.length c2) ((se.take j).map (zca (b,c,ow,n))++se.drop j)/\Own wr w.heap.size 9 1 (.slice C3 sp.length c3) sp.length (sp.flatMap strC)/\Ext w wr)) (fun i _=>se.length - (intOf i).toNat)
      case atStart=>exact⟨0,rfl,Nat.zero_le _,hz68,by simpa using HLOOP⟩
      case round =>
       obtain⟨j,rfl,hj,hzr,hI⟩:=hrel
       by_cases hlt:j < se.length
       ·obtain⟨e,hej⟩:∃ e,se[j]? = some e:=⟨_,List.getElem?_eq_getElem hlt⟩
        obtain⟨t1,t2⟩:=zxc (T:=zca (b,c,ow,n)) hej;obtain⟨i1,i2,i3,i4,i5,i6,i7,i8⟩:=hI.out;obtain⟨g,cap,X1,X2,tail,w1,w2,w3,hv,hmg,hrow,hX1,hat,hnS,hback⟩:=RowE.turn i6 t1;injection hv with hv1 hv2 hv3
        subst hv1;have HT:=zH (zqj (p:=(b,c,ow,n)) hrow hX1 hat hnS i4 hbd (SM.out.each e (List.mem_of_getElem? hej)));have k1:=i1.cell (j:=1) rfl;have HJ:=zH hej;have HI:=zH (⟨hrow,hback,t2,hmg⟩:RowIs wr g 46 (X1++(entL e w1 w2 w3++X2)) tail/\_/\_/\_);clear i1 i2 i3 i4 i5 i6 i7 i8 t1 t2 hrow hback hat hnS hX1 hej q1 hv2 hv3;go_wp2_with fail;refine HT.out.mono ?_;rintro r W9 ⟨x1,x2,x3,rfl,hr9,ha9,hk9⟩;obtain⟨hrow,hback,t2,hmg⟩:=HI.out;obtain⟨i1,i2,i3,i4,i5,i6,i7,i8⟩:=hI.out;have hE9:=hback W9 _ x1 x2 x3 hr9 hk9 ha9 hzr;rw [t2] at hE9;have kp:∀ {b' T:Nat} {ys tl:List Value},RowIs wr b' T ys tl->46 ≠ T->RowIs W9 b' T ys tl:=fun hr hT=>hr.keep (hk9.other _ hr.lt (hrow.apart hr hT) (hrow.apart hr hT))
        have HN:=zH (⟨kp i1 (by decide),kp i2 (by decide),kp i3 (by decide),kp i4 (by decide),i5.keep fun b' hb' hlt'=>hk9.other b' hlt' (fun e=>i5.apart hrow (by decide) (e ▸ hb')) (fun e=>i5.apart hrow (by decide) (e ▸ hb')),hE9,i7.keep fun b' hb' hlt'=>hk9.other b' hlt' (fun e=>i7.apart hrow (by decide) (e ▸ hb')) (fun e=>i7.apart hrow (by decide) (e ▸ hb')),Ext.kept2 i8 hk9 (by omega) (by omega)⟩ :
         RowIs W9 z6 26 [.slice C1 sa.length c1,.slice (some ⟨g,0,none⟩) se.length c2,.slice C3 sp.length c3] []/\RowIs W9 (w.heap.size+1) 29 [St b,U c,St ow,U n] []/\RowIs W9 (w.heap.size+2) 26 [.slice none 0 0,.slice none 0 0,.slice none 0 0] [] /\
       RowIs W9 pb 29 [St b,U c,St ow,U n] []/\Own W9 w.heap.size 97 2 (.slice C1 sa.length c1) sa.length (sa.flatMap zae)/\RowE W9 m z6 (.slice (some ⟨g,0,none⟩) se.length c2) ((se.take (j+1)).map (zca (b,c,ow,n))++se.drop (j+1))/\Own W9 w.heap.size 9 1 (.slice C3 sp.length c3) sp.length (sp.flatMap strC)/\Ext w W9)
        have hz9:=Nat.lt_of_lt_of_le hzr hk9.size;clear hI i1 i2 i3 i4 i5 i6 i7 i8 hE9 hr9 ha9 hk9 hback hrow t2 kp k1 HI HT;go_wp2_with fail;go_roundw
        case rel=>exact⟨j+1,by simp,hlt,hz9,HN⟩
        case measure=>simp [intOf];omega
       ·obtain rfl:j=se.length:=by omega
        obtain⟨i1,i2,i3,i4,i5,i6,i7,i8⟩:=hI.out;rw [List.take_length,List.drop_length,List.append_nil] at i6;have HD:=zH (zil b (zay i5) (Nat.le_trans SM.out.all (by decide)));have y0:=i1.cell (j:=0) rfl;have p0:=i2.cell (j:=0) rfl;have HI:=zH i6;clear i2 i3 i4 i5 i6 i7 i8 i1 q1;go_wp2_with fail;refine HD.out.mono ?_;rintro r W9 ⟨v',rfl,hv9,hx9⟩;obtain⟨D1,d1,rfl,-,-⟩:=hv9.form;obtain⟨i1,i2,i3,i4,i5,i6,i7,i8⟩:=hI.out;have r69:=i1.ext hx9;have y9:=r69.cell (j:=0) rfl;have g9:=r69.frozen 0;have hS:=r69.set (j:=0) (by simp) (.slice D1 (zar sa b).length d1);simp only [List.set_cons_zero] at hS;obtain⟨Wq,hWq⟩:∃ X,W9.setCell ⟨z6,0,none⟩ (.slice D1 (zar sa b).length d1)=X:=⟨_,rfl⟩
        have hkq:∀ b',b' ≠ z6->Wq.heap[b']? = W9.heap[b']?:=fun b' hb'=>by rw [<- hWq];exact Below.heap_setCell _ _ _ _ hb'
        have hv9':=hv9.lower (i8.size);have e4:=hv9'.keep (w':=Wq) fun b' hb' _=>hkq b' (fun e=>hv9'.apart r69 (by decide) (e ▸ hb'))
        have i79:=i7.ext hx9;have e6:=i79.keep (w':=Wq) fun b' hb' _=>hkq b' (fun e=>i79.apart r69 (by decide) (e ▸ hb'))
        have e5:RowE Wq m z6 (.slice C2 se.length c2) (se.map (zca (b,c,ow,n))):=(by rw [<- hWq];exact (RowE.ext HI.out hx9).set r69 (by decide));have e2:=(i2.ext hx9).keep (w':=Wq) (hkq _ (by omega));have e3:=(i3.ext hx9).keep (w':=Wq) (hkq _ (by omega));have e7:Ext w Wq:=(by rw [<- hWq];exact (i8.trans hx9).set (by simp;omega) _);rw [hWq] at hS
        have HEND:=zH (⟨hS,e2,e3,e4,e5,e6,e7⟩:RowIs Wq z6 26 [.slice D1 (zar sa b).length d1,.slice C2 se.length c2,.slice C3 sp.length c3] []/\RowIs Wq (w.heap.size+1) 29 [St b,U c,St ow,U n] []/\RowIs Wq (w.heap.size+2) 26 [.slice none 0 0,.slice none 0 0,.slice none 0 0] [] /\
         Own Wq w.heap.size 97 2 (.slice D1 (zar sa b).length d1) (zar sa b).length ((zar sa b).flatMap zae)/\RowE Wq m z6 (.slice C2 se.length c2) (se.map (zca (b,c,ow,n)))/\Own Wq w.heap.size 9 1 (.slice C3 sp.length c3) sp.length (sp.flatMap strC)/\Ext w Wq)
        clear i1 i2 i3 i4 i5 i6 i7 i8 r69 hS hkq hv9 hv9' i79 e2 e3 e4 e5 e6 e7 hI hx9;go_wp2_with fail;obtain⟨e1,e2,e3,e4,e5,e6,e7⟩:=HEND.out;exact HRST.out Wq (zar sa b) (se.map (zca (b,c,ow,n))) D1 d1 (by simp) e1 e2 e3 e4 e5 e6 e7 HR.out
end
section
open Go.RowKit Go.Shelf
def zka (s:State) (x:Str):State:=⟨s.all,s.entries,s.pruned.filter fun p=>!(p == x)⟩
theorem zqo (s m:Str) {b:Nat} {w:World} (hb:w.cell? ⟨b,0,none⟩=some (St s)):Calls Tryz.prog 69 #[St m,.pointer (some ⟨b,0,none⟩)] w fun e w'=>e=.returned (.bool (m == s))/\Ext w w':=by
 go_enter Tryz.func69,Tryz.ntmps69;go_wp2;go_ret;exact⟨by simp,Ext.refl _⟩
theorem zqp (s:Str) (b base:Nat) (hb:b < base):PredS Tryz.prog 69 #[.pointer (some ⟨b,0,none⟩)] base (fun W=>W.cell? ⟨b,0,none⟩=some (St s)) (fun m=>m == s) where
 enters:=enters_of Tryz.func69 (by kernel_rfl) rfl
 keep W W' h hB:=(Below.cell hB (p:=⟨b,0,none⟩) hb).trans h
 does m W h:=zqo s m h
theorem zqq {S:Nat->Prop} {s:State} {v1 v2 v3:Value} {w:World} (x:Str) (h:StAt w S s v1 v2 v3) (sm:SmallS s) :
  Calls Tryz.prog 31 #[stV v1 v2 v3,St x] w fun r w'=>∃ u1 u2 u3,r=.returned (stV u1 u2 u3)/\StAt w' (fun b=>w.heap.size<=b) (zka s x) u1 u2 u3/\Ext w w':=by
 have HRS:=zH (show zka s x=⟨s.all,s.entries,s.pruned.filter fun p=>!(p == x)⟩ from rfl);obtain⟨sa,se,sp⟩:=s;obtain⟨A1,n1,rfl,-,-⟩:=h.all.form;obtain⟨A2,n2,rfl,-,-⟩:=h.entries.form;obtain⟨A3,n3,rfl,-,-⟩:=h.pruned.form;obtain⟨W0,hW0⟩:∃ X,((w.alloc (.cells #[.slice A1 sa.length n1,.slice A2 se.length n2,.slice A3 sp.length n3] 26)).alloc (.cells #[St x] 9)).alloc (.cells #[.slice none 0 0,.slice none 0 0,.slice none 0 0] 26)=X:=⟨_,rfl⟩
 have hx0:Ext w W0:=by rw [<- hW0];exact (((Ext.refl w).alloc _).alloc _).alloc _
 have rB0:RowIs W0 w.heap.size 26 [.slice A1 sa.length n1,.slice A2 se.length n2,.slice A3 sp.length n3] []:=by rw [<- hW0];exact ((zai w _ _).alloc _).alloc _
 have rP0:RowIs W0 (w.heap.size+1) 9 [St x] []:=by rw [<- hW0];have h:=zai (w.alloc (.cells #[.slice A1 sa.length n1,.slice A2 se.length n2,.slice A3 sp.length n3] 26)) 9 [St x];simp only [World.size_alloc] at h;exact h.alloc _
 have rR0:RowIs W0 (w.heap.size+2) 26 [.slice none 0 0,.slice none 0 0,.slice none 0 0] []:=by rw [<- hW0];have h:=zai ((w.alloc (.cells #[.slice A1 sa.length n1,.slice A2 se.length n2,.slice A3 sp.length n3] 26)).alloc (.cells #[St x] 9)) 26 [.slice none 0 0,.slice none 0 0,.slice none 0 0];simp only [World.size_alloc] at h;exact h
 have hz0:w.heap.size+3<=W0.heap.size:=by rw [<- hW0];simp
 have HC:=zH (zl3 (h.ext hx0) sm);obtain⟨b0,b1,b2⟩:=rB0.p3;have HSP:=zH sm.pruned;clear h sm;go_enter Tryz.func31,Tryz.ntmps31;refine wp_seq_k ?_;intro K hK;have HK:=zH hK;clear hK;go_wp2_with fail
 (try rw [hW0])
 clear hW0;refine HK.out _ _ ?_;clear HK K;refine wp_seq_k ?_;intro K hK;have HK:=zH hK;clear hK;go_wp2_with fail;refine HC.out.mono ?_;rintro r W3 ⟨u1,u2,u3,rfl,⟨ho1,ho3,m,hm2,hmz,hbl,hoE⟩,hx3⟩;obtain⟨C1,c1,rfl,-,-⟩:=ho1.form;obtain⟨C2,c2,rfl,-,-⟩:=hoE.form;obtain⟨C3,c3,rfl,-,-⟩:=ho3.form;simp only at ho1 ho3 hoE ⊢;obtain⟨z6,hz6⟩:∃ z,W3.heap.size=z:=⟨_,rfl⟩
 rw [hz6] at hmz;have hE3:RowE W3 m z6 (.slice C2 se.length c2) se:=OwnL.mono hoE.toT fun b hb h=>⟨h.1,by omega,h.2⟩
 obtain⟨W4,hW4⟩:∃ X,W3.alloc (.cells #[.slice C1 sa.length c1,.slice C2 se.length c2,.slice C3 sp.length c3] 26)=X:=⟨_,rfl⟩
 have hx4:Ext W3 W4:=by rw [<- hW4];exact (Ext.refl W3).alloc _
 have r64:RowIs W4 z6 26 [.slice C1 sa.length c1,.slice C2 se.length c2,.slice C3 sp.length c3] []:=by rw [<- hW4,<- hz6];exact zai W3 _ _
 have hz4:w.heap.size+3<=z6:=by rw [<- hz6];exact Nat.le_trans hz0 hx3.size
 have ho14:=ho1.ext hx4;have ho34:=ho3.ext hx4;have hE4:=hE3.ext hx4;have rP4:=(rP0.ext hx3).ext hx4;have rR4:=(rR0.ext hx3).ext hx4;have hx04:=(hx3.trans hx4)
 have HD:=zH (zqn (base:=W0.heap.size) ho34 (zqp x (w.heap.size+1) W0.heap.size (by omega)) (rP4.cell (j:=0) rfl) hx04.size);have HB1:=zH (fun b' (ho:zaf (.slice C3 sp.length c3) b')=>(ho34.base_le ho).1);have HN6:=zH (ho34.apart r64 (by decide));have HNR:=zH (ho34.apart rR4 (by decide));have HN1:=zH (ho14.apart2 ho34 (by decide));obtain⟨xE,hxE⟩:=hE4.own;have HN2:=zH (hxE.apart2 ho34 (by decide));have q2:=r64.cell (j:=2) rfl;clear ho1 ho3 hoE hE3 hx3 hx4 rB0 rP0 rR0 b0 b1 b2 ho34 rP4 hxE HC;go_wp2_with fail
 (try rw [hz6])
 (try rw [hW4])
 clear hW4 hz6;refine HK.out _ _ ?_;clear HK K;refine wp_seq_k ?_;intro K hK;have HK:=zH hK;clear hK;go_wp2_with fail;refine HD.out.mono ?_;rintro r W6 ⟨v',rfl,hv',hB6,hk6⟩;have kp:∀ {b' T:Nat} {ys tl:List Value},RowIs W4 b' T ys tl->¬ zaf (.slice C3 sp.length c3) b'->RowIs W6 b' T ys tl:=fun hr hn=>hr.keep (hk6 _ hr.lt hn)
 have r66:=kp r64 HN6.out;have rR6:=kp rR4 HNR.out;have h16:=ho14.keep (w':=W6) fun b' hb' hlt=>hk6 b' hlt (HN1.out b' hb')
 have hE6:RowE W6 m z6 (.slice C2 se.length c2) se:=hE4.keep fun b' hb' hlt hor=>hk6 b' hlt fun ho=>hor.elim (fun _=>by have:=hbl b' (.inr ho);omega) fun h2=>HN2.out b' h2 ho
 have hxw6:Ext w W6:=Below.trans hx0 (Below.mono (Below.trans hx04 hB6) hx0.size);obtain⟨pr,hpr⟩:∃ p,(sp.filter fun m=>!(m == x))=p:=⟨_,rfl⟩
 rw [hpr] at hv';have HR:=zH (show zka ⟨sa,se,sp⟩ x=⟨sa,se,pr⟩ by rw [HRS.out,<- hpr]);obtain⟨D3,d3,rfl,-,-⟩:=hv'.form;have y2:=r66.cell (j:=2) rfl;have g2:=r66.frozen 2;have hS:=r66.set (j:=2) (by simp) (.slice D3 pr.length d3);simp only [List.set_cons_succ,List.set_cons_zero] at hS;obtain⟨W7,hW7⟩:∃ X,W6.setCell ⟨z6,2,none⟩ (.slice D3 pr.length d3)=X:=⟨_,rfl⟩
 have hk7:∀ b',b' ≠ z6->W7.heap[b']? = W6.heap[b']?:=fun b' hb'=>by rw [<- hW7];exact Below.heap_setCell _ _ _ _ hb'
 have h17:=(h16.keep (w':=W7) fun b' hb' _=>hk7 b' (fun e=>h16.apart r66 (by decide) (e ▸ hb'))).lower hx0.size;have hv7:=(hv'.keep (w':=W7) fun b' hb' _=>hk7 b' (fun e=>hv'.apart r66 (by decide) (e ▸ hb'))).lower hx0.size;have hE7:RowE W7 m z6 (.slice C2 se.length c2) se:=by rw [<- hW7];exact hE6.set r66 (by decide)
 have rR7:=rR6.keep (hk7 _ (by omega));have hx7:Ext w W7:=by rw [<- hW7];exact hxw6.set (by simp;omega) _
 rw [hW7] at hS;obtain⟨q0,q1,q2⟩:=hS.p3;obtain⟨r0,r1,r2⟩:=rR7.p3;obtain⟨f0,f1,f2⟩:=rR7.q3;have HX:=zH hx7;clear hv' hB6 hk6 kp r66 rR6 h16 hE6 hxw6 hS hk7 hx7 hE4 r64 rR4 ho14 hx04 hpr;go_wp2_with fail;refine HK.out _ _ ?_;clear HK K;go_wp2_with fail
 (try simp only [Exit.inBlock,Exit.then])
 refine bodyPost_ret (v:=stV (.slice C1 sa.length c1) (.slice C2 se.length c2) (.slice D3 pr.length d3)) (by simp [results,Tryz.f31,go_sem,r0,r1,r2]) rfl ?_;have hq:=zbe (q:=w.heap.size+2) HX.out (by omega) (.slice C1 sa.length c1) (.slice C2 se.length c2) (.slice D3 pr.length d3);have he:=zo6 (s:=⟨sa,se,pr⟩) h17 hE7 hv7 rR7 (by omega) (by omega);refine ⟨_,_,_,rfl,?_⟩;rw [HR.out];exact⟨he,hq⟩
end
section
open Go.Sort
structure LimE (n:Nat) (e:Entry):Prop where
 seen:e.seen.length<=n
 counts:e.counts.length<=n
 items:e.items.length<=n
 dots:∀ it ∈ e.items,it.2.length<=n
 places:(zac e.items).length<=n
structure LimS (n:Nat) (s:State):Prop where
 all:s.all.length<=n
 entries:s.entries.length<=n
 pruned:s.pruned.length<=n
 each:∀ e ∈ s.entries,LimE n e
theorem LimE.small {n:Nat} {e:Entry} (h:LimE n e) (hn:n<=549755813888):SmallE e :=
 ⟨Nat.le_trans h.seen hn,Nat.le_trans h.counts hn,Nat.le_trans h.items hn,fun it hit=>Nat.le_trans (h.dots it hit) hn,Nat.le_trans h.places hn⟩
theorem LimS.small {n:Nat} {s:State} (h:LimS n s) (hn:n<=549755813888):SmallS s :=
 ⟨Nat.le_trans h.all hn,Nat.le_trans h.entries hn,Nat.le_trans h.pruned hn,fun e he=>(h.each e he).small hn⟩
theorem LimE.mono {n m:Nat} {e:Entry} (h:LimE n e) (hn:n<=m):LimE m e :=
 ⟨Nat.le_trans h.seen hn,Nat.le_trans h.counts hn,Nat.le_trans h.items hn,fun it hit=>Nat.le_trans (h.dots it hit) hn,Nat.le_trans h.places hn⟩
theorem zxe {l:List Item} {it:Item} (h:it ∈ l):it.2.length<=(zac l).length:=by
 obtain⟨a,b,rfl⟩:=List.append_of_mem h;simp only [zac,List.flatMap_append,List.flatMap_cons,List.length_append,List.length_map];omega
theorem zvf {ks:List zan} {n:Nat} (h:ks.length<=n):(zbc ks).length<=n/\(∀ it ∈ zbc ks,it.2.length<=n)/\(zac (zbc ks)).length<=n:=by
 have hp:(zac (zbc ks)).length<=n:=by unfold zbc;rw [zee,(zbh ks).length_eq];exact h
 exact⟨Nat.le_trans (zlt ks) h,fun it hit=>Nat.le_trans (zxe hit) hp,hp⟩
theorem zxf (l:List Mark) (p:Str) (n:Nat):(setM l p n).length<=l.length+1:=by
 have h1:(setM l p n).length<=(zaz (za8 (zar l p)) (za8 [(p,n)])).length:=by unfold setM zdp;simp
 have h2:=zij (za8 (zar l p)) (za8 [(p,n)]);have h3:=zd1 (zar l p);have h4:=zd1 [(p,n)];have h5:=zga l p;simp only [List.length_cons,List.length_nil] at h4;omega
theorem zni (a b:List (Str × Nat)):(zcy a b).length<=a.length:=by
 have:=zjd a b (zb1 (a.map Prod.fst));rw [zhj,List.length_map] at this;exact this
theorem znz {s:State} (h:zb6 s=false):LimS 400 s:=by
 simp only [zb6,Bool.or_eq_false_iff,decide_eq_false_iff_not,Nat.not_lt] at h;obtain⟨h1,h2,h3,h4,-⟩:=h;refine ⟨by omega,by omega,by omega,fun e he=>?_⟩
 cases hl:zb0 e with
 | true=>rw [List.any_eq_true.2 ⟨e,he,hl⟩] at h4;cases h4
 | false=>simp only [zb0,Bool.or_eq_false_iff,decide_eq_false_iff_not,Nat.not_lt] at hl;obtain⟨-,k2,k3,k4,-⟩:=hl;have h5:=zvd e.items;have h6:=znh e.items;exact⟨by omega,by omega,by omega,fun it hit=>by have:=zve hit;omega,by omega⟩
end
section
open Go.RowKit Go.Shelf
theorem zvg (l:List zab) (s:Str):(zbd l s).length<=l.length+1:=by
 unfold zbd
 split
 ·have:=zni (za0 l) (za2 l);have:=zgo l;omega
 ·have h1:=zni (zdc (za0 l) s) (zdc (za2 l) s);have h2:(zdc (za0 l) s).length<=(za0 l).length+1:=Nat.le_trans (zoe _ _) (zif _ _ _);have h3:=zgo l;omega
theorem zvh {n:Nat} {e:Entry} (p:PrD) (h:LimE n e):LimE (n+1) (zca p e):=by
 have hk:(setL ((setL (zac e.items)).map (zcf p))).length<=n+1:=by have h1:=ze7 ((setL (zac e.items)).map (zcf p));have h2:=ze7 (zac e.items);have h3:=h.places;rw [List.length_map] at h1;omega
 obtain⟨h1,h2,h3⟩:=zvf hk;refine ⟨?_,Nat.le_trans (zvg _ _) (Nat.succ_le_succ h.counts),h1,h2,h3⟩;unfold zca;simp only;have hs:=h.seen
 split
 ·have h4:=zxf (zar e.seen p.1) p.2.2.1 (max (ofM e.seen p.2.2.1) (p.2.2.2+p.2.1));have h5:=zga e.seen p.1;omega
 ·omega
theorem zx0 (l:List Str) (s:Str):(insP l s).length<=l.length+1:=by
 unfold insP;simp only [List.length_append,List.length_cons]
 have:∀ l:List Str,(l.filter fun x=>ltS x s).length+(l.filter fun x=>ltS s x).length<=l.length:=by
  intro l
  induction l with
  | nil=>simp
  | cons a r ih =>
   cases h1:ltS a s with
   | true=>rw [List.filter_cons_of_pos (by simpa using h1),List.filter_cons_of_neg (by rw [zcd h1];simp)];simp only [List.length_cons];omega
   | false =>
    rw [List.filter_cons_of_neg (by simp [h1])]
    cases h2:ltS s a with
    | true=>rw [List.filter_cons_of_pos (by simpa using h2)];simp only [List.length_cons];omega
    | false=>rw [List.filter_cons_of_neg (by simp [h2])];simp only [List.length_cons];omega
 have:=this l;omega
theorem zl5 {n:Nat} {s:State} (p:PrD) (h:LimS n s):LimS (n+1) (zax s p).1:=by
 have hz:LimS (n+1) za3:=⟨Nat.zero_le _,Nat.zero_le _,Nat.zero_le _,fun e he=>by cases he⟩
 have hi:=Nat.le_trans (zx0 s.pruned p.1) (Nat.succ_le_succ h.pruned);unfold zax
 split
 ·split
  ·exact⟨Nat.le_succ_of_le h.all,Nat.le_succ_of_le h.entries,Nat.le_succ_of_le h.pruned,fun e he=>(h.each e he).mono (Nat.le_succ n)⟩
  ·split
   ·split
    ·refine ⟨Nat.le_succ_of_le (Nat.le_trans (zga _ _) h.all),?_,hi,fun e he=>?_⟩
     ·simpa using Nat.le_succ_of_le h.entries
     ·obtain⟨x,hx,rfl⟩:=List.mem_map.1 he;exact zvh p (h.each x hx)
    ·exact hz
   ·exact⟨Nat.le_succ_of_le h.all,Nat.le_succ_of_le h.entries,hi,fun e he=>(h.each e he).mono (Nat.le_succ n)⟩
 ·exact hz
def zgh (db:List Mark) (s:State) (p:PrD):List Mark × State × Nat:=if (zax s p).2=0 then (zar db p.1,zax s p) else ([],za3,(zax s p).2)
theorem zs4 {S S0:Nat->Prop} {s:State} {v0 v1 v2 v3:Value} {db:List Mark} {w:World} (p:PrD) (h:StAt w S s v1 v2 v3) (h0:Sl zap w S0 v0 db) (sm:SmallS s) (HLB:db.length<=1099511627776) :
  Calls Tryz.prog 26 #[dltV v0 v1 v2 v3,prV p] w fun r w'=>∃ u0 u1 u2 u3,r=.returned (.tuple #[dltV u0 u1 u2 u3,I (zgh db s p).2.2])/\StAt w' (fun b=>w.heap.size<=b) (zgh db s p).2.1 u1 u2 u3/\Sl zap w' (fun b=>w.heap.size<=b) u0 (zgh db s p).1/\Ext w w':=by
 have HRS:=zH (show zgh db s p=if (zax s p).2=0 then (zar db p.1,zax s p) else ([],za3,(zax s p).2) from rfl);have HP:=zH (fun (W:World) (hx:Ext w W)=>zfu p (h.ext hx) sm);obtain⟨sa,se,sp⟩:=s;obtain⟨b,c,ow,n⟩:=p;obtain⟨A0,n0,rfl,-,-⟩:=h0.form;obtain⟨A1,n1,rfl,-,-⟩:=h.all.form;obtain⟨A2,n2,rfl,-,-⟩:=h.entries.form;obtain⟨A3,n3,rfl,-,-⟩:=h.pruned.form;obtain⟨W0,hW0⟩:∃ X,((w.alloc (.cells #[.slice A0 db.length n0,.slice A1 sa.length n1,.slice A2 se.length n2,.slice A3 sp.length n3] 83)).alloc (.cells #[St b,U c,St ow,U n] 29)).alloc (.cells #[.slice none 0 0,.slice none 0 0,.slice none 0 0,.slice none 0 0] 83)=X:=⟨_,rfl⟩
 have hx0:Ext w W0:=by rw [<- hW0];exact (((Ext.refl w).alloc _).alloc _).alloc _
 have rB0:RowIs W0 w.heap.size 83 [.slice A0 db.length n0,.slice A1 sa.length n1,.slice A2 se.length n2,.slice A3 sp.length n3] []:=by rw [<- hW0];exact ((zai w _ _).alloc _).alloc _
 have rP0:RowIs W0 (w.heap.size+1) 29 [St b,U c,St ow,U n] []:=by rw [<- hW0];have h:=zai (w.alloc (.cells #[.slice A0 db.length n0,.slice A1 sa.length n1,.slice A2 se.length n2,.slice A3 sp.length n3] 83)) 29 [St b,U c,St ow,U n];simp only [World.size_alloc] at h;exact h.alloc _
 have rR0:RowIs W0 (w.heap.size+2) 83 [.slice none 0 0,.slice none 0 0,.slice none 0 0,.slice none 0 0] []:=by rw [<- hW0];have h:=zai ((w.alloc (.cells #[.slice A0 db.length n0,.slice A1 sa.length n1,.slice A2 se.length n2,.slice A3 sp.length n3] 83)).alloc (.cells #[St b,U c,St ow,U n] 29)) 83 [.slice none 0 0,.slice none 0 0,.slice none 0 0,.slice none 0 0];simp only [World.size_alloc] at h;exact h
 have hz0:w.heap.size+3<=W0.heap.size:=by rw [<- hW0];simp
 have HDB0:=zH (fun (W:World) (hx:Ext w W)=>h0.ext (by decide) hx);have b1:=rB0.cell (j:=1) rfl;have b2:=rB0.cell (j:=2) rfl;have b3:=rB0.cell (j:=3) rfl;obtain⟨p0,p1,p2,p3⟩:=rP0.p4;clear h h0 sm;go_enter Tryz.func26,Tryz.ntmps26;refine wp_seq_k ?_;intro K hK;have HK:=zH hK;clear hK;go_wp2_with fail
 (try rw [hW0])
 clear hW0;refine HK.out _ _ ?_;clear HK K;refine wp_seq_k ?_;intro K hK;have HK:=zH hK;clear hK;go_wp2_with fail;refine (HP.out W0 hx0).mono ?_;rintro r W1 ⟨u1,u2,u3,rfl,hS,hx1⟩;obtain⟨rr,hrr⟩:∃ rr,zax ⟨sa,se,sp⟩ (b,c,ow,n)=rr:=⟨_,rfl⟩
 rw [hrr] at hS HRS ⊢;obtain⟨st,er⟩:=rr;simp only at hS HRS ⊢;obtain⟨C1,c1,rfl,-,-⟩:=hS.all.form;obtain⟨C2,c2,rfl,-,-⟩:=hS.entries.form;obtain⟨C3,c3,rfl,-,-⟩:=hS.pruned.form;obtain⟨z6,hz6⟩:∃ z,W1.heap.size=z:=⟨_,rfl⟩
 obtain⟨W2,hW2⟩:∃ X,W1.alloc (.cells #[.slice C1 st.all.length c1,.slice C2 st.entries.length c2,.slice C3 st.pruned.length c3] 26)=X:=⟨_,rfl⟩
 have hx2:Ext W1 W2:=by rw [<- hW2];exact (Ext.refl W1).alloc _
 have r6:RowIs W2 z6 26 [.slice C1 st.all.length c1,.slice C2 st.entries.length c2,.slice C3 st.pruned.length c3] []:=by rw [<- hW2,<- hz6];exact zai W1 _ _
 have rD:=(rB0.ext hx1).ext hx2;have rP:=(rP0.ext hx1).ext hx2;have rR:=(rR0.ext hx1).ext hx2;have hx02:=(hx0.trans hx1).trans hx2;have HS2:=zH (hS.ext hx2);have hw0:=hx0.size;clear hS hx1 hx2 rB0 rP0 rR0 b1 b2 b3 p0 p1 p2 p3 HP hrr hx0;go_wp2_with fail
 (try rw [hz6])
 (try rw [hW2])
 clear hW2 hz6;refine HK.out _ _ ?_;clear HK K;refine wp_seq_k ?_;intro K hK;have HK:=zH hK;clear hK
 by_cases he:er=0
 ·subst he;have HR:=zH (show zgh db ⟨sa,se,sp⟩ (b,c,ow,n)=(zar db b,st,0) by rw [HRS.out,if_pos rfl]);have HDB:=zH (HDB0.out W2 hx02);clear HRS HDB0;go_wp2_with fail;refine HK.out _ _ ?_;clear HK K;obtain⟨Wx,hWx⟩:∃ X,W2=X:=⟨_,rfl⟩
  rw [hWx] at r6 rD rP rR hx02 HS2 HDB ⊢;clear hWx;refine wp_seq_k ?_;intro K hK;have HK:=zH hK;clear hK;refine zao [fun v _=>v=.pointer (some ⟨w.heap.size,0,none⟩),fun v _=>v=.slice A0 db.length n0,fun v _=>v=.pointer (some ⟨w.heap.size+1,0,none⟩),fun v _=>v=St b,fun v W=>Own W Wx.heap.size 97 2 v (zar db b).length ((zar db b).flatMap zae),fun v _=>v=stV (.slice C1 st.all.length c1) (.slice C2 st.entries.length c2) (.slice C3 st.pruned.length c3),fun v W=>∃ u,v=.agg #[u,.slice C1 st.all.length c1,.slice C2 st.entries.length c2,.slice C3 st.pruned.length c3]/\Own W Wx.heap.size 97 2 u (zar db b).length ((zar db b).flatMap zae)] rfl (by kernel_rfl) ?hR ?hstep ?hend
  case hR=>simp only [List.mem_cons,List.not_mem_nil,or_false,forall_eq_or_imp,forall_eq];exact⟨kP,kP,kP,kP,fun v _ _ h he=>h.ext he,kP,fun v _ _ h he=>(by obtain⟨u,e,h⟩:=h;exact⟨u,e,h.ext he⟩)⟩
  case hstep =>
   simp only [List.length_cons,List.length_nil,Nat.reduceAdd,List.take_succ_cons,List.take_zero,za6,and_true];refine ⟨?_,?_,?_,?_,?_,?_,?_⟩
   ·intro x W he f;have h0:x 2=.pointer (some ⟨w.heap.size,0,none⟩):=f.1;go_wp;exact sQ
   ·intro x W he f;have h0:x 19=.pointer (some ⟨w.heap.size,0,none⟩):=f.1;have q0:=(rD.ext he).cell (j:=0) rfl;go_wp;exact sQ
   ·intro x W he f;have h0:x 3=.pointer (some ⟨w.heap.size+1,0,none⟩):=f.1;go_wp;exact sQ
   ·intro x W he f;have h0:x 21=.pointer (some ⟨w.heap.size+1,0,none⟩):=f.1;have q0:=(rP.ext he).cell (j:=0) rfl;go_wp;exact sQ
   ·intro x W he f;have h0:x 20=.slice A0 db.length n0:=f.1;have h1:x 22=St b:=f.2.1;have hs:=he.size;have HC:=zH (zil b (HDB.out.ext (by decide) he) HLB);go_wp;refine HC.out.mono ?_;rintro r W3 ⟨v3,rfl,hv3,hx3⟩;dsimp only;go_wp;exact zaa (v:=v3) (hv3.lower hs) hx3
   ·intro x W he f;have h0:x 6=.pointer (some ⟨z6,0,none⟩):=f.1;have q0:=(r6.ext he).cell (j:=0) rfl;have q1:=(r6.ext he).cell (j:=1) rfl;have q2:=(r6.ext he).cell (j:=2) rfl;go_wp;exact sQ
   ·intro x W he f;have h0:Own W Wx.heap.size 97 2 (x 23) (zar db b).length ((zar db b).flatMap zae):=f.1;have h1:x 24=stV (.slice C1 st.all.length c1) (.slice C2 st.entries.length c2) (.slice C3 st.pruned.length c3):=f.2.1;obtain⟨E,e,he2,-,-⟩:=h0.form;rw [he2] at h0;go_wp;exact zaa (v:=.agg #[.slice E (zar db b).length e,.slice C1 st.all.length c1,.slice C2 st.entries.length c2,.slice C3 st.pruned.length c3]) ⟨_,rfl,h0⟩ (Ext.refl _)
  case hend =>
   intro x Wz hxz f;obtain⟨u25,e25,f25⟩:∃ u,x 25=.agg #[u,.slice C1 st.all.length c1,.slice C2 st.entries.length c2,.slice C3 st.pruned.length c3]/\Own Wz Wx.heap.size 97 2 u (zar db b).length ((zar db b).flatMap zae):=f.2.2.2.2.2.2.1;clear f;obtain⟨E,e,rfl,-,-⟩:=f25.form;simp only [List.length_cons,List.length_nil,Nat.reduceAdd,List.take_succ_cons,List.take_zero,List.filterMap_cons,List.filterMap_nil,List.drop_succ_cons,List.drop_zero,zav,Act.put,List.setIfInBounds_toArray,List.set_cons_succ,List.set_cons_zero,e25];have r6z:=r6.ext hxz;have rRz:=rR.ext hxz;obtain⟨y0,y1,y2,y3⟩:=rRz.p4;obtain⟨g0,g1,g2,g3⟩:=rRz.q4;have HX:=zH (hx02.trans hxz);have HSZ:=zH (HS2.out.ext hxz);have HF:=zH (f25.lower hx02.size);have hzz:=hx02.size;have RZ:=zH rRz;clear hxz hx02 r6 rD rP rR r6z f25 rRz;go_wp2_with fail;refine HK.out _ _ ?_;clear HK K;go_wp2_with fail
   (try simp only [Exit.inBlock,Exit.then])
   refine bodyPost_ret (v:=.tuple #[dltV (.slice E (zar db b).length e) (.slice C1 st.all.length c1) (.slice C2 st.entries.length c2) (.slice C3 st.pruned.length c3),I 0]) (by simp [results,Tryz.f26,go_sem,y0,y1,y2,y3]) rfl ?_;have hk:∀ b',b' ≠ w.heap.size+2->((((Wz.setCell ⟨w.heap.size+2,0,none⟩ (.slice E (zar db b).length e)).setCell ⟨w.heap.size+2,1,none⟩ (.slice C1 st.all.length c1)).setCell ⟨w.heap.size+2,2,none⟩ (.slice C2 st.entries.length c2)).setCell ⟨w.heap.size+2,3,none⟩ (.slice C3 st.pruned.length c3)).heap[b']? = Wz.heap[b']?:=fun b' hb=>((((Below.heap_setCell _ _ _ _ hb).trans (Below.heap_setCell _ _ _ _ hb)).trans (Below.heap_setCell _ _ _ _ hb)).trans (Below.heap_setCell _ _ _ _ hb))
   have rRz:=RZ.out;have hF:=HF.out.keep (w':=((((Wz.setCell ⟨w.heap.size+2,0,none⟩ (.slice E (zar db b).length e)).setCell ⟨w.heap.size+2,1,none⟩ (.slice C1 st.all.length c1)).setCell ⟨w.heap.size+2,2,none⟩ (.slice C2 st.entries.length c2)).setCell ⟨w.heap.size+2,3,none⟩ (.slice C3 st.pruned.length c3))) fun b' hb' _=>hk b' (fun e=>HF.out.apart rRz (by decide) (e ▸ hb'))
   have hS4:=HSZ.out.keep (w:=((((Wz.setCell ⟨w.heap.size+2,0,none⟩ (.slice E (zar db b).length e)).setCell ⟨w.heap.size+2,1,none⟩ (.slice C1 st.all.length c1)).setCell ⟨w.heap.size+2,2,none⟩ (.slice C2 st.entries.length c2)).setCell ⟨w.heap.size+2,3,none⟩ (.slice C3 st.pruned.length c3))) fun b' hb' _=>hk b' (by omega)
   have hx4:=(((HX.out.set (p:=⟨w.heap.size+2,0,none⟩) (by simp) (.slice E (zar db b).length e)).set (p:=⟨w.heap.size+2,1,none⟩) (by simp) (.slice C1 st.all.length c1)).set (p:=⟨w.heap.size+2,2,none⟩) (by simp) (.slice C2 st.entries.length c2)).set (p:=⟨w.heap.size+2,3,none⟩) (by simp) (.slice C3 st.pruned.length c3);refine ⟨_,_,_,_,by (rw [HR.out];try rfl),?_⟩;rw [HR.out];exact⟨hS4.mono fun b' _ h=>Nat.le_trans hw0 h,zay hF,hx4⟩
 ·have hne:((er:Int) == 0)=false:=by rw [beq_eq_false_iff_ne];omega
  have HR:=zH (show zgh db ⟨sa,se,sp⟩ (b,c,ow,n)=([],za3,er) by rw [HRS.out,if_neg he]);obtain⟨y0,y1,y2,y3⟩:=rR.p4;obtain⟨g0,g1,g2,g3⟩:=rR.q4;have HX:=zH hx02;clear HRS HDB0 he hx02 r6 rD rP HS2 rR;go_wp2_with fail
  (try simp only [Exit.inBlock,Exit.then])
  refine bodyPost_ret (v:=.tuple #[dltV (.slice none 0 0) (.slice none 0 0) (.slice none 0 0) (.slice none 0 0),I er]) (by simp [results,Tryz.f26,go_sem,y0,y1,y2,y3]) rfl ?_;have hx4:=(((HX.out.set (p:=⟨w.heap.size+2,0,none⟩) (by simp) (.slice none 0 0)).set (p:=⟨w.heap.size+2,1,none⟩) (by simp) (.slice none 0 0)).set (p:=⟨w.heap.size+2,2,none⟩) (by simp) (.slice none 0 0)).set (p:=⟨w.heap.size+2,3,none⟩) (by simp) (.slice none 0 0);refine ⟨_,_,_,_,by (rw [HR.out];try rfl),?_⟩;rw [HR.out];exact⟨StAt.none _ _ _ _ _,Sl.nil _ _ (by decide),hx4⟩
end
section
open Go.RowKit Go.Shelf
abbrev prT:Shape PrD:=flat 4 prC (fun _=>rfl) (fun _ u hu=>by simp [prC] at hu;rcases hu with rfl | rfl | rfl | rfl <;> rfl)
theorem zy6 {w wr:World} {S:Nat->Prop} {A:Option Addr} {n c:Nat} {l pre post:List PrD} {m:PrD} (h:Sl prT w S (.slice A n c) l) (hb:Ext w wr) (hl:l=pre++m :: post) :
  ∃ b o,A=some ⟨b,o,none⟩/\wr.cell? ⟨b,o+pre.length * 4,none⟩=some (St m.1)/\wr.cell? ⟨b,o+pre.length * 4+1,none⟩=some (U m.2.1)/\wr.cell? ⟨b,o+pre.length * 4+2,none⟩=some (St m.2.2.1)/\wr.cell? ⟨b,o+pre.length * 4+3,none⟩=some (U m.2.2.2):=by
 obtain⟨b,o,vs,c',hv,hS,rfl,hc⟩:=h.at_ hl;injection hv with e1 e2 e3
 subst e1;exact⟨b,o,rfl,hb.cell (hc 0 _ rfl),hb.cell (hc 1 _ rfl),hb.cell (hc 2 _ rfl),hb.cell (hc 3 _ rfl)⟩
def allP:State->List PrD->State × Nat
 | s,[]=>(s,0)
 | s,p :: r=>if (zax s p).2=0 then allP (zax s p).1 r else (za3,(zax s p).2)
theorem zxg {S S0:Nat->Prop} {s:State} {v1 v2 v3 vl:Value} {ps:List PrD} {N:Nat} {w:World} (h:StAt w S s v1 v2 v3) (hl:Sl prT w S0 vl ps) (hlim:LimS N s) (hN:N+ps.length<=549755813888) :
  Calls Tryz.prog 30 #[stV v1 v2 v3,vl] w fun r w'=>∃ u1 u2 u3,r=.returned (.tuple #[stV u1 u2 u3,I (allP s ps).2])/\StAt w' (fun b=>w.heap.size<=b) (allP s ps).1 u1 u2 u3/\Ext w w':=by
 have hl':=hl;obtain⟨AL,nl,rfl,-,-⟩:=hl.form;have HAT:=zH (fun (pre post:List PrD) (m:PrD) (wr:World) (h:Ext w wr) (hl:ps=pre++m :: post)=>zy6 hl' h hl);have HLIM:=zH hlim;obtain⟨ALL,hALL⟩:∃ a,allP s ps=a:=⟨_,rfl⟩
 rw [hALL];have HALL:=zH hALL;obtain⟨A1,n1,rfl,-,-⟩:=h.all.form;obtain⟨A2,n2,rfl,-,-⟩:=h.entries.form;obtain⟨A3,n3,rfl,-,-⟩:=h.pruned.form;obtain⟨W0,hW0⟩:∃ X,(w.alloc (.cells #[.slice A1 s.all.length n1,.slice A2 s.entries.length n2,.slice A3 s.pruned.length n3] 26)).alloc (.cells #[.slice none 0 0,.slice none 0 0,.slice none 0 0] 26)=X:=⟨_,rfl⟩
 have hx0:Ext w W0:=by rw [<- hW0];exact ((Ext.refl w).alloc _).alloc _
 have rB0:RowIs W0 w.heap.size 26 [.slice A1 s.all.length n1,.slice A2 s.entries.length n2,.slice A3 s.pruned.length n3] []:=by rw [<- hW0];exact (zai w _ _).alloc _
 have rR0:RowIs W0 (w.heap.size+1) 26 [.slice none 0 0,.slice none 0 0,.slice none 0 0] []:=by rw [<- hW0];have h:=zai (w.alloc (.cells #[.slice A1 s.all.length n1,.slice A2 s.entries.length n2,.slice A3 s.pruned.length n3] 26)) 26 [.slice none 0 0,.slice none 0 0,.slice none 0 0];simp only [World.size_alloc] at h;exact h
 have hz0:w.heap.size+2<=W0.heap.size:=by rw [<- hW0];simp
 have HC:=zH (zhr (h.ext hx0) (hlim.small (by omega)));obtain⟨b0,b1,b2⟩:=rB0.p3;clear h hl hl' hlim hALL;go_enter Tryz.func30,Tryz.ntmps30;refine wp_seq_k ?_;intro K hK;have HK:=zH hK;clear hK;go_wp2_with fail
 (try rw [hW0])
 clear hW0;refine HK.out _ _ ?_;clear HK K;refine wp_seq_k ?_;intro K hK;have HK:=zH hK;clear hK;go_wp2_with fail;refine HC.out.mono ?_;rintro r W1 ⟨u1,u2,u3,rfl,hn,hx1⟩;have hS:=hn.at;obtain⟨C1,c1,rfl,-,-⟩:=hS.all.form;obtain⟨C2,c2,rfl,-,-⟩:=hS.entries.form;obtain⟨C3,c3,rfl,-,-⟩:=hS.pruned.form;obtain⟨z6,hz6⟩:∃ z,W1.heap.size=z:=⟨_,rfl⟩
 obtain⟨W2,hW2⟩:∃ X,W1.alloc (.cells #[.slice C1 s.all.length c1,.slice C2 s.entries.length c2,.slice C3 s.pruned.length c3] 26)=X:=⟨_,rfl⟩
 have hx2:Ext W1 W2:=by rw [<- hW2];exact (Ext.refl W1).alloc _
 have r6:RowIs W2 z6 26 [.slice C1 s.all.length c1,.slice C2 s.entries.length c2,.slice C3 s.pruned.length c3] []:=by rw [<- hW2,<- hz6];exact zai W1 _ _
 have hz62:w.heap.size+2<=z6:=by rw [<- hz6];exact Nat.le_trans hz0 hx1.size
 have HL:=zH (⟨_,_,_,r6,(hS.mono (S':=fun b=>w.heap.size+2<=b/\b ≠ z6) fun b hb h=>⟨by omega,by omega⟩).ext hx2,(rR0.ext hx1).ext hx2⟩:∃ x1 x2 x3,RowIs W2 z6 26 [x1,x2,x3] []/\StAt W2 (fun b=>w.heap.size+2<=b/\b ≠ z6) s x1 x2 x3/\RowIs W2 (w.heap.size+1) 26 [.slice none 0 0,.slice none 0 0,.slice none 0 0] []);have hx02:=(hx0.trans hx1).trans hx2;clear hn hS hx0 hx1 hx2 rB0 rR0 b0 b1 b2 HC r6 hz0;go_wp2_with fail
 (try rw [hz6])
 (try rw [hW2])
 clear hW2 hz6;refine HK.out _ _ ?_;clear HK K;refine wp_seq_k ?_;intro K hK;have HK:=zH hK;clear hK;go_wp2_with fail
 go_loopw [14] (fun i wr=>∃ pre post st,ps=pre++post/\i=I pre.length/\Hid (allP st post=ALL/\LimS (N+pre.length) st)/\Hid (∃ x1 x2 x3,RowIs wr z6 26 [x1,x2,x3] []/\StAt wr (fun b=>w.heap.size+2<=b/\b ≠ z6) st x1 x2 x3/\RowIs wr (w.heap.size+1) 26 [.slice none 0 0,.slice none 0 0,.slice none 0 0] [])/\Ext w wr) (fun i _=>ps.length - (intOf i).toNat)
 case atStart=>exact⟨[],ps,s,rfl,rfl,zH ⟨HALL.out,by simpa using HLIM.out⟩,HL,hx02⟩
 case round =>
  obtain⟨pre,post,st,hl,rfl,hA,hI,hx⟩:=hrel;obtain⟨x1,x2,x3,r6,hS,rR⟩:=hI.out;obtain⟨C1,c1,rfl,-,-⟩:=hS.all.form;obtain⟨C2,c2,rfl,-,-⟩:=hS.entries.form;obtain⟨C3,c3,rfl,-,-⟩:=hS.pruned.form
  cases post with
  | cons p post =>
   obtain⟨b,o,rfl,e0,e1,e2,e3⟩:=HAT.out pre post p wr hx hl;obtain⟨pb,pc,pw,pn⟩:=p;have hlt:pre.length < ps.length:=(by rw [hl];simp);obtain⟨W5,hW5⟩:∃ X,wr.alloc (.cells #[St pb,U pc,St pw,U pn] 29)=X:=⟨_,rfl⟩
   have hx5:Ext wr W5:=(by rw [<- hW5];exact (Ext.refl wr).alloc _);obtain⟨z8,hz8⟩:∃ z,wr.heap.size=z:=⟨_,rfl⟩
   have r8:RowIs W5 z8 29 [St pb,U pc,St pw,U pn] []:=(by rw [<- hW5,<- hz8];exact zai wr _ _);have r65:=r6.ext hx5;obtain⟨y0,y1,y2⟩:=r65.p3;obtain⟨d0,d1,d2,d3⟩:=r8.p4;have HP:=zH (zfu (pb,pc,pw,pn) (hS.ext hx5) (hA.out.2.small (by omega)));have HLL:=zH hl;have rR5:=rR.ext hx5;have hx05:=hx.trans hx5;simp only at e0 e1 e2 e3;have hpl:N+ps.length<=549755813888:=hN;clear hl r6 hS rR hx hI r8;go_wp2_with fail
   (try rw [hz8])
   (try rw [hW5])
   clear hW5 hz8;refine HP.out.mono ?_;rintro r W6 ⟨u1,u2,u3,rfl,hS6,hx6⟩;obtain⟨rr,hrr⟩:∃ rr,zax st (pb,pc,pw,pn)=rr:=⟨_,rfl⟩
   have HA6:=zH (show allP st ((pb,pc,pw,pn) :: post)=if (zax st (pb,pc,pw,pn)).2=0 then allP (zax st (pb,pc,pw,pn)).1 post else (za3,(zax st (pb,pc,pw,pn)).2) from rfl);have HLM:=zH (zl5 (pb,pc,pw,pn) hA.out.2);rw [hrr] at hS6 HA6 HLM ⊢;obtain⟨s2,er⟩:=rr;simp only at hS6 HA6 HLM ⊢;obtain⟨D1,d1',rfl,-,-⟩:=hS6.all.form;obtain⟨D2,d2',rfl,-,-⟩:=hS6.entries.form;obtain⟨D3,d3',rfl,-,-⟩:=hS6.pruned.form;have r66:=r65.ext hx6;obtain⟨y0,y1,y2⟩:=r66.p3;obtain⟨g0,g1,g2⟩:=r66.q3;have hz65:z6 < W5.heap.size:=r65.lt;have hk:=zd2 W6 z6 (.slice D1 s2.all.length d1') (.slice D2 s2.entries.length d2') (.slice D3 s2.pruned.length d3');have hS7:=(hS6.mono (S':=fun b=>w.heap.size+2<=b/\b ≠ z6) fun b _ h=>⟨by omega,by omega⟩).keep (w:=put3 W6 z6 (.slice D1 s2.all.length d1') (.slice D2 s2.entries.length d2') (.slice D3 s2.pruned.length d3')) fun b hb _=>hk b hb.2
   have r67:=((r66.set (j:=0) (by simp) (.slice D1 s2.all.length d1')).set (j:=1) (by simp) (.slice D2 s2.entries.length d2')).set (j:=2) (by simp) (.slice D3 s2.pruned.length d3');simp only [List.set_cons_succ,List.set_cons_zero] at r67;have rR7:=(rR5.ext hx6).keep (hk _ (by omega));have hx07:=zbe (q:=z6) (hx05.trans hx6) (by omega) (.slice D1 s2.all.length d1') (.slice D2 s2.entries.length d2') (.slice D3 s2.pruned.length d3');have HN:=zH (⟨_,_,_,r67,hS7,rR7⟩:∃ x1 x2 x3,RowIs (put3 W6 z6 (.slice D1 s2.all.length d1') (.slice D2 s2.entries.length d2') (.slice D3 s2.pruned.length d3')) z6 26 [x1,x2,x3] []/\StAt (put3 W6 z6 (.slice D1 s2.all.length d1') (.slice D2 s2.entries.length d2') (.slice D3 s2.pruned.length d3')) (fun b=>w.heap.size+2<=b/\b ≠ z6) s2 x1 x2 x3/\RowIs (put3 W6 z6 (.slice D1 s2.all.length d1') (.slice D2 s2.entries.length d2') (.slice D3 s2.pruned.length d3')) (w.heap.size+1) 26 [.slice none 0 0,.slice none 0 0,.slice none 0 0] []);have hrz:=rR7.cell (j:=0) rfl;have HRR:=zH rR7;have HX7:=zH hx07;clear hS6 hx6 r65 rR5 r66 hk hS7 r67 rR7 hx07 hx05 hrr hrz d0 d1 d2 d3 e0 e1 e2 e3 HP;obtain⟨W7,hW7⟩:∃ X,put3 W6 z6 (.slice D1 s2.all.length d1') (.slice D2 s2.entries.length d2') (.slice D3 s2.pruned.length d3')=X:=⟨_,rfl⟩
   rw [hW7] at HN HRR HX7
   by_cases he:er=0
   ·subst he;have HAN:=zH (show allP s2 post=ALL/\LimS (N+(pre++[(pb,pc,pw,pn)]).length) s2 from ⟨by rw [<- hA.out.1,HA6.out,if_pos rfl],by simpa [Nat.add_assoc] using HLM.out⟩);clear HA6 HLM hA HRR;go_wp2_with fail
    (try rw [hW7])
    go_roundw
    case rel=>exact⟨pre++[(pb,pc,pw,pn)],post,s2,by rw [HLL.out];simp,by simp,HAN,HN,HX7.out⟩
    case measure=>simp [intOf];omega
   ·have hne:((er:Int) == 0)=false:=(by rw [beq_eq_false_iff_ne];omega);have HR:=zH (show ALL=(za3,er) by rw [<- hA.out.1,HA6.out,if_neg he]);obtain⟨r0,r1,r2⟩:=HRR.out.p3;obtain⟨f0,f1,f2⟩:=HRR.out.q3;clear HA6 HLM hA HRR HN he;go_wp2_with fail
    (try simp only [Exit.inBlock,Exit.then])
    refine bodyPost_ret (v:=.tuple #[stV (.slice none 0 0) (.slice none 0 0) (.slice none 0 0),I er]) (by simp [results,Tryz.f30,go_sem,r0,r1,r2]) rfl ?_;have hq:=zbe (q:=w.heap.size+1) HX7.out (by omega) (.slice none 0 0) (.slice none 0 0) (.slice none 0 0);refine ⟨.slice none 0 0,.slice none 0 0,.slice none 0 0,by (rw [HR.out];try rfl),?_⟩;rw [HR.out];exact⟨StAt.none _ _ _ _ _,hq⟩
  | nil =>
   rw [List.append_nil] at hl;have HR:=zH (show ALL=(st,0) from hA.out.1.symm);obtain⟨y0,y1,y2⟩:=r6.p3;obtain⟨r0,r1,r2⟩:=rR.p3;obtain⟨f0,f1,f2⟩:=rR.q3;have HX:=zH hx;have HS:=zH hS;have hlen:ps.length=pre.length:=(by rw [hl]);clear hl hA hI hx hS r6 rR;go_wp2_with fail;refine HK.out _ _ ?_;go_wp2_with fail
   (try simp only [Exit.inBlock,Exit.then])
   refine bodyPost_ret (v:=.tuple #[stV (.slice C1 st.all.length c1) (.slice C2 st.entries.length c2) (.slice C3 st.pruned.length c3),I 0]) (by simp [results,Tryz.f30,go_sem,r0,r1,r2]) rfl ?_;have hq:=zbe (q:=w.heap.size+1) HX.out (by omega) (.slice C1 st.all.length c1) (.slice C2 st.entries.length c2) (.slice C3 st.pruned.length c3);have hk:=zd2 wr (w.heap.size+1) (.slice C1 st.all.length c1) (.slice C2 st.entries.length c2) (.slice C3 st.pruned.length c3);refine ⟨_,_,_,by (rw [HR.out];try rfl),?_⟩;rw [HR.out];exact⟨(HS.out.keep (w:=put3 wr (w.heap.size+1) (.slice C1 st.all.length c1) (.slice C2 st.entries.length c2) (.slice C3 st.pruned.length c3)) fun b hb _=>hk b (by omega)).mono fun b _ h=>by omega,hq⟩
end
section
open Go.RowKit Go.Shelf
theorem zi4 {w:World} {q T:Nat} {e0 e:Entry} {a1 a2 a3 v1 v2 v3:Value} (h:RowIs w q T (entL e0 a1 a2 a3) []):RowIs (put7 w q e v1 v2 v3) q T (entL e v1 v2 v3) []:=by
 have:=RowIs.set7 (X1:=[]) (X2:=[]) (o:=0) (by simpa using h) rfl (St e.key) v1 v2 v3 (U e.cell.1) (St e.cell.2.1) (.bool e.cell.2.2)
 simpa using this
theorem zjx (w:World) (q:Nat) (e:Entry) (v1 v2 v3:Value):(put7 w q e v1 v2 v3).heap.size=w.heap.size:=by simp [World.size_setCell]
theorem zo7 {S:Nat->Prop} {s:State} {v1 v2 v3:Value} {w:World} (p:Str) (o:OpD) (hn1:-9223372036854775808<=o.2.2.1) (hn2:o.2.2.1<=9223372036854775807) (h:StAt w S s v1 v2 v3) (sm:SmallS s) :
  Calls Tryz.prog 36 #[stV v1 v2 v3,St p,opV o] w fun r w'=>∃ u1 u2 u3,r=.returned (.tuple #[stV u1 u2 u3,I (updS s p o).2])/\StAt w' (fun b=>w.heap.size<=b) (updS s p o).1 u1 u2 u3/\Ext w w':=by
 have HRS:=zH (show updS s p o=if p = [] ∨ mayS s=false then (za3,2) else if 281474976710656<=ofM s.all p then (za3,9) else if za4 s.entries o.2.1=none/\256<=s.entries.length then (za3,6) else
  if (updE ((za4 s.entries o.2.1).getD zam) o (p,ofM s.all p+1)).2=0 then (⟨setM s.all p (ofM s.all p+1),zdj s.entries o.2.1 (updE ((za4 s.entries o.2.1).getD zam) o (p,ofM s.all p+1)).1,s.pruned⟩,0)
  else (za3,(updE ((za4 s.entries o.2.1).getD zam) o (p,ofM s.all p+1)).2) from rfl)
 have SM:=zH sm;have HRI:=zH (fun hm:mayS s=true=>(mayS_iff.1 hm).rise);obtain⟨sa,se,sp⟩:=s;obtain⟨dO,k,n,tx⟩:=o;simp only at hn1 hn2;obtain⟨A1,n1,rfl,-,-⟩:=h.all.form;obtain⟨A2,n2,rfl,-,-⟩:=h.entries.form;obtain⟨A3,n3,rfl,-,-⟩:=h.pruned.form;have hx0:Ext w (((w.alloc (.cells #[.slice A1 sa.length n1,.slice A2 se.length n2,.slice A3 sp.length n3] 26)).alloc (.cells #[K8 dO,St k,I n,St tx] 99)).alloc (.cells #[.slice none 0 0,.slice none 0 0,.slice none 0 0] 26)):=(((Ext.refl w).alloc _).alloc _).alloc _;have rB0:RowIs (((w.alloc (.cells #[.slice A1 sa.length n1,.slice A2 se.length n2,.slice A3 sp.length n3] 26)).alloc (.cells #[K8 dO,St k,I n,St tx] 99)).alloc (.cells #[.slice none 0 0,.slice none 0 0,.slice none 0 0] 26)) w.heap.size 26 [.slice A1 sa.length n1,.slice A2 se.length n2,.slice A3 sp.length n3] []:=((zai w _ _).alloc _).alloc _;have rO0:RowIs (((w.alloc (.cells #[.slice A1 sa.length n1,.slice A2 se.length n2,.slice A3 sp.length n3] 26)).alloc (.cells #[K8 dO,St k,I n,St tx] 99)).alloc (.cells #[.slice none 0 0,.slice none 0 0,.slice none 0 0] 26)) (w.heap.size+1) 99 [K8 dO,St k,I n,St tx] []:=by have h:=zai (w.alloc (.cells #[.slice A1 sa.length n1,.slice A2 se.length n2,.slice A3 sp.length n3] 26)) 99 [K8 dO,St k,I n,St tx];simp only [World.size_alloc] at h;exact h.alloc _
 have rR0:RowIs (((w.alloc (.cells #[.slice A1 sa.length n1,.slice A2 se.length n2,.slice A3 sp.length n3] 26)).alloc (.cells #[K8 dO,St k,I n,St tx] 99)).alloc (.cells #[.slice none 0 0,.slice none 0 0,.slice none 0 0] 26)) (w.heap.size+1+1) 26 [.slice none 0 0,.slice none 0 0,.slice none 0 0] []:=by have h:=zai ((w.alloc (.cells #[.slice A1 sa.length n1,.slice A2 se.length n2,.slice A3 sp.length n3] 26)).alloc (.cells #[K8 dO,St k,I n,St tx] 99)) 26 [.slice none 0 0,.slice none 0 0,.slice none 0 0];simp only [World.size_alloc] at h;exact h
 have hz0:w.heap.size+3<=(((w.alloc (.cells #[.slice A1 sa.length n1,.slice A2 se.length n2,.slice A3 sp.length n3] 26)).alloc (.cells #[K8 dO,St k,I n,St tx] 99)).alloc (.cells #[.slice none 0 0,.slice none 0 0,.slice none 0 0] 26)).heap.size:=by simp
 have h':=h.mono (S':=fun b=>b < w.heap.size) (fun b hb _=>hb);have H0:=zH (h'.ext hx0);have H1:=zH (ziu (h.ext hx0) sm);clear h';clear h sm
 by_cases hp:p = []
 ·subst hp;have HR:=zH (show updS ⟨sa,se,sp⟩ [] (dO,k,n,tx)=(za3,2) by rw [HRS.out,if_pos (.inl rfl)]);have HX:=zH hx0;clear hx0 rB0 rR0 rO0 H0 H1 HRS;go_enter Tryz.func36,Tryz.ntmps36;go_wp2_with fail
  (try simp only [Exit.inBlock,Exit.then])
  refine bodyPost_ret (v:=.tuple #[stV (.slice none 0 0) (.slice none 0 0) (.slice none 0 0),I 2]) (by simp [results,Tryz.f36,go_sem]) rfl ?_;refine ⟨.slice none 0 0,.slice none 0 0,.slice none 0 0,by (rw [HR.out];try rfl),?_⟩;rw [HR.out];exact⟨StAt.none _ _ _ _ _,HX.out⟩
 ·have hpb:(p == [])=false:=by simpa using hp
  go_enter Tryz.func36,Tryz.ntmps36;go_wp2_with fail;generalize (((w.alloc (.cells #[.slice A1 sa.length n1,.slice A2 se.length n2,.slice A3 sp.length n3] 26)).alloc (.cells #[K8 dO,St k,I n,St tx] 99)).alloc (.cells #[.slice none 0 0,.slice none 0 0,.slice none 0 0] 26))=W0 at *;refine H1.out.mono ?_;rintro r W1 ⟨rfl,hx1⟩;have hx01:=hx0.trans hx1;have rB1:=rB0.ext hx1;have rO1:=rO0.ext hx1;have rR1:=rR0.ext hx1;have hz1:=Nat.le_trans hz0 hx1.size;clear hx0 rB0 rR0 rO0 hz0 H1
  cases hm:mayS ⟨sa,se,sp⟩ with
  | false =>
   have HR:=zH (show updS ⟨sa,se,sp⟩ p (dO,k,n,tx)=(za3,2) by rw [HRS.out,if_pos (.inr hm)]);obtain⟨r0,r1,r2⟩:=rR1.p3;obtain⟨f0,f1,f2⟩:=rR1.q3;have HX:=zH hx01;clear hx01 hx1 rB1 rR1 rO1 H0 HRS hm hp;go_wp2_with fail
   (try simp only [Exit.inBlock,Exit.then])
   refine bodyPost_ret (v:=.tuple #[stV (.slice none 0 0) (.slice none 0 0) (.slice none 0 0),I 2]) (by simp [results,Tryz.f36,go_sem,r0,r1,r2]) rfl ?_;have hq:=zbe (q:=w.heap.size+1+1) HX.out (by omega) (.slice none 0 0) (.slice none 0 0) (.slice none 0 0);refine ⟨.slice none 0 0,.slice none 0 0,.slice none 0 0,by (rw [HR.out];try rfl),?_⟩;rw [HR.out];exact⟨StAt.none _ _ _ _ _,hq⟩
  | true =>
   have hri:=zH (show RiseS (se.map (·.key)) from HRI.out hm)
   have HRS2:=zH (show updS ⟨sa,se,sp⟩ p (dO,k,n,tx)=if 281474976710656<=ofM sa p then (za3,9) else if za4 se k=none/\256<=se.length then (za3,6) else
    if (updE ((za4 se k).getD zam) (dO,k,n,tx) (p,ofM sa p+1)).2=0 then (⟨setM sa p (ofM sa p+1),zdj se k (updE ((za4 se k).getD zam) (dO,k,n,tx) (p,ofM sa p+1)).1,sp⟩,0)
    else (za3,(updE ((za4 se k).getD zam) (dO,k,n,tx) (p,ofM sa p+1)).2) by rw [HRS.out,if_neg (by simp [hp,hm])])
   have HO:=zH (zcw p (H0.out.all.ext (by decide) hx1));have b0:=rB1.cell (j:=0) rfl;have HX1:=zH hx1;clear hm hp HRS HRI hx1;go_wp2_with fail;refine HO.out.mono ?_;rintro r W2 ⟨rfl,hx2⟩;have hx02:=hx01.trans hx2;have rB2:=rB1.ext hx2;have rO2:=rO1.ext hx2;have rR2:=rR1.ext hx2;have hz2:=Nat.le_trans hz1 hx2.size;have H2:=zH ((H0.out.ext HX1.out).ext hx2);clear hx01 rB1 rR1 rO1 HO hx2 hz1 b0 HX1 H0;obtain⟨z,hz⟩:∃ z,ofM sa p=z:=⟨_,rfl⟩
   rw [hz] at HRS2;rw [hz];clear hz
   by_cases hge:281474976710656<=z
   ·have HR:=zH (show updS ⟨sa,se,sp⟩ p (dO,k,n,tx)=(za3,9) by rw [HRS2.out,if_pos hge]);have hgt:(z:Int) ≥ 281474976710656:=(by omega);obtain⟨r0,r1,r2⟩:=rR2.p3;obtain⟨f0,f1,f2⟩:=rR2.q3;have HX:=zH hx02;clear hx02 rB2 rR2 rO2 H2 HRS2 hge;go_wp2_with fail
    (try simp only [Exit.inBlock,Exit.then])
    refine bodyPost_ret (v:=.tuple #[stV (.slice none 0 0) (.slice none 0 0) (.slice none 0 0),I 9]) (by simp [results,Tryz.f36,go_sem,r0,r1,r2]) rfl ?_;have hq:=zbe (q:=w.heap.size+1+1) HX.out (by omega) (.slice none 0 0) (.slice none 0 0) (.slice none 0 0);refine ⟨.slice none 0 0,.slice none 0 0,.slice none 0 0,by (rw [HR.out];try rfl),?_⟩;rw [HR.out];exact⟨StAt.none _ _ _ _ _,hq⟩
   ·have hgt:¬ (z:Int) ≥ 281474976710656:=by omega
    have HRS3:=zH (show updS ⟨sa,se,sp⟩ p (dO,k,n,tx)=if za4 se k=none/\256<=se.length then (za3,6) else
     if (updE ((za4 se k).getD zam) (dO,k,n,tx) (p,z+1)).2=0 then (⟨setM sa p (z+1),zdj se k (updE ((za4 se k).getD zam) (dO,k,n,tx) (p,z+1)).1,sp⟩,0)
     else (za3,(updE ((za4 se k).getD zam) (dO,k,n,tx) (p,z+1)).2) by rw [HRS2.out,if_neg hge])
    have HWA:=zH (show IntKind.u64.wrap ((z:Int)+1)=((z+1:Nat):Int) by rw [zbl];omega);have HF0:=zk8 k (H2.out.entries);simp only at HF0;obtain⟨e,he⟩:∃ e,(za4 se k).getD zam=e:=⟨_,rfl⟩
    obtain⟨is,his⟩:∃ is,(za4 se k).isSome=is:=⟨_,rfl⟩
    rw [he,his] at HF0;have HF:=zH HF0;have HE:=zH he;have HIS:=zH his;rw [he] at HRS3;clear HF0 he his;have b1:=rB2.cell (j:=1) rfl;have o1:=rO2.cell (j:=1) rfl;clear HRS2 hge;have hgt2:((z:Int) ≥ 281474976710656)=False:=eq_false hgt;have hzl:z < 281474976710656:=(by omega);clear hgt;go_wp2_with fail;clear hgt2;refine HF.out.mono ?_;rintro r W3 ⟨a1,a2,a3,rfl,hA,hx3⟩;have hse:SmallE e:=(by rw [<- HE.out];exact zlz (l:=se) SM.out.each k);obtain⟨C1,c1,rfl,-,-⟩:=hA.seen.form;obtain⟨C2,c2,rfl,-,-⟩:=hA.counts.form;obtain⟨C3,c3,rfl,-,-⟩:=hA.items.form;have rE:=zai W3 46 (entL e (.slice C1 e.seen.length c1) (.slice C2 e.counts.length c2) (.slice C3 e.items.length c3));have hxb:=(Ext.refl W3).alloc (.cells (entL e (.slice C1 e.seen.length c1) (.slice C2 e.counts.length c2) (.slice C3 e.items.length c3)).toArray 46);have hx3b:=hx3.trans hxb;have hx3w:=hx02.trans hx3;have rBw:=rB2.ext hx3;have rOw:=rO2.ext hx3;have rRw:=rR2.ext hx3;have bw1:=rBw.cell (j:=1) rfl;have hx03:=hx02.trans hx3b;have rB3:=rB2.ext hx3b;have rO3:=rO2.ext hx3b;have rR3:=rR2.ext hx3b;have hz3:=Nat.le_trans hz2 hx3.size;have hEz:=rE.lt;have H3:=zH (H2.out.ext hx3b);have HU:=zH (zwz (dO,k,n,tx) (p,z+1) (hA.ext hxb) hse hn1 hn2);have b1':=rB3.cell (j:=1) rfl;have o1':=rO3.cell (j:=1) rfl;clear hx02 rB2 rR2 rO2 H2 HF hx3 b1 o1 hz2 hA hx3b;have hblt:w.heap.size < W3.heap.size:=(by omega);have holt:w.heap.size+1 < W3.heap.size:=by omega
    by_cases hfull:za4 se k=none/\256<=se.length
    ·have HR:=zH (show updS ⟨sa,se,sp⟩ p (dO,k,n,tx)=(za3,6) by rw [HRS3.out,if_pos hfull]);have hlen:(se.length:Int) ≥ 256:=(by have:=hfull.2;omega);have hrlt:w.heap.size+1+1 < W3.heap.size:=(by omega);obtain rfl:is=false:=by rw [<- HIS.out,hfull.1];rfl
     have b19:=(show RowIs W3 w.heap.size 26 [.slice A1 sa.length n1,.slice A2 se.length n2,.slice A3 sp.length n3] [] from by have:=rB3;unfold RowIs at this ⊢;rw [<- this];symm;exact hxb.block _ (by omega)).cell (j:=1) rfl
     have rR39:=(show RowIs W3 (w.heap.size+1+1) 26 [.slice none 0 0,.slice none 0 0,.slice none 0 0] [] from by have:=rR3;unfold RowIs at this ⊢;rw [<- this];symm;exact hxb.block _ (by omega))
     obtain⟨r0,r1,r2⟩:=rR39.p3;obtain⟨f0,f1,f2⟩:=rR39.q3;have HX:=zH hx3w;clear hx3w hx03 rB3 rR3 rO3 H3 HRS3 hfull hxb rE rR39 HU;go_wp2_with fail
     (try simp only [Exit.inBlock,Exit.then])
     refine bodyPost_ret (v:=.tuple #[stV (.slice none 0 0) (.slice none 0 0) (.slice none 0 0),I 6]) (by simp [results,Tryz.f36,go_sem,r0,r1,r2,hrlt]) rfl ?_;have hq:=(zbe (q:=w.heap.size+1+1) HX.out (by omega) (.slice none 0 0) (.slice none 0 0) (.slice none 0 0)).alloc (.cells (entL e (.slice C1 e.seen.length c1) (.slice C2 e.counts.length c2) (.slice C3 e.items.length c3)).toArray 46);refine ⟨.slice none 0 0,.slice none 0 0,.slice none 0 0,by (rw [HR.out];try rfl),?_⟩;rw [HR.out];exact⟨StAt.none _ _ _ _ _,hq⟩
    ·have HRS4:=zH (show updS ⟨sa,se,sp⟩ p (dO,k,n,tx)=if (updE e (dO,k,n,tx) (p,z+1)).2=0 then (⟨setM sa p (z+1),zdj se k (updE e (dO,k,n,tx) (p,z+1)).1,sp⟩,0) else (za3,(updE e (dO,k,n,tx) (p,z+1)).2) by rw [HRS3.out,if_neg hfull]);obtain⟨e0,e1,e2,e3,e4,e5,e6⟩:=rE.p7;have o0:=rO3.cell (j:=0) rfl;have o2:=rO3.cell (j:=2) rfl;have o3:=rO3.cell (j:=3) rfl;obtain⟨q,hq⟩:∃ q,updE e (dO,k,n,tx) (p,z+1)=q:=⟨_,rfl⟩
     have HU2:=HU.out;rw [hq] at HU2 HRS4;have HUU:=zH HU2;obtain⟨e9,err⟩:=q;clear HU HU2 hq;have hbne:¬ (w.heap.size=W3.heap.size):=(by omega);have hone:¬ (w.heap.size+1=W3.heap.size):=(by omega);have hrne:¬ (w.heap.size+1+1=W3.heap.size):=by omega
     have hways:(is=true/\∃ m,za4 se k=some m) ∨ (is=false/\¬ (se.length:Int) ≥ 256/\za4 se k=none):=by
      have h9:=HIS.out
      cases hf:za4 se k with
      | none=>rw [hf] at h9;exact .inr ⟨h9.symm,fun h=>hfull ⟨hf,by omega⟩,rfl⟩
      | some m=>rw [hf] at h9;exact .inl ⟨h9.symm,m,rfl⟩
     have HSW:=zH hways;clear hways hfull HIS HE;obtain⟨w0,w1,w2,w3⟩:=rOw.p4;have hwa:=HWA.out;rcases HSW.out with ⟨rfl,m0,hsome⟩ | ⟨rfl,hlen,hsome⟩
     ·have HSO:=zH hsome;clear hsome HSW;go_wp2_with fail;refine HUU.out.mono ?_;rintro r W4 ⟨y1,y2,y3,rfl,hA4,hx4⟩;rename_i K1 hK1 K0 hK0;have HK1:=zH hK1;clear hK1;simp only at hA4 ⊢;obtain⟨Y1,y1n,rfl,-,-⟩:=hA4.seen.form;obtain⟨Y2,y2n,rfl,-,-⟩:=hA4.counts.form;obtain⟨Y3,y3n,rfl,-,-⟩:=hA4.items.form;have hz4:=hx4.size;have rB4:=rB3.ext hx4;have rO4:=rO3.ext hx4;have rR4:=rR3.ext hx4;have rE4:=rE.ext hx4;have hkp:=zge W4 W3.heap.size e9 (.slice Y1 e9.seen.length y1n) (.slice Y2 e9.counts.length y2n) (.slice Y3 e9.items.length y3n);have hPs:W4.heap.size<=(put7 W4 W3.heap.size e9 (.slice Y1 e9.seen.length y1n) (.slice Y2 e9.counts.length y2n) (.slice Y3 e9.items.length y3n)).heap.size/\(put7 W4 W3.heap.size e9 (.slice Y1 e9.seen.length y1n) (.slice Y2 e9.counts.length y2n) (.slice Y3 e9.items.length y3n)).heap.size<=W4.heap.size:=(by have:=zjx W4 W3.heap.size e9 (.slice Y1 e9.seen.length y1n) (.slice Y2 e9.counts.length y2n) (.slice Y3 e9.items.length y3n);omega);have rB5:RowIs (put7 W4 W3.heap.size e9 (.slice Y1 e9.seen.length y1n) (.slice Y2 e9.counts.length y2n) (.slice Y3 e9.items.length y3n)) _ _ _ _:=rB4.keep (hkp _ hbne);have rO5:RowIs (put7 W4 W3.heap.size e9 (.slice Y1 e9.seen.length y1n) (.slice Y2 e9.counts.length y2n) (.slice Y3 e9.items.length y3n)) _ _ _ _:=rO4.keep (hkp _ hone);have rR5:RowIs (put7 W4 W3.heap.size e9 (.slice Y1 e9.seen.length y1n) (.slice Y2 e9.counts.length y2n) (.slice Y3 e9.items.length y3n)) _ _ _ _:=rR4.keep (hkp _ hrne);have rG5:RowIs (put7 W4 W3.heap.size e9 (.slice Y1 e9.seen.length y1n) (.slice Y2 e9.counts.length y2n) (.slice Y3 e9.items.length y3n)) _ _ _ _:=zi4 (e:=e9) (v1:=.slice Y1 e9.seen.length y1n) (v2:=.slice Y2 e9.counts.length y2n) (v3:=.slice Y3 e9.items.length y3n) rE4;have hx5:Ext w (put7 W4 W3.heap.size e9 (.slice Y1 e9.seen.length y1n) (.slice Y2 e9.counts.length y2n) (.slice Y3 e9.items.length y3n)):=zdv (hx03.trans hx4) (by omega) e9 _ _ _;have hEW:W3.heap.size < W4.heap.size:=(by omega);have HA5:Hid (EntAt (put7 W4 W3.heap.size e9 (.slice Y1 e9.seen.length y1n) (.slice Y2 e9.counts.length y2n) (.slice Y3 e9.items.length y3n)) (fun b=>W3.heap.size < b/\b < W4.heap.size) e9 _ _ _):=zH ((hA4.mono (S':=fun b=>W3.heap.size < b/\b < W4.heap.size) (fun b hb h=>⟨by omega,hb⟩)).keep fun b hb _=>hkp b (by omega));have H5:Hid (StAt (put7 W4 W3.heap.size e9 (.slice Y1 e9.seen.length y1n) (.slice Y2 e9.counts.length y2n) (.slice Y3 e9.items.length y3n)) (fun b=>b < w.heap.size) ⟨sa,se,sp⟩ _ _ _):=zH ((H3.out.ext hx4).keep fun b hb _=>hkp b (by omega));obtain⟨e40,e41,e42,e43,e44,e45,e46⟩:=rE4.p7;obtain⟨ef0,ef1,ef2,ef3,ef4,ef5,ef6⟩:=rE4.q7;have HP5:=zH (show _/\_/\_/\_/\_/\_ from ⟨rB5,rO5,rR5,rG5,hx5,hPs⟩);clear hA4 hx4 hkp HUU rB4 rE4 rO4 rR4 rB5 rO5 rR5 rG5 hx5 hPs rB3 rO3 rR3 rE rBw rOw rRw hx03 H3 hx3w hxb hz3 hEz;clear e0 e1 e2 e3 e4 e5 e6 o0 o2 o3 o1' b1' w0 w1 w2 w3 bw1 hwa;refine hK0 _ _ ?_;clear hK0 K0;go_wp;refine HK1.out _ (put7 W4 W3.heap.size e9 (.slice Y1 e9.seen.length y1n) (.slice Y2 e9.counts.length y2n) (.slice Y3 e9.items.length y3n)) ?_
      clear HK1 K1 e40 e41 e42 e43 e44 e45 e46 ef0 ef1 ef2 ef3 ef4 ef5 ef6;generalize (put7 W4 W3.heap.size e9 (.slice Y1 e9.seen.length y1n) (.slice Y2 e9.counts.length y2n) (.slice Y3 e9.items.length y3n))=W5 at *;obtain⟨rB5,rO5,rR5,rG5,hx5,hPs⟩:=HP5.out;clear HP5;obtain⟨b50,b51,b52⟩:=rB5.p3
      by_cases herr:err=0
      ·subst herr;have HR:=zH (show updS ⟨sa,se,sp⟩ p (dO,k,n,tx)=(⟨setM sa p (z+1),zdj se k e9,sp⟩,0) from HRS4.out);have HC:=zH (zhr H5.out SM.out);clear HRS4;refine wp_seq_k ?_;intro K2 hK2;have HK2:=zH hK2;clear hK2;go_wp;refine HK2.out _ _ ?_;clear HK2 K2;refine wp_seq_k ?_;intro K3 hK3;have HK3:=zH hK3;clear hK3;go_wp;refine HC.out.mono ?_;rintro r W6 ⟨u1,u2,u3,rfl,hn6,hx6⟩;obtain⟨B1,m1,rfl,-,-⟩:=hn6.all.form;obtain⟨B2,m2,rfl,-,-⟩:=hn6.entries.form;obtain⟨B3,m3,rfl,-,-⟩:=hn6.pruned.form;clear HC b50 b51 b52;have hz6:=hx6.size;have rS6:=zai W6 26 [.slice B1 sa.length m1,.slice B2 se.length m2,.slice B3 sp.length m3];have hxa:=(Ext.refl W6).alloc (.cells #[.slice B1 sa.length m1,.slice B2 se.length m2,.slice B3 sp.length m3] 26);have hol6:w.heap.size+1 < W6.heap.size:=(by omega);have hx67:=hx6.trans hxa;have o61:=(rO5.ext hx67).cell (j:=1) rfl;have s71:=rS6.cell (j:=1) rfl;have rG7:=rG5.ext hx67;have rR7:=rR5.ext hx67;have hx7:=hx5.trans hx67;have HA7:=zH (HA5.out.ext hx67);have HN7:=zH ((hn6.at.mono (S':=fun b=>W5.heap.size<=b/\b < W6.heap.size) (fun b hb h=>⟨h,hb⟩)).ext hxa);have HE7:=zH (OwnL.ext (OwnL.mono hn6.entries (S':=fun b=>(W5.heap.size<=b/\¬ zaf (.slice B2 se.length m2) b)/\b < W6.heap.size) (fun b hb h=>⟨h,hb⟩)) hxa);have hE6:∀ b,zaf (.slice B2 se.length m2) b->W5.heap.size<=b/\b < W6.heap.size:=fun b hb=>hn6.entries.base_le hb
       have HSR:=zH (zkv k HN7.out.entries hri.out (Nat.le_trans SM.out.entries (by decide)));have hS6:=rS6.lt
       have HO6:=zH (show Own (W6.alloc (.cells #[.slice B1 sa.length m1,.slice B2 se.length m2,.slice B3 sp.length m3] 26)) W5.heap.size 97 2 (.slice B1 sa.length m1) sa.length (sa.flatMap zae)/\Own (W6.alloc (.cells #[.slice B1 sa.length m1,.slice B2 se.length m2,.slice B3 sp.length m3] 26)) W5.heap.size 9 1 (.slice B3 sp.length m3) sp.length (sp.flatMap strC)/\(∀ b,zaf (.slice B1 sa.length m1) b->¬ zaf (.slice B2 se.length m2) b)/\(∀ b,zaf (.slice B3 sp.length m3) b->¬ zaf (.slice B2 se.length m2) b) from by obtain⟨xE,hoE⟩:=hn6.entries.own;exact⟨hn6.all.ext hxa,hn6.pruned.ext hxa,hn6.all.apart2 hoE (by decide),hn6.pruned.apart2 hoE (by decide)⟩)
       clear hn6 hx6 hxa hx67 rG5 rR5 hx5 HA5 H5 rO5;rename_i K hK;refine hK _ _ ?_;clear hK K;go_wp;refine HK3.out _ _ ?_;clear HK3 K3;generalize W6.alloc (.cells #[.slice B1 sa.length m1,.slice B2 se.length m2,.slice B3 sp.length m3] 26)=W7 at *;refine wp_seq_k ?_;intro K5 hK5;have HK5:=zH hK5;clear hK5;go_wp;refine HSR.out.mono ?_;rintro r W8 ⟨i,is2,rfl,hF,hx8⟩;have rS8:=rS6.ext hx8;have rG8:=rG7.ext hx8;have rR8:=rR7.ext hx8;have hx08:=hx7.trans hx8;have hz8:=hx8.size;clear rS6 rG7 rR7 hx7 HSR o61 s71;obtain⟨hil,hput⟩:=zu8 (e:=e9) hri.out hF HSO.out;obtain⟨g,cap,X1,X2,tl,c0,c1x,c2x,c3x,c4,c5,c6,hv,hgb,hg,hX1,hfin⟩:=zwi (S:=fun b=>W3.heap.size < b/\b < W4.heap.size) (Sx:=fun b=>W3.heap.size < b/\b < W6.heap.size) (OwnL.ext HE7.out hx8) hil (HA7.out.ext hx8) (fun b hb=>⟨fun ho=>by have:=hE6 b ho;omega,by omega⟩) (fun b hb=>⟨hb.1.2,by have:=hb.1.1;have:=hb.2;omega⟩) (fun b hb=>by have:=hE6 b hb;omega);obtain⟨e1,e2⟩:B2=some ⟨g,0,none⟩/\m2=cap:=by injection hv with a b c;exact⟨a,c⟩
       subst e1;subst e2;clear hv;have hm2:0 < m2:=by obtain⟨_,c,e,h1,_⟩:=HE7.out.form;injection e with _ _ e3;subst e3;exact Nat.lt_of_lt_of_le (Nat.lt_of_le_of_lt (Nat.zero_le i) hil) h1
       have hgE:=hE6 g ⟨g,_,_,rfl,hm2,rfl⟩;obtain⟨k0,k1,k2,k3,k4,k5,k6⟩:=zlw hg hX1;have kf0:=hg.frozen (i * 7);have kf1:=hg.frozen (i * 7+1);have kf2:=hg.frozen (i * 7+2);have kf3:=hg.frozen (i * 7+3);have kf4:=hg.frozen (i * 7+4);have kf5:=hg.frozen (i * 7+5);have kf6:=hg.frozen (i * 7+6);have hi1:(i:Int) < (se.length:Int):=(by omega);have s1:=rS8.cell (j:=1) rfl;have s0:=rS8.cell (j:=0) rfl;obtain⟨g0,g1,g2,g3,g4,g5,g6⟩:=rG8.p7;have hgs:¬ (W6.heap.size=g):=(by omega);have hgs2:¬ (g=W6.heap.size):=(by omega);have hk9:∀ b,b ≠ g->(((((((W8.setCell ⟨g,i * 7,none⟩ (St e9.key)).setCell ⟨g,i * 7+1,none⟩ (.slice Y1 e9.seen.length y1n)).setCell ⟨g,i * 7+2,none⟩ (.slice Y2 e9.counts.length y2n)).setCell ⟨g,i * 7+3,none⟩ (.slice Y3 e9.items.length y3n)).setCell ⟨g,i * 7+4,none⟩ (U e9.cell.1)).setCell ⟨g,i * 7+5,none⟩ (St e9.cell.2.1)).setCell ⟨g,i * 7+6,none⟩ (.bool e9.cell.2.2)).heap[b]? = W8.heap[b]?:=fun b hb=>((((((Below.heap_setCell _ _ _ b hb).trans (Below.heap_setCell _ _ _ b hb)).trans (Below.heap_setCell _ _ _ b hb)).trans (Below.heap_setCell _ _ _ b hb)).trans (Below.heap_setCell _ _ _ b hb)).trans (Below.heap_setCell _ _ _ b hb)).trans (Below.heap_setCell _ _ _ b hb)
       have HE9:=zH (hfin (((((((W8.setCell ⟨g,i * 7,none⟩ (St e9.key)).setCell ⟨g,i * 7+1,none⟩ (.slice Y1 e9.seen.length y1n)).setCell ⟨g,i * 7+2,none⟩ (.slice Y2 e9.counts.length y2n)).setCell ⟨g,i * 7+3,none⟩ (.slice Y3 e9.items.length y3n)).setCell ⟨g,i * 7+4,none⟩ (U e9.cell.1)).setCell ⟨g,i * 7+5,none⟩ (St e9.cell.2.1)).setCell ⟨g,i * 7+6,none⟩ (.bool e9.cell.2.2)) (RowIs.set7 hg hX1 _ _ _ _ _ _ _) (fun b hb _=>hk9 b hb));have rS9:RowIs (((((((W8.setCell ⟨g,i * 7,none⟩ (St e9.key)).setCell ⟨g,i * 7+1,none⟩ (.slice Y1 e9.seen.length y1n)).setCell ⟨g,i * 7+2,none⟩ (.slice Y2 e9.counts.length y2n)).setCell ⟨g,i * 7+3,none⟩ (.slice Y3 e9.items.length y3n)).setCell ⟨g,i * 7+4,none⟩ (U e9.cell.1)).setCell ⟨g,i * 7+5,none⟩ (St e9.cell.2.1)).setCell ⟨g,i * 7+6,none⟩ (.bool e9.cell.2.2)) _ _ _ _:=rS8.keep (hk9 _ hgs);have rR9:RowIs (((((((W8.setCell ⟨g,i * 7,none⟩ (St e9.key)).setCell ⟨g,i * 7+1,none⟩ (.slice Y1 e9.seen.length y1n)).setCell ⟨g,i * 7+2,none⟩ (.slice Y2 e9.counts.length y2n)).setCell ⟨g,i * 7+3,none⟩ (.slice Y3 e9.items.length y3n)).setCell ⟨g,i * 7+4,none⟩ (U e9.cell.1)).setCell ⟨g,i * 7+5,none⟩ (St e9.cell.2.1)).setCell ⟨g,i * 7+6,none⟩ (.bool e9.cell.2.2)) _ _ _ _:=rR8.keep (hk9 _ (by omega));rw [hput] at HE9;have hO1:=(HO6.out.1.ext hx8).keep (w':=(((((((W8.setCell ⟨g,i * 7,none⟩ (St e9.key)).setCell ⟨g,i * 7+1,none⟩ (.slice Y1 e9.seen.length y1n)).setCell ⟨g,i * 7+2,none⟩ (.slice Y2 e9.counts.length y2n)).setCell ⟨g,i * 7+3,none⟩ (.slice Y3 e9.items.length y3n)).setCell ⟨g,i * 7+4,none⟩ (U e9.cell.1)).setCell ⟨g,i * 7+5,none⟩ (St e9.cell.2.1)).setCell ⟨g,i * 7+6,none⟩ (.bool e9.cell.2.2))) fun b hb _=>hk9 b (fun e=>by subst e;exact HO6.out.2.2.1 _ hb ⟨_,_,_,rfl,hm2,rfl⟩)
       have hO3:=(HO6.out.2.1.ext hx8).keep (w':=(((((((W8.setCell ⟨g,i * 7,none⟩ (St e9.key)).setCell ⟨g,i * 7+1,none⟩ (.slice Y1 e9.seen.length y1n)).setCell ⟨g,i * 7+2,none⟩ (.slice Y2 e9.counts.length y2n)).setCell ⟨g,i * 7+3,none⟩ (.slice Y3 e9.items.length y3n)).setCell ⟨g,i * 7+4,none⟩ (U e9.cell.1)).setCell ⟨g,i * 7+5,none⟩ (St e9.cell.2.1)).setCell ⟨g,i * 7+6,none⟩ (.bool e9.cell.2.2))) fun b hb _=>hk9 b (fun e=>by subst e;exact HO6.out.2.2.2 _ hb ⟨_,_,_,rfl,hm2,rfl⟩)
       have hx9:Ext w (((((((W8.setCell ⟨g,i * 7,none⟩ (St e9.key)).setCell ⟨g,i * 7+1,none⟩ (.slice Y1 e9.seen.length y1n)).setCell ⟨g,i * 7+2,none⟩ (.slice Y2 e9.counts.length y2n)).setCell ⟨g,i * 7+3,none⟩ (.slice Y3 e9.items.length y3n)).setCell ⟨g,i * 7+4,none⟩ (U e9.cell.1)).setCell ⟨g,i * 7+5,none⟩ (St e9.cell.2.1)).setCell ⟨g,i * 7+6,none⟩ (.bool e9.cell.2.2)):=((((((hx08.set (p:=⟨g,i * 7,none⟩) (by simp;omega) _).set (p:=⟨g,i * 7+1,none⟩) (by simp;omega) _).set (p:=⟨g,i * 7+2,none⟩) (by simp;omega) _).set (p:=⟨g,i * 7+3,none⟩) (by simp;omega) _).set (p:=⟨g,i * 7+4,none⟩) (by simp;omega) _).set (p:=⟨g,i * 7+5,none⟩) (by simp;omega) _).set (p:=⟨g,i * 7+6,none⟩) (by simp;omega) _;have hz9:(((((((W8.setCell ⟨g,i * 7,none⟩ (St e9.key)).setCell ⟨g,i * 7+1,none⟩ (.slice Y1 e9.seen.length y1n)).setCell ⟨g,i * 7+2,none⟩ (.slice Y2 e9.counts.length y2n)).setCell ⟨g,i * 7+3,none⟩ (.slice Y3 e9.items.length y3n)).setCell ⟨g,i * 7+4,none⟩ (U e9.cell.1)).setCell ⟨g,i * 7+5,none⟩ (St e9.cell.2.1)).setCell ⟨g,i * 7+6,none⟩ (.bool e9.cell.2.2)).heap.size=W8.heap.size:=(by simp only [World.size_setCell]);have HS:=zH (zh8 p (z+1) (zay hO1) (Nat.le_trans SM.out.all (by decide)));clear HE7 HA7 HN7 hfin hg hk9 rS8 rG8 rR8 hx08 hx8 HO6 hgE hgb hF hput;rename_i K hK;refine hK _ _ ?_;clear hK K;go_wp;refine HK5.out _ _ ?_;clear HK5 K5;refine wp_seq_k ?_;intro K6 hK6;have HK6:=zH hK6;clear hK6;go_wp;refine HK6.out _ (((((((W8.setCell ⟨g,i * 7,none⟩ (St e9.key)).setCell ⟨g,i * 7+1,none⟩ (.slice Y1 e9.seen.length y1n)).setCell ⟨g,i * 7+2,none⟩ (.slice Y2 e9.counts.length y2n)).setCell ⟨g,i * 7+3,none⟩ (.slice Y3 e9.items.length y3n)).setCell ⟨g,i * 7+4,none⟩ (U e9.cell.1)).setCell ⟨g,i * 7+5,none⟩ (St e9.cell.2.1)).setCell ⟨g,i * 7+6,none⟩ (.bool e9.cell.2.2)) ?_;clear HK6 K6;generalize (((((((W8.setCell ⟨g,i * 7,none⟩ (St e9.key)).setCell ⟨g,i * 7+1,none⟩ (.slice Y1 e9.seen.length y1n)).setCell ⟨g,i * 7+2,none⟩ (.slice Y2 e9.counts.length y2n)).setCell ⟨g,i * 7+3,none⟩ (.slice Y3 e9.items.length y3n)).setCell ⟨g,i * 7+4,none⟩ (U e9.cell.1)).setCell ⟨g,i * 7+5,none⟩ (St e9.cell.2.1)).setCell ⟨g,i * 7+6,none⟩ (.bool e9.cell.2.2))=W9 at *;have s90:=rS9.cell (j:=0) rfl;have hwa2:=HWA.out;refine wp_seq_k ?_;intro K7 hK7;have HK7:=zH hK7;clear hK7;go_wp;clear s90 hwa2;refine HS.out.mono ?_;rintro r W10 ⟨u,rfl,ho,hx10⟩;obtain⟨U1,un,rfl,-,-⟩:=ho.form;have hz10:=hx10.size;have rS10:=rS9.ext hx10;have rR10:=rR9.ext hx10;obtain⟨y0,y1,y2⟩:=rS10.p3;have yf:=rS10.frozen 0;have rS11:=rS10.set (j:=0) (by simp) (.slice U1 (setM sa p (z+1)).length un);simp only [List.set_cons_zero] at rS11;obtain⟨z0,z1,z2⟩:=rS11.p3;obtain⟨rr0,rr1,rr2⟩:=rR10.p3;obtain⟨ff0,ff1,ff2⟩:=rR10.q3;have rR11:=rR10.other (p:=⟨W6.heap.size,0,none⟩) (by simp;omega) (.slice U1 (setM sa p (z+1)).length un);obtain⟨r0,r1,r2⟩:=rR11.p3;obtain⟨f0,f1,f2⟩:=rR11.q3;have HX:=zH ((hx9.trans hx10).set (p:=⟨W6.heap.size,0,none⟩) (by simp;omega) (.slice U1 (setM sa p (z+1)).length un));have HO:=zH ho;have HE10:=zH (HE9.out.ext (by decide) hx10)
       have HP10:=zH (hO3.ext hx10);have hP3:∀ b,zaf (.slice B3 sp.length m3) b->b ≠ W6.heap.size:=fun b hb e=>(hO3.ext hx10).apart rS10 (by decide) (by rw [<- e];exact hb)
       clear ho rS9 rR9 rS10 rR10 rS11 rR11 hx9 hx10 HS HE9 hO1 hO3;rename_i K hK;refine hK _ _ ?_;clear hK K;go_wp;refine HK7.out _ _ ?_;clear HK7 K7;go_wp2_with fail
       (try simp only [Exit.inBlock,Exit.then])
       refine bodyPost_ret (v:=.tuple #[stV (.slice U1 (setM sa p (z+1)).length un) (.slice (some ⟨g,0,none⟩) se.length m2) (.slice B3 sp.length m3),I 0]) (by simp [results,Tryz.f36,go_sem,r0,r1,r2,rr0,rr1,rr2]) rfl ?_;have hq:=zbe (q:=w.heap.size+1+1) HX.out (by omega) (.slice U1 (setM sa p (z+1)).length un) (.slice (some ⟨g,0,none⟩) se.length m2) (.slice B3 sp.length m3);refine ⟨(.slice U1 (setM sa p (z+1)).length un),(.slice (some ⟨g,0,none⟩) se.length m2),.slice B3 sp.length m3,by (rw [HR.out];try rfl),?_⟩;rw [HR.out];refine ⟨?_,hq⟩;have hkp:∀ b,b ≠ W6.heap.size->b ≠ w.heap.size+1+1->(put3 (W10.setCell ⟨W6.heap.size,0,none⟩ (.slice U1 (setM sa p (z+1)).length un)) (w.heap.size+1+1) (.slice U1 (setM sa p (z+1)).length un) (.slice (some ⟨g,0,none⟩) se.length m2) (.slice B3 sp.length m3)).heap[b]? = W10.heap[b]?:=fun b h1 h2=>(zd2 _ _ _ _ _ b h2).trans (Below.heap_setCell _ _ _ _ h1)
       refine ⟨?_,?_,?_⟩
       ·exact (zay (HO.out.keep fun b hb _=>hkp b (by have:=(HO.out.base_le hb).1;omega) (by have:=(HO.out.base_le hb).1;omega))).mono (by decide) fun b _ h=>by omega
       ·exact (HE10.out.keep (by decide) fun b hb _=>hkp b (by omega) (by omega)).mono (by decide) fun b _ hb=>by omega
       ·exact ((OwnL.flat_iff (S:=fun b=>W5.heap.size<=b)).2 (HP10.out.keep fun b hb _=>hkp b (hP3 b hb) (by have:=(HP10.out.base_le hb).1;omega))).sl (by decide) (fun b _ h=>by omega) (fun b h _=>by omega)
      ·have HR:=zH (show updS ⟨sa,se,sp⟩ p (dO,k,n,tx)=(za3,err) by rw [HRS4.out];exact if_neg herr);have hne9:((err:Int) == 0)=false:=neI (by omega);obtain⟨r0,r1,r2⟩:=rR5.p3;obtain⟨f0,f1,f2⟩:=rR5.q3;have HX:=zH hx5;clear hx5 rB5 rR5 rO5 rG5 HA5 H5 HRS4;go_wp2_with fail
       (try simp only [Exit.inBlock,Exit.then])
       refine bodyPost_ret (v:=.tuple #[stV (.slice none 0 0) (.slice none 0 0) (.slice none 0 0),I err]) (by simp [results,Tryz.f36,go_sem,r0,r1,r2]) rfl ?_;have hq:=zbe (q:=w.heap.size+1+1) HX.out (by omega) (.slice none 0 0) (.slice none 0 0) (.slice none 0 0);refine ⟨.slice none 0 0,.slice none 0 0,.slice none 0 0,by (rw [HR.out];try rfl),?_⟩;rw [HR.out];exact⟨StAt.none _ _ _ _ _,hq⟩
     ·have HSO:=zH hsome;clear hsome HSW;go_wp2_with fail;refine HUU.out.mono ?_;rintro r W4 ⟨y1,y2,y3,rfl,hA4,hx4⟩;rename_i K1 hK1 K0 hK0;have HK1:=zH hK1;clear hK1;simp only at hA4 ⊢;obtain⟨Y1,y1n,rfl,-,-⟩:=hA4.seen.form;obtain⟨Y2,y2n,rfl,-,-⟩:=hA4.counts.form;obtain⟨Y3,y3n,rfl,-,-⟩:=hA4.items.form;have hz4:=hx4.size;have rB4:=rB3.ext hx4;have rO4:=rO3.ext hx4;have rR4:=rR3.ext hx4;have rE4:=rE.ext hx4;have hkp:=zge W4 W3.heap.size e9 (.slice Y1 e9.seen.length y1n) (.slice Y2 e9.counts.length y2n) (.slice Y3 e9.items.length y3n);have hPs:W4.heap.size<=(put7 W4 W3.heap.size e9 (.slice Y1 e9.seen.length y1n) (.slice Y2 e9.counts.length y2n) (.slice Y3 e9.items.length y3n)).heap.size/\(put7 W4 W3.heap.size e9 (.slice Y1 e9.seen.length y1n) (.slice Y2 e9.counts.length y2n) (.slice Y3 e9.items.length y3n)).heap.size<=W4.heap.size:=(by have:=zjx W4 W3.heap.size e9 (.slice Y1 e9.seen.length y1n) (.slice Y2 e9.counts.length y2n) (.slice Y3 e9.items.length y3n);omega);have rB5:RowIs (put7 W4 W3.heap.size e9 (.slice Y1 e9.seen.length y1n) (.slice Y2 e9.counts.length y2n) (.slice Y3 e9.items.length y3n)) _ _ _ _:=rB4.keep (hkp _ hbne);have rO5:RowIs (put7 W4 W3.heap.size e9 (.slice Y1 e9.seen.length y1n) (.slice Y2 e9.counts.length y2n) (.slice Y3 e9.items.length y3n)) _ _ _ _:=rO4.keep (hkp _ hone);have rR5:RowIs (put7 W4 W3.heap.size e9 (.slice Y1 e9.seen.length y1n) (.slice Y2 e9.counts.length y2n) (.slice Y3 e9.items.length y3n)) _ _ _ _:=rR4.keep (hkp _ hrne);have rG5:RowIs (put7 W4 W3.heap.size e9 (.slice Y1 e9.seen.length y1n) (.slice Y2 e9.counts.length y2n) (.slice Y3 e9.items.length y3n)) _ _ _ _:=zi4 (e:=e9) (v1:=.slice Y1 e9.seen.length y1n) (v2:=.slice Y2 e9.counts.length y2n) (v3:=.slice Y3 e9.items.length y3n) rE4;have hx5:Ext w (put7 W4 W3.heap.size e9 (.slice Y1 e9.seen.length y1n) (.slice Y2 e9.counts.length y2n) (.slice Y3 e9.items.length y3n)):=zdv (hx03.trans hx4) (by omega) e9 _ _ _;have hEW:W3.heap.size < W4.heap.size:=(by omega);have HA5:Hid (EntAt (put7 W4 W3.heap.size e9 (.slice Y1 e9.seen.length y1n) (.slice Y2 e9.counts.length y2n) (.slice Y3 e9.items.length y3n)) (fun b=>W3.heap.size < b/\b < W4.heap.size) e9 _ _ _):=zH ((hA4.mono (S':=fun b=>W3.heap.size < b/\b < W4.heap.size) (fun b hb h=>⟨by omega,hb⟩)).keep fun b hb _=>hkp b (by omega));have H5:Hid (StAt (put7 W4 W3.heap.size e9 (.slice Y1 e9.seen.length y1n) (.slice Y2 e9.counts.length y2n) (.slice Y3 e9.items.length y3n)) (fun b=>b < w.heap.size) ⟨sa,se,sp⟩ _ _ _):=zH ((H3.out.ext hx4).keep fun b hb _=>hkp b (by omega));obtain⟨e40,e41,e42,e43,e44,e45,e46⟩:=rE4.p7;obtain⟨ef0,ef1,ef2,ef3,ef4,ef5,ef6⟩:=rE4.q7;have HP5:=zH (show _/\_/\_/\_/\_/\_ from ⟨rB5,rO5,rR5,rG5,hx5,hPs⟩);clear hA4 hx4 hkp HUU rB4 rE4 rO4 rR4 rB5 rO5 rR5 rG5 hx5 hPs rB3 rO3 rR3 rE rBw rOw rRw hx03 H3 hx3w hxb hz3 hEz;clear e0 e1 e2 e3 e4 e5 e6 o0 o2 o3 o1' b1' w0 w1 w2 w3 bw1 hwa;refine hK0 _ _ ?_;clear hK0 K0;go_wp;refine HK1.out _ (put7 W4 W3.heap.size e9 (.slice Y1 e9.seen.length y1n) (.slice Y2 e9.counts.length y2n) (.slice Y3 e9.items.length y3n)) ?_
      clear HK1 K1 e40 e41 e42 e43 e44 e45 e46 ef0 ef1 ef2 ef3 ef4 ef5 ef6;generalize (put7 W4 W3.heap.size e9 (.slice Y1 e9.seen.length y1n) (.slice Y2 e9.counts.length y2n) (.slice Y3 e9.items.length y3n))=W5 at *;obtain⟨rB5,rO5,rR5,rG5,hx5,hPs⟩:=HP5.out;clear HP5;obtain⟨b50,b51,b52⟩:=rB5.p3
      by_cases herr:err=0
      ·subst herr;have HR:=zH (show updS ⟨sa,se,sp⟩ p (dO,k,n,tx)=(⟨setM sa p (z+1),zdj se k e9,sp⟩,0) from HRS4.out);have HC:=zH (zhr H5.out SM.out);clear HRS4;refine wp_seq_k ?_;intro K2 hK2;have HK2:=zH hK2;clear hK2;go_wp;refine HK2.out _ _ ?_;clear HK2 K2;refine wp_seq_k ?_;intro K3 hK3;have HK3:=zH hK3;clear hK3;go_wp;refine HC.out.mono ?_;rintro r W6 ⟨u1,u2,u3,rfl,hn6,hx6⟩;obtain⟨B1,m1,rfl,-,-⟩:=hn6.all.form;obtain⟨B2,m2,rfl,-,-⟩:=hn6.entries.form;obtain⟨B3,m3,rfl,-,-⟩:=hn6.pruned.form;clear HC b50 b51 b52;have hz6:=hx6.size;have rS6:=zai W6 26 [.slice B1 sa.length m1,.slice B2 se.length m2,.slice B3 sp.length m3];have hxa:=(Ext.refl W6).alloc (.cells #[.slice B1 sa.length m1,.slice B2 se.length m2,.slice B3 sp.length m3] 26);have hol6:w.heap.size+1 < W6.heap.size:=(by omega);have hx67:=hx6.trans hxa;have o61:=(rO5.ext hx67).cell (j:=1) rfl;have s71:=rS6.cell (j:=1) rfl;have rG7:=rG5.ext hx67;have rR7:=rR5.ext hx67;have hx7:=hx5.trans hx67;have HA7:=zH (HA5.out.ext hx67);have HN7:=zH ((hn6.at.mono (S':=fun b=>W5.heap.size<=b/\b < W6.heap.size) (fun b hb h=>⟨h,hb⟩)).ext hxa);have HE7:=zH (OwnL.ext (OwnL.mono hn6.entries (S':=fun b=>(W5.heap.size<=b/\¬ zaf (.slice B2 se.length m2) b)/\b < W6.heap.size) (fun b hb h=>⟨h,hb⟩)) hxa);have hE6:∀ b,zaf (.slice B2 se.length m2) b->W5.heap.size<=b/\b < W6.heap.size:=fun b hb=>hn6.entries.base_le hb
       have HSR:=zH (zkv k HN7.out.entries hri.out (Nat.le_trans SM.out.entries (by decide)));have hS6:=rS6.lt
       have HO6:=zH (show Own (W6.alloc (.cells #[.slice B1 sa.length m1,.slice B2 se.length m2,.slice B3 sp.length m3] 26)) W5.heap.size 97 2 (.slice B1 sa.length m1) sa.length (sa.flatMap zae)/\Own (W6.alloc (.cells #[.slice B1 sa.length m1,.slice B2 se.length m2,.slice B3 sp.length m3] 26)) W5.heap.size 9 1 (.slice B3 sp.length m3) sp.length (sp.flatMap strC)/\(∀ b,zaf (.slice B1 sa.length m1) b->¬ zaf (.slice B2 se.length m2) b)/\(∀ b,zaf (.slice B3 sp.length m3) b->¬ zaf (.slice B2 se.length m2) b) from by obtain⟨xE,hoE⟩:=hn6.entries.own;exact⟨hn6.all.ext hxa,hn6.pruned.ext hxa,hn6.all.apart2 hoE (by decide),hn6.pruned.apart2 hoE (by decide)⟩)
       clear hn6 hx6 hxa hx67 rG5 rR5 hx5 HA5 H5 rO5;rename_i K hK;refine hK _ _ ?_;clear hK K;go_wp;refine HK3.out _ _ ?_;clear HK3 K3;generalize W6.alloc (.cells #[.slice B1 sa.length m1,.slice B2 se.length m2,.slice B3 sp.length m3] 26)=W7 at *;refine wp_seq_k ?_;intro K5 hK5;have HK5:=zH hK5;clear hK5;go_wp;refine HSR.out.mono ?_;rintro r W8 ⟨i,is2,rfl,hF,hx8⟩;have rS8:=rS6.ext hx8;have rG8:=rG7.ext hx8;have rR8:=rR7.ext hx8;have hx08:=hx7.trans hx8;have hz8:=hx8.size;clear rS6 rG7 rR7 hx7 HSR o61 s71;obtain⟨hil,hput⟩:=zxy (e:=e9) hri.out hF HSO.out;have hxv:=(Ext.refl W8).alloc (.cells (entL e9 (.slice Y1 e9.seen.length y1n) (.slice Y2 e9.counts.length y2n) (.slice Y3 e9.items.length y3n)).toArray 46);have rV:=zai W8 46 (entL e9 (.slice Y1 e9.seen.length y1n) (.slice Y2 e9.counts.length y2n) (.slice Y3 e9.items.length y3n));have hVl:=rV.lt;obtain⟨xs,hown,hone1,hfin⟩:=zp3 (S:=fun b=>W3.heap.size < b/\b < W4.heap.size) (Sx:=fun b=>W3.heap.size < b/\b ≠ W6.heap.size) (OwnL.ext HE7.out (hx8.trans hxv)) hil (HA7.out.ext (hx8.trans hxv)) (fun b hb=>⟨fun ho=>by have:=hE6 b ho;omega,by omega,by omega⟩) (fun b hb=>⟨hb.1.2,by have:=hb.1.1;have:=hb.2;omega,by have:=hb.2;omega⟩) (fun b hb=>by have:=hE6 b hb;omega) (by omega);have hoV:=zir ((HA7.out.ext (hx8.trans hxv)).rd (S':=fun _=>True) (fun _ _ _=>trivial));have HI:=zH (zp8 hown rV rfl hoV hone1 hil SM.out.entries (by omega) (fun ho=>by have:=hE6 _ ho;omega));obtain⟨g0,g1,g2,g3,g4,g5,g6⟩:=rG8.p7;have s1:=rS8.cell (j:=1) rfl;have hso:∀ b,zaf (.slice B2 se.length m2) b->b ≠ W6.heap.size:=fun b hb=>by have:=hE6 b hb;omega
       have rSv:=rS8.ext hxv;have rRv:=rR8.ext hxv;have hx0v:=hx08.trans hxv;have HO8:=zH ((⟨HO6.out.1.ext (hx8.trans hxv),HO6.out.2.1.ext (hx8.trans hxv)⟩:_/\_));clear HE7 HA7 HN7 rG8 rR8 hx08 rS8 hF;rename_i K hK;refine hK _ _ ?_;clear hK K;go_wp;refine HK5.out _ _ ?_;clear HK5 K5;refine wp_seq_k ?_;intro K6 hK6;have HK6:=zH hK6;clear hK6;go_wp;generalize W8.alloc (.cells (entL e9 (.slice Y1 e9.seen.length y1n) (.slice Y2 e9.counts.length y2n) (.slice Y3 e9.items.length y3n)).toArray 46)=Wv at *;refine HI.out.mono ?_;rintro r W9 ⟨v9,rfl,hown9,hgr⟩;have HE9a:=hfin W9 v9 hown9 hgr;rw [hput] at HE9a;have hlen9:(zdj se k e9).length=se.length+1:=(by rw [<- hput];simp;omega);obtain⟨AV,cV,rfl,-,-⟩:=hown9.form;have rSw:=rSv.keep (hgr.same _ rSv.lt (fun ho=>hso _ ho rfl));have rRw9:=rRv.keep (hgr.same _ rRv.lt (fun ho=>by have:=hE6 _ ho;omega));have hO1w:=HO8.out.1.keep fun b hb hlt=>hgr.same b hlt (fun ho=>HO6.out.2.2.1 b hb ho)
       have hO3w:=HO8.out.2.keep fun b hb hlt=>hgr.same b hlt (fun ho=>HO6.out.2.2.2 b hb ho)
       have hx0w:=hx0v.grew hgr (fun b hb=>by have:=hE6 b hb;omega);have sw0:=rSw.cell (j:=0) rfl;have sw1:=rSw.cell (j:=1) rfl;have swf:=rSw.frozen 1;have rS9:=rSw.set (j:=1) (by simp) (.slice AV (se.length+1) cV);simp only [List.set_cons_succ,List.set_cons_zero] at rS9;have rR9:=rRw9.other (p:=⟨W6.heap.size,1,none⟩) (by simp;omega) (.slice AV (se.length+1) cV);have hO1:=hO1w.keep (w':=W9.setCell ⟨W6.heap.size,1,none⟩ (.slice AV (se.length+1) cV)) fun b hb _=>Below.heap_setCell _ _ _ _ (fun e=>hO1w.apart rSw (by decide) (by have e2:b=W6.heap.size:=e;rw [<- e2];exact hb))
       have hO3:=hO3w.keep (w':=W9.setCell ⟨W6.heap.size,1,none⟩ (.slice AV (se.length+1) cV)) fun b hb _=>Below.heap_setCell _ _ _ _ (fun e=>hO3w.apart rSw (by decide) (by have e2:b=W6.heap.size:=e;rw [<- e2];exact hb))
       have HE9:=zH (HE9a.keep (w':=W9.setCell ⟨W6.heap.size,1,none⟩ (.slice AV (se.length+1) cV)) (by decide) fun b hb _=>Below.heap_setCell _ _ _ _ (fun e=>hb.2 e));have hx9:=hx0w.set (p:=⟨W6.heap.size,1,none⟩) (by simp;omega) (.slice AV (se.length+1) cV);have hz9:(W9.setCell ⟨W6.heap.size,1,none⟩ (.slice AV (se.length+1) cV)).heap.size=W9.heap.size:=World.size_setCell _ _ _;have hz9b:=hgr.size;have HS:=zH (zh8 p (z+1) (zay hO1) (Nat.le_trans SM.out.all (by decide)));clear rSv rRv hx0v hO1w hO3w hx0w HE9a hown9 hgr hfin hown HI rSw rRw9 hx8 HO6 HO8;rename_i K hK;refine hK _ _ ?_;clear hK K;go_wp;refine HK6.out _ _ ?_;clear HK6 K6;generalize W9.setCell ⟨W6.heap.size,1,none⟩ (.slice AV (se.length+1) cV)=W9s at *;have s90:=rS9.cell (j:=0) rfl;have hwa2:=HWA.out;refine wp_seq_k ?_;intro K7 hK7;have HK7:=zH hK7;clear hK7;go_wp;clear s90 hwa2;refine HS.out.mono ?_;rintro r W10 ⟨u,rfl,ho,hx10⟩;obtain⟨U1,un,rfl,-,-⟩:=ho.form;have hz10:=hx10.size;have rS10:=rS9.ext hx10;have rR10:=rR9.ext hx10;obtain⟨y0,y1,y2⟩:=rS10.p3;have yf:=rS10.frozen 0;have rS11:=rS10.set (j:=0) (by simp) (.slice U1 (setM sa p (z+1)).length un);simp only [List.set_cons_zero] at rS11;obtain⟨z0,z1,z2⟩:=rS11.p3;obtain⟨rr0,rr1,rr2⟩:=rR10.p3;obtain⟨ff0,ff1,ff2⟩:=rR10.q3;have rR11:=rR10.other (p:=⟨W6.heap.size,0,none⟩) (by simp;omega) (.slice U1 (setM sa p (z+1)).length un);obtain⟨r0,r1,r2⟩:=rR11.p3;obtain⟨f0,f1,f2⟩:=rR11.q3;have HX:=zH ((hx9.trans hx10).set (p:=⟨W6.heap.size,0,none⟩) (by simp;omega) (.slice U1 (setM sa p (z+1)).length un));have HO:=zH ho;have HE10:=zH (HE9.out.ext (by decide) hx10);have HP10:=zH (hO3.ext hx10);have hP3:∀ b,zaf (.slice B3 sp.length m3) b->b ≠ W6.heap.size:=fun b hb e=>(hO3.ext hx10).apart rS10 (by decide) (by rw [<- e];exact hb)
       clear ho rS9 rR9 rS10 rR10 rS11 rR11 hx9 hx10 HS HE9 hO1 hO3;rename_i K hK;refine hK _ _ ?_;clear hK K;go_wp;refine HK7.out _ _ ?_;clear HK7 K7;go_wp2_with fail
       (try simp only [Exit.inBlock,Exit.then])
       refine bodyPost_ret (v:=.tuple #[stV (.slice U1 (setM sa p (z+1)).length un) (.slice AV (se.length+1) cV) (.slice B3 sp.length m3),I 0]) (by simp [results,Tryz.f36,go_sem,r0,r1,r2,rr0,rr1,rr2]) rfl ?_;have hq:=zbe (q:=w.heap.size+1+1) HX.out (by omega) (.slice U1 (setM sa p (z+1)).length un) (.slice AV (se.length+1) cV) (.slice B3 sp.length m3);refine ⟨(.slice U1 (setM sa p (z+1)).length un),(.slice AV (se.length+1) cV),.slice B3 sp.length m3,by (rw [HR.out];try rfl),?_⟩;rw [HR.out];refine ⟨?_,hq⟩;have hkp:∀ b,b ≠ W6.heap.size->b ≠ w.heap.size+1+1->(put3 (W10.setCell ⟨W6.heap.size,0,none⟩ (.slice U1 (setM sa p (z+1)).length un)) (w.heap.size+1+1) (.slice U1 (setM sa p (z+1)).length un) (.slice AV (se.length+1) cV) (.slice B3 sp.length m3)).heap[b]? = W10.heap[b]?:=fun b h1 h2=>(zd2 _ _ _ _ _ b h2).trans (Below.heap_setCell _ _ _ _ h1)
       refine ⟨?_,?_,?_⟩
       ·exact (zay (HO.out.keep fun b hb _=>hkp b (by have:=(HO.out.base_le hb).1;omega) (by have:=(HO.out.base_le hb).1;omega))).mono (by decide) fun b _ h=>by omega
       ·exact (HE10.out.keep (by decide) fun b hb _=>hkp b (by omega) (by omega)).mono (by decide) fun b _ hb=>by omega
       ·exact ((OwnL.flat_iff (S:=fun b=>W5.heap.size<=b)).2 (HP10.out.keep fun b hb _=>hkp b (hP3 b hb) (by have:=(HP10.out.base_le hb).1;omega))).sl (by decide) (fun b _ h=>by omega) (fun b h _=>by omega)
      ·have HR:=zH (show updS ⟨sa,se,sp⟩ p (dO,k,n,tx)=(za3,err) by rw [HRS4.out];exact if_neg herr);have hne9:((err:Int) == 0)=false:=neI (by omega);obtain⟨r0,r1,r2⟩:=rR5.p3;obtain⟨f0,f1,f2⟩:=rR5.q3;have HX:=zH hx5;clear hx5 rB5 rR5 rO5 rG5 HA5 H5 HRS4;go_wp2_with fail
       (try simp only [Exit.inBlock,Exit.then])
       refine bodyPost_ret (v:=.tuple #[stV (.slice none 0 0) (.slice none 0 0) (.slice none 0 0),I err]) (by simp [results,Tryz.f36,go_sem,r0,r1,r2]) rfl ?_;have hq:=zbe (q:=w.heap.size+1+1) HX.out (by omega) (.slice none 0 0) (.slice none 0 0) (.slice none 0 0);refine ⟨.slice none 0 0,.slice none 0 0,.slice none 0 0,by (rw [HR.out];try rfl),?_⟩;rw [HR.out];exact⟨StAt.none _ _ _ _ _,hq⟩
end
section
end
section
abbrev q1:Str:=[49]
abbrev q11:Str:=[49,46,49]
abbrev kN:Str:=[35,110]
abbrev kS:Str:=[64,115]
abbrev opN:OpD:=(1,kN,2,[])
abbrev opS:OpD:=(2,kS,0,[97])
abbrev pQ:PrD:=(q11,2,q1,5)
def eN:Entry:=⟨kN,[(q11,1)],[(q11,2,0)],[],0,[],false⟩
def eS:Entry:=⟨kS,[(q11,2)],[],[([97],[(q11,2)])],0,[],false⟩
def eNt:Entry:=⟨kN,[(q1,7)],[([],2,0)],[],0,[],false⟩
def eSt:Entry:=⟨kS,[(q1,7)],[],[([97],[(q1,7)])],0,[],false⟩
def st0:State:=⟨[(q1,5)],[],[]⟩
def stP:State:=⟨[(q1,5),(q11,1)],[eN],[]⟩
def stQ:State:=⟨[(q1,5),(q11,2)],[eN,eS],[]⟩
def stV7:State:=⟨[(q1,7),(q11,2)],[eN,eS],[]⟩
def stT:State:=⟨[(q1,7)],[eNt,eSt],[q11]⟩
def stF:State:=⟨[(q1,7)],[eNt,eSt],[]⟩
theorem zyd:updS st0 q11 opN=(stP,0):=by kernel_rfl
theorem zye:updS stP q11 opS=(stQ,0):=by kernel_rfl
theorem zyf:zax stQ pQ=(za3,170):=by kernel_rfl
theorem zyg:zea stQ q1 2=(stV7,0):=by kernel_rfl
theorem zo8:zax stV7 pQ=(stT,0):=by kernel_rfl
theorem zx1:zax stT pQ=(stT,0):=by kernel_rfl
theorem zyh:zka stT q11=stF:=by kernel_rfl
theorem zyi:allP stV7 [pQ,pQ]=(stT,0):=by
 unfold allP;rw [zo8,if_pos rfl];unfold allP;rw [zx1,if_pos rfl]
 rfl
theorem zyj:zow stV7 []=stV7:=by kernel_rfl
theorem zx2:zdp [] [] = []:=by kernel_rfl
theorem zyk:zgh [] stV7 pQ=([],stT,0):=by
 unfold zgh;rw [zo8,if_pos rfl]
 rfl
theorem zyl:atE stT.entries kN=eNt:=by kernel_rfl
theorem zym:zaq eNt.key=1:=by kernel_rfl
theorem zyn:zba eNt.counts=2:=by kernel_rfl
theorem zyo:za4 stT.entries kS=some eSt:=by kernel_rfl
theorem zo9:mayP pQ=true:=by kernel_rfl
theorem zyp:zcx stV7.all pQ=true:=by kernel_rfl
theorem zyq:zcx stT.all pQ=false:=by kernel_rfl
theorem zgi {s:State} (h:(decide (s.all.length<=10) && (decide (s.entries.length<=10) && (decide (s.pruned.length<=10) && s.entries.all fun e=>decide (e.seen.length<=10) && (decide (e.counts.length<=10) && (decide (e.items.length<=10) && ((e.items.all fun it=>decide (it.2.length<=10)) && decide ((zac e.items).length<=10)))))))=true):LimS 10 s:=by
 simp only [Bool.and_eq_true,decide_eq_true_eq,List.all_eq_true] at h;obtain⟨h1,h2,h3,h4⟩:=h
 exact⟨h1,h2,h3,fun e he=>by obtain⟨a,b,c,d,f⟩:=h4 e he;exact⟨a,b,c,d,f⟩⟩
theorem lim_st0:LimS 10 st0:=zgi (by kernel_rfl)
theorem lim_stP:LimS 10 stP:=zgi (by kernel_rfl)
theorem lim_stQ:LimS 10 stQ:=zgi (by kernel_rfl)
theorem lim_stR:LimS 10 stV7:=zgi (by kernel_rfl)
theorem lim_stT:LimS 10 stT:=zgi (by kernel_rfl)
end
section
open Go.RowKit Go.Shelf
end
section
end
section
open Go.RowKit
structure Rep where
 s:State
 knew:List Bool
 asked:List Mark
end
section
open Go.RowKit
structure RepV where
 s1:Value
 s2:Value
 s3:Value
 kn:Value
 ask:Value
section
variable {W W':World} {base R:Nat} {vs:List RepV} {rs:List Rep} {va:Value} {E:List Ev}
end
end
section
open Go.RowKit
section
variable {W W':World} {base R:Nat} {vs:List RepV} {rs:List Rep} {va:Value} {E:List Ev}
end
end
section
open Go.RowKit
section
variable {W W':World} {base R:Nat} {vs:List RepV} {rs:List Rep} {va:Value} {E:List Ev}
end
end
section
open Go.RowKit
end
section
open Go.RowKit
section
variable {E:List Ev} {a b c:State}
end
end
section
open Go.RowKit Go.Shelf
theorem zn1 {S:Nat->Prop} {v:Value} {l:List Dot} {w:World} (d:Dot) (hv:Sl zap w S v l) (hl0:l.length<=1000000) :
  Calls Tryz.prog 196 #[v,.agg #[St d.1,U d.2]] w fun e w'=>∃ v',e=.returned v'/\Sl zap w' (fun b=>S b ∨ w.heap.size<=b) v' (putD l d)/\Ext w w':=by
 have hv':=hv;obtain⟨P0,c,rfl,h1,h2⟩:=hv.form;obtain⟨W1,hW1⟩:∃ W1,w.alloc (.cells #[St d.1,U d.2] 59)=W1:=⟨_,rfl⟩
 have hx1:Ext w W1:=by rw [<- hW1];exact (Ext.refl w).alloc _
 have c0:W1.cell? ⟨w.heap.size,0,none⟩=some (St d.1):=by rw [<- hW1];simp [go_sem]
 have c1:W1.cell? ⟨w.heap.size,1,none⟩=some (U d.2):=by rw [<- hW1];simp [go_sem]
 have hsz1:w.heap.size<=W1.heap.size:=hx1.size;have HAT:=zH (fun (pre post:List Dot) (x:Dot) (wr:World) (h:Ext W1 wr) (hl:l=pre++x :: post)=>zer hv' (hx1.trans h) hl);have HSL:=zH (fun (wr:World) (h:Ext W1 wr)=>hv'.ext (by decide) (hx1.trans h));have HX1:=zH hx1;have hlen0:=zox d l;clear hv hv' hx1;go_enter Tryz.func196,Tryz.ntmps196;go_wp2_with fail
 go_loopw [5,6,7] (fun o dn i wr=>∃ (pre post P:List Dot) (db:Bool),l=pre++post/\i=I pre.length/\dn=.bool db/\d ∉ pre/\P++insD d db post=insD d false l/\P.length<=l.length+1/\Own wr W1.heap.size 59 2 o P.length (P.flatMap zae)/\Ext W1 wr) (fun _ _ i _=>l.length - (intOf i).toNat)
 case atStart=>exact⟨[],l,[],false,rfl,rfl,rfl,by simp,rfl,by simp,Own.nil _ _ _ _ _,Ext.refl _⟩
 case round =>
  obtain⟨pre,post,P,db,hl,rfl,rfl,hn,hp,hpl,hown,hx⟩:=hrel;have b0:=hx.cell c0;have b1:=hx.cell c1;have hn3:=hx.size;have HX:=zH hx;have HN:=zH hn;have HO:=zH hown;obtain⟨CO,nO,rfl,-,-⟩:=hown.form
  cases post with
  | cons x post =>
   obtain⟨b,o,rfl,e0,e1⟩:=HAT.out pre post x wr hx hl;have hlt:pre.length < l.length:=(by rw [hl];simp);have HL:=zH hl;have HP:=zH hp;have HZ:=zH (show cmpD d x=0↔d=x from zu6);have HIC:=zH (zgg d x db post);obtain⟨Wd,hWd⟩:∃ W,wr.drew=W:=⟨_,rfl⟩
   have hdr:Ext wr Wd:=(by rw [<- hWd];exact (Ext.refl _).drew);have HWD:=zH hWd;have HXD:=zH (hx.trans hdr);replace b0:=hdr.cell b0;replace b1:=hdr.cell b1;replace e0:=hdr.cell e0;replace e1:=hdr.cell e1;have HOD:=zH (hown.ext hdr);have hn4:=Nat.le_trans hn3 hdr.size;have HCD:=zH (zqv d x Wd);clear hl hx hn hp c0 c1 hown hWd hdr HX HO;go_wp2_with fail;refine wp_region_still_tail 5 (by kernel_rfl) (by kernel_rfl) ?_;simp only [List.take_succ_cons,List.take_zero,List.drop_succ_cons,List.drop_zero];change wpStill _ _ (wr).drew (fun a'=>wpList _ _ _ _ a' (wr).drew) _ _;rw [HWD.out];generalize hA:Act.mk _ _=A0;repeat (refine wpStill_step (fun K2 hK2=>?_);subst hA;go_simp;(try rw [if_neg (by decide)]);generalize hA:Act.mk _ _=A0;refine hK2 A0 ?_;clear hK2 K2)
   refine wpStill_nil ?_;subst hA;go_wp2_with fail;refine HCD.out.mono ?_;rintro e w2 ⟨rfl,hx2⟩;obtain⟨z,hz⟩:∃ z,cmpD d x=z:=⟨_,rfl⟩
   rw [hz] at HZ HIC ⊢;have HX:=zH (HXD.out.trans hx2);have HO:=zH (HOD.out.ext hx2);replace b0:=hx2.cell b0;replace b1:=hx2.cell b1;replace e0:=hx2.cell e0;replace e1:=hx2.cell e1;have hn5:=Nat.le_trans hn4 hx2.size;have HZN:=zH hz;clear hx2 hz HCD HWD HXD HOD hn3 hn4
   by_cases hz0:z=0
   ·have hzb:(z == 0)=true:=(by simpa using hz0);have HD:=zH (show putD l d=l from if_pos (by rw [HL.out,HZ.out.1 hz0];simp));clear hz0 b0 b1 e0 e1;go_wp2_with fail;go_ret;exact⟨_,rfl,by rw [HD.out];exact (HSL.out _ HX.out).mono (by decide) (fun b _ h=>.inl h),HX1.out.trans HX.out⟩
   ·have hzb:(z == 0)=false:=(by simpa using hz0);have HNN:=zH (show d ∉ pre++[x] from fun h=>by rcases List.mem_append.1 h with h | h;exact HN.out h;simp at h;exact hz0 (HZ.out.2 h))
    cases db with
    | true =>
     have hp:=HP.out;rw [HIC.out,if_neg (by simp)] at hp;have HP:=zH hp;clear hp hz0
     go_wp2_with (at_builtin;refine zag rfl (.tmp 34) (.tmp 39) 55 rfl W1.heap.size 59 2 24 (.agg #[St [],U 0]) Tryz.underlying55 zd3 rfl (by omega) _ (P.length) (P.flatMap zae) rfl (HO.out.alloc _) _ 1 1 [St x.1,U x.2] rfl (Src.new rfl (by intro u hu;simp at hu;rcases hu with rfl | rfl <;> rfl)) (by omega) (by omega) (by simp;omega) ?_;intro v3 w3 hown3 hgr3)
     go_roundw
     case rel=>exact⟨pre++[x],post,P++[x],true,by rw [HL.out];simp,by simp,rfl,HNN.out,by rw [<- HP.out];simp,by have:=congrArg List.length HP.out;simp at this ⊢;omega,by simpa [zae] using hown3,Ext.grewOwn (HX.out.alloc _) hgr3 (HO.out.alloc _) (Nat.le_refl _)⟩
     case measure=>simp [intOf];omega
    | false =>
     by_cases hz2:z < 0
     ·have hp:=HP.out;rw [HIC.out,if_pos ⟨rfl,hz2⟩] at hp;have HP:=zH hp;clear hp hz0
      go_wp2_with (at_builtin;first | (refine zag rfl (.tmp 30) (.tmp 32) 55 rfl W1.heap.size 59 2 24 (.agg #[St [],U 0]) Tryz.underlying55 zd3 rfl (by omega) _ (P.length) (P.flatMap zae) rfl (HO.out.alloc _) _ 1 1 [St d.1,U d.2] rfl (Src.new rfl (by intro u hu;simp at hu;rcases hu with rfl | rfl <;> rfl)) (by omega) (by omega) (by simp;omega) ?_;intro v2 w2 hown2 hgr2;have hxb:=Ext.grewOwn (HX.out.alloc _) hgr2 (HO.out.alloc _) (Nat.le_refl _);have HO2:=zH hown2;obtain⟨b2,o2,he2,e0',e1'⟩:=HAT.out pre post x _ hxb HL.out;injection he2 with he2;injection he2 with he3 he4;subst he3;subst he4;have hn6:=hxb.size;have HXB:=zH hxb;obtain⟨C2,cc2,rfl,-,-⟩:=hown2.form;clear hown2 hgr2 hxb) | (refine zag rfl (.tmp 34) (.tmp 39) 55 rfl W1.heap.size 59 2 24 (.agg #[St [],U 0]) Tryz.underlying55 zd3 rfl (by omega) _ (P.length+1) (P.flatMap zae++[St d.1,U d.2]) rfl (HO2.out.alloc _) _ 1 1 [St x.1,U x.2] rfl (Src.new rfl (by intro u hu;simp at hu;rcases hu with rfl | rfl <;> rfl)) (by omega) (by omega) (by simp;omega) ?_;intro v3 w3 hown3 hgr3))
      go_roundw
      case rel=>exact⟨pre++[x],post,P++[d,x],true,by rw [HL.out];simp,by simp,rfl,HNN.out,by rw [<- HP.out];simp,by have:=congrArg List.length HP.out;simp at this ⊢;omega,by simpa [zae] using hown3,Ext.grewOwn (HXB.out.alloc _) hgr3 (HO2.out.alloc _) (Nat.le_refl _)⟩
      case measure=>simp [intOf];omega
     ·have hp:=HP.out;rw [HIC.out,if_neg (fun h=>hz2 h.2)] at hp;have HP:=zH hp;clear hp hz0
      go_wp2_with (at_builtin;refine zag rfl (.tmp 34) (.tmp 39) 55 rfl W1.heap.size 59 2 24 (.agg #[St [],U 0]) Tryz.underlying55 zd3 rfl (by omega) _ (P.length) (P.flatMap zae) rfl (HO.out.alloc _) _ 1 1 [St x.1,U x.2] rfl (Src.new rfl (by intro u hu;simp at hu;rcases hu with rfl | rfl <;> rfl)) (by omega) (by omega) (by simp;omega) ?_;intro v3 w3 hown3 hgr3)
      go_roundw
      case rel=>exact⟨pre++[x],post,P++[x],false,by rw [HL.out];simp,by simp,rfl,HNN.out,by rw [<- HP.out];simp,by have:=congrArg List.length HP.out;simp at this ⊢;omega,by simpa [zae] using hown3,Ext.grewOwn (HX.out.alloc _) hgr3 (HO.out.alloc _) (Nat.le_refl _)⟩
      case measure=>simp [intOf];omega
  | nil =>
   rw [List.append_nil] at hl;subst hl;have HD:=zH (show putD l d=insD d false l from if_neg hn);have HP:=zH hp;clear hn hp hx c0 c1 hown
   cases db with
   | true=>go_wp2_with fail;go_ret;exact⟨_,rfl,by rw [HD.out,<- HP.out];simpa [insD] using (zay HO.out).mono (by decide) (fun b _ h=>.inr (Nat.le_trans hsz1 h)),HX1.out.trans HX.out⟩
   | false =>
    go_wp2_with (at_builtin;refine zag rfl (.tmp 43) (.tmp 45) 55 rfl W1.heap.size 59 2 24 (.agg #[St [],U 0]) Tryz.underlying55 zd3 rfl (by omega) _ (P.length) (P.flatMap zae) rfl (HO.out.alloc _) _ 1 1 [St d.1,U d.2] rfl (Src.new rfl (by intro u hu;simp at hu;rcases hu with rfl | rfl <;> rfl)) (by omega) (by omega) (by simp;omega) ?_;intro v3 w3 hown3 hgr3)
    go_ret;exact⟨_,rfl,by rw [HD.out,<- HP.out];exact (zay (l:=P++[d]) (by simpa [zae] using hown3)).mono (by decide) (fun b _ h=>.inr (Nat.le_trans hsz1 h)),HX1.out.trans (Ext.grewOwn (HX.out.alloc _) hgr3 (HO.out.alloc _) (Nat.le_refl _))⟩
end
section
open Go.RowKit Go.Shelf
theorem znm (t:Str) (d:Dot) (dn:Bool):zcg t d dn []=if dn then [] else [(t,[d])]:=rfl
theorem zkd {W:World} {S R:Nat->Prop} {o v:Value} {x:Item} (h:Sl zap W S v x.2) (hS:∀ b,b < W.heap.size->S b->R b/\¬ zaf o b):itemT.rd W (fun b=>R b/\¬ zaf o b) x [St x.1,v]:=⟨v,rfl,h.mono (by decide) hS⟩
theorem zrn (W:World) (d:Dot):Sl zap (W.alloc (.cells #[St d.1,U d.2] 59)) (fun b=>W.heap.size<=b) (.slice (some ⟨W.heap.size,0,none⟩) 1 1) [d] :=
 zay (l:=[d]) (RowIs.own (zai W 59 [St d.1,U d.2]) (Nat.le_refl _) (Nat.le_refl _) (by decide) rfl rfl rfl)
theorem Sl.alloc_ {α:Type} {T:Shape α} {w:World} {S:Nat->Prop} {v:Value} {l:List α} (h:Sl T w S v l) (hk:0 < T.k) (o:Obj):Sl T (w.alloc o) S v l:=h.ext hk ((Ext.refl w).alloc o)
theorem OwnL.alloc_ {α:Type} {T:Shape α} {tid base:Nat} {w:World} {S:Nat->Prop} {v:Value} {l:List α} (h:OwnL T tid w base S v l) (o:Obj):OwnL T tid (w.alloc o) base S v l:=h.ext ((Ext.refl w).alloc o)
theorem zn2 {S:Nat->Prop} {v:Value} {l:List Item} {w:World} (t:Str) (d:Dot) (hv:Sl itemT w S v l) (hl0:l.length<=1000000) (hd0:∀ it ∈ l,it.2.length<=1000000) :
  Calls Tryz.prog 152 #[v,St t,.agg #[St d.1,U d.2]] w fun e w'=>∃ v',e=.returned v'/\Sl itemT w' (fun b=>S b ∨ w.heap.size<=b) v' (zcg t d false l)/\Ext w w':=by
 have hv':=hv.mono (S':=fun b=>S b/\b < w.heap.size) (by decide) (fun b h1 h2=>⟨h2,h1⟩);obtain⟨P0,c,rfl,h1,h2⟩:=hv.form;obtain⟨W1,hW1⟩:∃ W1,w.alloc (.cells #[St d.1,U d.2] 59)=W1:=⟨_,rfl⟩
 have hx1:Ext w W1:=by rw [<- hW1];exact (Ext.refl w).alloc _
 have c0:W1.cell? ⟨w.heap.size,0,none⟩=some (St d.1):=by rw [<- hW1];simp [go_sem]
 have c1:W1.cell? ⟨w.heap.size,1,none⟩=some (U d.2):=by rw [<- hW1];simp [go_sem]
 have hsz1:w.heap.size<=W1.heap.size:=hx1.size;have HAT:=zH (fun (pre post:List Item) (x:Item) (wr:World) (h:Ext W1 wr) (hl:l=pre++x :: post)=>zcp hv' (hx1.trans h) hl);have HX1:=zH hx1;obtain⟨R,hR⟩:∃ R:Nat->Prop,R=fun b=>S b ∨ w.heap.size<=b:=⟨_,rfl⟩
 have HRS:=zH (show ∀ b,S b->R b by intro b h;rw [hR];exact .inl h);have HRB:=zH (show ∀ b,w.heap.size<=b->R b by intro b h;rw [hR];exact .inr h);rw [<- hR];clear hv hv' hx1 hR;go_enter Tryz.func152,Tryz.ntmps152;go_wp2_with fail
 go_loopw [7,8,9] (fun o dn i wr=>∃ (pre post P:List Item) (db:Bool),l=pre++post/\i=I pre.length/\dn=.bool db/\P++zcg t d db post=zcg t d false l/\P.length<=pre.length+1/\(db=false->P.length<=pre.length)/\OwnL itemT 57 wr W1.heap.size (fun b=>R b/\¬ zaf o b) o P/\Ext W1 wr) (fun _ _ i _=>l.length - (intOf i).toNat)
 case atStart=>exact⟨[],l,[],false,rfl,rfl,rfl,rfl,by simp,by simp,OwnL.nil _ _,Ext.refl _⟩
 case round =>
  obtain⟨pre,post,P,db,hl,rfl,rfl,hp,hpl,hpf,hown,hx⟩:=hrel;have b0:=hx.cell c0;have b1:=hx.cell c1;have hn3:=hx.size;have HX:=zH hx;have HO:=zH hown;have HOB:=zH (fun b hb=>(hown.base_le (b:=b) hb));obtain⟨CO,nO,rfl,-,-⟩:=hown.form
  cases post with
  | cons m post =>
   obtain⟨b,o,dv,rfl,e0,e1,hdv⟩:=HAT.out pre post m wr hx hl;have hlt:pre.length < l.length:=(by rw [hl];simp);have hxd:m.2.length<=1000000:=hd0 m (by rw [hl];simp);have HL:=zH hl;have HIC:=zH (zgv t d m db post);have HP:=zH hp;have HDV:=zH (fun W (h:Ext W1 W)=>hdv.ext (by decide) (HX1.out.trans h));obtain⟨DA,dc,rfl,-,-⟩:=hdv.form;have HE0:=zH (fun W (h:Ext wr W)=>h.cell e0);have HE1:=zH (fun W (h:Ext wr W)=>h.cell e1);have HB0:=zH (fun W (h:Ext wr W)=>h.cell b0);have HB1:=zH (fun W (h:Ext wr W)=>h.cell b1);have HPF:=zH hpf;have HRD:=zH (fun (W:World) (h:Ext W1 W) (u:Value) (hu:∀ b,zaf u b->W1.heap.size<=b)=>zkd (R:=R) (o:=u) (x:=m) (HDV.out W h) fun b hb hS=>⟨HRS.out b hS.1,fun ho=>by have h1:=hu b ho;have h2:=hS.2;omega⟩);clear hl hx hp c0 c1 hown hdv e0 e1 b0 b1 hpf;go_wp2_with fail;rename_i K hK;have HK:=zH hK;clear hK;refine zao [fun v _=>v=.slice (some ⟨b,o,none⟩) l.length c,fun v _=>v=I pre.length,fun v _=>v=.pointer (some ⟨b,o+pre.length * 2,none⟩),fun v _=>v=.pointer (some ⟨b,o+pre.length * 2,none⟩),fun v _=>v=St m.1,fun v _=>v=.slice (some ⟨b,o,none⟩) l.length c,fun v _=>v=I pre.length,fun v _=>v=.pointer (some ⟨b,o+pre.length * 2,none⟩),fun v _=>v=.pointer (some ⟨b,o+pre.length * 2+1,none⟩),fun v _=>v=.slice DA m.2.length dc,fun v _=>v=.agg #[St m.1,.slice DA m.2.length dc],fun v W=>∃ g,v=.pointer (some ⟨g,0,none⟩)/\wr.heap.size<=g/\RowIs W g 57 [St [],.slice none 0 0] []] rfl (by kernel_rfl) ?hR ?hstep ?hend
   case hR=>simp only [List.mem_cons,List.not_mem_nil,or_false,forall_eq_or_imp,forall_eq];exact⟨kP,kP,kP,kP,kP,kP,kP,kP,kP,kP,kP,fun v _ _ h he=>by obtain⟨g,e,z,h⟩:=h;exact⟨g,e,z,h.ext he⟩⟩
   case hstep =>
    simp only [List.length_cons,List.length_nil,Nat.reduceAdd,List.take_succ_cons,List.take_zero,za6,and_true];refine ⟨?_,?_,?_,?_,?_,?_,?_,?_,?_,?_,?_,?_⟩
    ·intro x W he f;have h0:x 0=.slice (some ⟨b,o,none⟩) l.length c:=f.1;go_wp;exact sQ
    ·intro x W he f;have h0:x 9=I pre.length:=f.1;go_wp;exact sQ
    ·intro x W he f;have h0:x 17=.slice (some ⟨b,o,none⟩) l.length c:=f.1;have h1:x 18=I pre.length:=f.2.1;go_wp;exact sQ
    ·intro x W he f;have h0:x 19=.pointer (some ⟨b,o+pre.length * 2,none⟩):=f.1;go_wp;exact sQ
    ·intro x W he f;have h0:x 20=.pointer (some ⟨b,o+pre.length * 2,none⟩):=f.1;have c0:=HE0.out W he;go_wp;exact sQ
    ·intro x W he f;have h0:x 0=.slice (some ⟨b,o,none⟩) l.length c:=f.1;go_wp;exact sQ
    ·intro x W he f;have h0:x 9=I pre.length:=f.1;go_wp;exact sQ
    ·intro x W he f;have h0:x 22=.slice (some ⟨b,o,none⟩) l.length c:=f.1;have h1:x 23=I pre.length:=f.2.1;go_wp;exact sQ
    ·intro x W he f;have h0:x 24=.pointer (some ⟨b,o+pre.length * 2,none⟩):=f.1;go_wp;exact sQ
    ·intro x W he f;have h0:x 25=.pointer (some ⟨b,o+pre.length * 2+1,none⟩):=f.1;have c1:=HE1.out W he;go_wp;exact sQ
    ·intro x W he f;have h0:x 21=St m.1:=f.1;have h1:x 26=.slice DA m.2.length dc:=f.2.1;go_wp;exact sQ
    ·intro x W he f;have hs:=he.size;have hrow:=zai W 57 [St [],.slice none 0 0];go_wp;exact zaa ⟨W.heap.size,rfl,hs,hrow⟩ ((Ext.refl W).alloc _)
   case hend =>
    intro x Wz hxz f;have e27:x 27=.agg #[St m.1,.slice DA m.2.length dc]:=f.2.2.2.2.2.2.2.2.2.2.1;obtain⟨g,e10,hg,hrow⟩:∃ g,x 10=.pointer (some ⟨g,0,none⟩)/\wr.heap.size<=g/\RowIs Wz g 57 [St [],.slice none 0 0] []:=f.2.2.2.2.2.2.2.2.2.2.2.1;clear f;simp only [List.length_cons,List.length_nil,Nat.reduceAdd,List.take_succ_cons,List.take_zero,List.filterMap_cons,List.filterMap_nil,List.drop_succ_cons,List.drop_zero,zav,Act.put,List.setIfInBounds_toArray,List.set_cons_succ,List.set_cons_zero,e27,e10];have z0:=hrow.frozen 0;have z1:=hrow.frozen 1;have r0:=hrow.cell (j:=0) rfl;have r1:=hrow.cell (j:=1) rfl;go_wp;refine HK.out _ _ ?_;clear HK K r0 r1 z0 z1 e27 e10
    have hr2:RowIs ((Wz.setCell ⟨g,0,none⟩ (St m.1)).setCell ⟨g,1,none⟩ (.slice DA m.2.length dc)) g 57 [St m.1,.slice DA m.2.length dc] []:=by
     have h:=(hrow.set (j:=0) (by simp) (St m.1)).set (j:=1) (by simp) (.slice DA m.2.length dc)
     simpa using h
    have hx2:Ext wr ((Wz.setCell ⟨g,0,none⟩ (St m.1)).setCell ⟨g,1,none⟩ (.slice DA m.2.length dc)):=(hxz.set (p:=⟨g,0,none⟩) hg _).set (p:=⟨g,1,none⟩) hg _;have hzw:Wz.heap.size<=((Wz.setCell ⟨g,0,none⟩ (St m.1)).setCell ⟨g,1,none⟩ (.slice DA m.2.length dc)).heap.size:=(by simp [World.size_setCell]);generalize ((Wz.setCell ⟨g,0,none⟩ (St m.1)).setCell ⟨g,1,none⟩ (.slice DA m.2.length dc))=W2 at *;have HR2:=zH hr2;have HX2:=zH hx2;have hn2:=hx2.size;have hgl:=hr2.lt;have r0:=hr2.cell (j:=0) rfl;have r1:=hr2.cell (j:=1) rfl;have b0:=HB0.out W2 hx2;have b1:=HB1.out W2 hx2;clear hrow hxz hr2 hx2
    by_cases he:m.1=t
    ·have heb:(m.1 == t)=true:=(by simpa using he);have hp:=HP.out;rw [HIC.out,if_pos he] at hp;have HP:=zH hp;clear hp he;have HC:=zH (zn1 d (HDV.out W2 (HX.out.trans HX2.out)) hxd);go_wp2_with fail;refine HC.out.mono ?_;rintro e W3 ⟨v3,rfl,hv3,hx3⟩;obtain⟨A3,c3,rfl,-,-⟩:=hv3.form;have hr3:=HR2.out.ext hx3;have z1:=hr3.frozen 1;have s0:=hr3.cell (j:=0) rfl;have s1:=hr3.cell (j:=1) rfl;have hr4:=hr3.set (j:=1) (by simp) (.slice A3 (putD m.2 d).length c3);simp only [List.set_cons_succ,List.set_cons_zero] at hr4;have q0:=hr4.cell (j:=0) rfl;have q1:=hr4.cell (j:=1) rfl;have hx4:=(HX2.out.trans hx3).set (p:=⟨g,1,none⟩) hg (.slice A3 (putD m.2 d).length c3);have hn5:=hx3.size;have hs4:W3.heap.size<=(W3.setCell ⟨g,1,none⟩ (.slice A3 (putD m.2 d).length c3)).heap.size:=(by simp [World.size_setCell]);have hv4:=hv3.keep (w':=W3.setCell ⟨g,1,none⟩ (.slice A3 (putD m.2 d).length c3)) (by decide) (fun b hb _=>Below.heap_setCell _ _ _ _ (by show b ≠ g;rcases hb with h | h;have:=h.2;omega;omega))
     have HRD2:=zH (fun (W:World) (h:Ext (W3.setCell ⟨g,1,none⟩ (.slice A3 (putD m.2 d).length c3)) W)=>zkd (R:=R) (o:=.slice CO P.length nO) (x:=(m.1,putD m.2 d)) (hv4.ext (by decide) h) fun b hb hS=>by
      rcases hS with hS | hS
      ·exact⟨HRS.out b hS.1,fun ho=>by have h1:=(HOB.out b ho).1;have h2:=hS.2;omega⟩
      ·exact⟨HRB.out b (by omega),fun ho=>by have h1:=(HOB.out b ho).2;omega⟩)
     have HX4:=zH hx4;clear hr3 hr4 hx4 hv3 hv4 hx3 r0 r1 b0 b1
     go_wp2_with (at_builtin;refine zct (T:=itemT) rfl (.tmp 52) (.tmp 54) 42 rfl W1.heap.size 57 40 (.agg #[St [],.slice none 0 0]) Tryz.underlying42 zdl rfl (by decide) (R) _ _ rfl (HO.out.ext (HX4.out.alloc _)) _ 1 (m.1,putD m.2 d) [St m.1,.slice A3 (putD m.2 d).length c3] rfl (Src.newAt (by simp [World.size_setCell]) rfl (by intro u hu;simp at hu;rcases hu with rfl | rfl <;> rfl)) (HRD2.out _ ((Ext.refl _).alloc _)) (by omega) (by omega) (by simp;omega) (HX.out.trans (HX4.out.alloc _)) (Nat.le_refl _) ?_;intro v5 w5 hown5 hx5 hgr5)
     go_roundw
     case rel=>exact⟨pre++[m],post,P++[(m.1,putD m.2 d)],true,by rw [HL.out];simp,by simp,rfl,by rw [<- HP.out];simp,by simp;omega,by simp,hown5,hx5⟩
     case measure=>simp [intOf];omega
    ·have heb:(m.1 == t)=false:=by simpa using he
     cases db with
     | true =>
      have hp:=HP.out;rw [HIC.out,if_neg he,if_neg (by simp)] at hp;have HP:=zH hp;clear hp he
      go_wp2_with (at_builtin;refine zct (T:=itemT) rfl (.tmp 52) (.tmp 54) 42 rfl W1.heap.size 57 40 (.agg #[St [],.slice none 0 0]) Tryz.underlying42 zdl rfl (by decide) (R) _ _ rfl (HO.out.ext (HX2.out.alloc _)) _ 1 m [St m.1,.slice DA m.2.length dc] rfl (Src.newAt (by simp [World.size_setCell]) rfl (by intro u hu;simp at hu;rcases hu with rfl | rfl <;> rfl)) (HRD.out _ ((HX.out.trans HX2.out).alloc _) _ (fun b hb=>(HOB.out b hb).1)) (by omega) (by omega) (by simp;omega) (HX.out.trans (HX2.out.alloc _)) (Nat.le_refl _) ?_;intro v5 w5 hown5 hx5 hgr5)
      go_roundw
      case rel=>exact⟨pre++[m],post,P++[m],true,by rw [HL.out];simp,by simp,rfl,by rw [<- HP.out];simp,by simp;omega,by simp <;> omega,hown5,hx5⟩
      case measure=>simp [intOf];omega
     | false =>
      by_cases hc:ltS t m.1=true
      ·have hcb:Op.bytesLess t m.1=true:=hc;have hp:=HP.out;rw [HIC.out,if_neg he,if_pos ⟨rfl,hc⟩] at hp;have HP:=zH hp;have hpf:=HPF.out rfl;have hod:=zrn W2 d;have hb2:Ext W2 ((W2.alloc (.cells #[St d.1,U d.2] 59)).alloc (.cells #[St t,.slice (some ⟨W2.heap.size,0,none⟩) 1 1] 57)):=((Ext.refl _).alloc _).alloc _;have HR1:=zH (zkd (R:=R) (o:=.slice CO P.length nO) (x:=(t,[d])) ((hod.alloc_ (by decide) (.cells #[St t,.slice (some ⟨W2.heap.size,0,none⟩) 1 1] 57))) fun b hb hS=>⟨HRB.out b (by omega),fun ho=>by have h1:=(HOB.out b ho).2;omega⟩);have HB2:=zH hb2;clear hp he hc hod hb2
       go_wp2_with (at_builtin;first | (refine zct (T:=itemT) rfl (.tmp 45) (.tmp 50) 42 rfl W1.heap.size 57 40 (.agg #[St [],.slice none 0 0]) Tryz.underlying42 zdl rfl (by decide) (R) _ _ rfl (HO.out.ext (HX2.out.trans HB2.out)) _ 1 (t,[d]) [St t,.slice (some ⟨W2.heap.size,0,none⟩) 1 1] rfl (Src.newAt (by simp [World.size_setCell]) rfl (by intro u hu;simp at hu;rcases hu with rfl | rfl <;> rfl)) HR1.out (by omega) (by omega) (by simp;omega) (HX.out.trans (HX2.out.trans HB2.out)) (Nat.le_refl _) ?_;intro v5 w5 hown5 hx5 hgr5;have hr5:=(HR2.out.ext HB2.out).keep (hgr5.same g (by have:=HB2.out.size;omega) (fun ho=>by have:=(HOB.out g ho).2;omega));have q0:=hr5.cell (j:=0) rfl;have q1:=hr5.cell (j:=1) rfl;have HO5:=zH hown5;have HX5:=zH hx5;have hn5:=hx5.size;have HOB5:=zH (fun b hb=>(hown5.base_le (b:=b) hb).1);obtain⟨C5,c5,rfl,-,-⟩:=hown5.form;rw [show (P++[(t,[d])]).length=P.length+1 by simp] at HO5 HOB5;clear hown5 hx5 hgr5 hr5) | (refine zct (T:=itemT) rfl (.tmp 52) (.tmp 54) 42 rfl W1.heap.size 57 40 (.agg #[St [],.slice none 0 0]) Tryz.underlying42 zdl rfl (by decide) (R) _ _ rfl (HO5.out.alloc_ _) _ 1 m [St m.1,.slice DA m.2.length dc] rfl (Src.newAt (by simp [World.size_setCell]) rfl (by intro u hu;simp at hu;rcases hu with rfl | rfl <;> rfl)) (HRD.out _ (HX5.out.alloc _) _ HOB5.out) (by simp;omega) (by simp;omega) (by simp;omega) (HX5.out.alloc _) (Nat.le_refl _) ?_;intro v6 w6 hown6 hx6 hgr6))
       go_roundw
       case rel=>exact⟨pre++[m],post,P++[(t,[d])]++[m],true,by rw [HL.out];simp,by simp,rfl,by rw [<- HP.out];simp,by simp;omega,by simp,hown6,hx6⟩
       case measure=>simp [intOf];omega
      ·have hcb:Op.bytesLess t m.1=false:=(by simpa using hc);have hp:=HP.out;rw [HIC.out,if_neg he,if_neg (fun h=>hc h.2)] at hp;have HP:=zH hp;have hpf:=HPF.out rfl;clear hp he hc
       go_wp2_with (at_builtin;refine zct (T:=itemT) rfl (.tmp 52) (.tmp 54) 42 rfl W1.heap.size 57 40 (.agg #[St [],.slice none 0 0]) Tryz.underlying42 zdl rfl (by decide) (R) _ _ rfl (HO.out.ext (HX2.out.alloc _)) _ 1 m [St m.1,.slice DA m.2.length dc] rfl (Src.newAt (by simp [World.size_setCell]) rfl (by intro u hu;simp at hu;rcases hu with rfl | rfl <;> rfl)) (HRD.out _ ((HX.out.trans HX2.out).alloc _) _ (fun b hb=>(HOB.out b hb).1)) (by omega) (by omega) (by simp;omega) (HX.out.trans (HX2.out.alloc _)) (Nat.le_refl _) ?_;intro v5 w5 hown5 hx5 hgr5)
       go_roundw
       case rel=>exact⟨pre++[m],post,P++[m],false,by rw [HL.out];simp,by simp,rfl,by rw [<- HP.out];simp,by simp;omega,by simp <;> omega,hown5,hx5⟩
       case measure=>simp [intOf];omega
  | nil =>
   rw [List.append_nil] at hl;subst hl;have HP:=zH hp;clear hp hx c0 c1 hown
   cases db with
   | true=>go_wp2_with fail;go_ret;exact⟨_,rfl,by rw [<- HP.out,znm,if_pos rfl,List.append_nil];exact zrm HO.out (by decide) (fun b h=>HRB.out b (by omega)),HX1.out.trans HX.out⟩
   | false =>
    have hpf:=hpf rfl;have HB2:=zH (show Ext wr ((wr.alloc (.cells #[St d.1,U d.2] 59)).alloc (.cells #[St t,.slice (some ⟨wr.heap.size,0,none⟩) 1 1] 57)) from ((Ext.refl _).alloc _).alloc _);have HR1:=zH (zkd (R:=R) (o:=.slice CO P.length nO) (x:=(t,[d])) (((zrn wr d).alloc_ (by decide) (.cells #[St t,.slice (some ⟨wr.heap.size,0,none⟩) 1 1] 57))) fun b hb hS=>⟨HRB.out b (by omega),fun ho=>by have h1:=(HOB.out b ho).2;omega⟩)
    go_wp2_with (at_builtin;refine zct (T:=itemT) rfl (.tmp 58) (.tmp 63) 42 rfl W1.heap.size 57 40 (.agg #[St [],.slice none 0 0]) Tryz.underlying42 zdl rfl (by decide) (R) _ _ rfl (HO.out.ext HB2.out) _ 1 (t,[d]) [St t,.slice (some ⟨wr.heap.size,0,none⟩) 1 1] rfl (Src.newAt (by simp [World.size_setCell]) rfl (by intro u hu;simp at hu;rcases hu with rfl | rfl <;> rfl)) HR1.out (by omega) (by omega) (by simp;omega) (HX.out.trans HB2.out) (Nat.le_refl _) ?_;intro v5 w5 hown5 hx5 hgr5)
    go_ret;exact⟨_,rfl,by rw [<- HP.out,znm,if_neg (by simp)];exact zrm hown5 (by decide) (fun b h=>HRB.out b (by omega)),HX1.out.trans hx5⟩
end
section
open Go.RowKit Go.Shelf
theorem zlh (pre post:List Item) (m:Item):(zac (pre++m :: post)).length=(zac pre).length+m.2.length+(zac post).length:=by
 simp [zac];omega
end
section
open Go.RowKit Go.Shelf
theorem zj1 {l:List Item} (h:RiseB l):l.length<=(zac l).length/\∀ it ∈ l,it.2.length<=(zac l).length:=by
 constructor
 ·have h2:=h.2;clear h
  induction l with
  | nil=>simp
  | cons x r ih =>
   have h0:=(h2 x (by simp)).1;have h1:=ih fun it hit=>h2 it (by simp [hit])
   have h3:0 < x.2.length:=List.length_pos_iff.2 h0;rw [zda];simp only [List.length_cons,List.length_append,List.length_map];omega
 ·intro it hit;obtain⟨A,B,rfl⟩:=List.append_of_mem hit;rw [zlh];omega
theorem zvp (qs:List zan) (h:qs.length<=900000):(qs.foldl insQ []).length<=1000000/\∀ it ∈ qs.foldl insQ [],it.2.length<=1000000:=by
 obtain⟨g1,g2⟩:=zoz qs [] zna;have hp:(zac (qs.foldl insQ [])).Perm (setL qs):=zc3 g1.nodup (zcz _) fun q=>by rw [g2,mem_setL];simp [zac]
 have hl:=hp.length_eq;have hs:=ze7 qs;obtain⟨k1,k2⟩:=zj1 g1;exact⟨by omega,fun it hit=>by have:=k2 it hit;omega⟩
theorem zvq (qs:List zan) (q:zan):(qs++[q]).foldl insQ []=zcg q.1 q.2 false (qs.foldl insQ []):=by rw [List.foldl_append];rfl
theorem zqw (pre:List Item) (m:Item):zac (pre++[m])=zac pre++m.2.map fun d=>(m.1,d):=by simp [zac]
end
section
open Go.RowKit Go.Shelf
theorem zvr (Y:List zan) (p2:List Dot) (t:Str) (d:Dot):(Y++(p2++[d]).map fun e=>(t,e)).foldl insQ []=zcg t d false ((Y++p2.map fun e=>(t,e)).foldl insQ []):=by
 rw [List.map_append,<- List.append_assoc,List.map_singleton,zvq]
theorem zmn {S:Nat->Prop} {v:Value} {l:List Item} {w:World} (hv:Sl itemT w S v l) (hl0:(zac l).length<=400000) (hl1:l.length<=1000000) (hl2:∀ it ∈ l,it.2.length<=1000000) :
  Calls Tryz.prog 108 #[v] w fun e w'=>∃ v',e=.returned v'/\Sl itemT w' (fun b=>w.heap.size<=b) v' ((zac l).foldl insQ [])/\Ext w w':=by
 have hv':=hv;obtain⟨P0,c,rfl,h1,h2⟩:=hv.form;have HAT:=zH (fun (pre post:List Item) (m:Item) (wr:World) (h:Ext w wr) (hl:l=pre++m :: post)=>zcp hv' h hl);clear hv hv';go_enter Tryz.func108,Tryz.ntmps108;go_wp2_with fail
 go_loopw [3,4] (fun o i wr=>∃ (pre post:List Item),l=pre++post/\i=I pre.length/\Sl itemT wr (fun b=>w.heap.size<=b) o ((zac pre).foldl insQ [])/\Ext w wr) (fun _ i _=>l.length - (intOf i).toNat)
 case atStart=>exact⟨[],l,rfl,rfl,Sl.nil _ _ (by decide),Ext.refl _⟩
 case round =>
  obtain⟨pre,post,hl,rfl,hown,hx⟩:=hrel;have HX:=zH hx;have HO:=zH hown;obtain⟨CO,nO,rfl,-,-⟩:=hown.form
  cases post with
  | cons m post =>
   obtain⟨b1,o1,dv,hA,e0,e1,hdv⟩:=HAT.out pre post m wr hx hl;subst hA;have hlt:pre.length < l.length:=(by rw [hl];simp);have hml:m.2.length<=1000000:=hl2 m (by rw [hl];simp)
   have hpl:(zac pre).length+m.2.length<=400000:=by have h:=hl0;rw [hl] at h;simp only [zac,List.flatMap_append,List.flatMap_cons,List.length_append,List.length_map] at h ⊢;omega
   have HL:=zH hl;obtain⟨Y,hY⟩:∃ Y,zac pre=Y:=⟨_,rfl⟩
   have HPS:=zH (show zac (pre++[m])=Y++m.2.map fun d=>(m.1,d) by rw [zqw,hY]);rw [hY] at HO hpl ⊢;obtain⟨DA,dc,rfl,-,-⟩:=hdv.form;have HDT:=zH (fun (p2 q2:List Dot) (d:Dot) (W:World) (h:Ext w W) (hh:m.2=p2++d :: q2)=>zer hdv h hh);clear hl hx hown hdv hY;go_wp2_with fail;obtain⟨wi,rfl⟩:∃ wi:World,wi=wr:=⟨_,rfl⟩
   go_loopw [3,5] (fun o j wr3=>∃ (p2 q2:List Dot),m.2=p2++q2/\j=I p2.length/\Sl itemT wr3 (fun b=>w.heap.size<=b) o ((Y++p2.map fun d=>(m.1,d)).foldl insQ [])/\Ext wi wr3) (fun _ j _=>m.2.length - (intOf j).toNat)
   case atStart=>exact⟨[],m.2,rfl,rfl,by simpa using HO.out,Ext.refl _⟩
   case round =>
    obtain⟨p2,q2,hq,rfl,hown2,hx2⟩:=hrel;have z0:=hx2.cell e0;have z1:=hx2.cell e1;have HQ:=zH hq;have HXI:=zH hx2;obtain⟨C2,n2,rfl,-,-⟩:=hown2.form
    cases q2 with
    | cons d q2 =>
     have hlt2:p2.length < m.2.length:=(by rw [hq];simp);obtain⟨b3,o3,rfl,d0,d1⟩:=HDT.out p2 q2 d wr (HX.out.trans hx2) hq
     have hos:(Y++p2.map fun d=>(m.1,d)).length<=900000:=by simp only [List.length_append,List.length_map];omega
     have HSN:=zH (zvr Y p2 m.1 d);obtain⟨Z,hZ⟩:∃ Z,Y++p2.map (fun d=>(m.1,d))=Z:=⟨_,rfl⟩
     rw [hZ] at hown2 HSN hos ⊢;obtain⟨hs1,hs2⟩:=zvp Z hos;obtain⟨Wd,hWd⟩:∃ Wd,wr.drew=Wd:=⟨_,rfl⟩
     have hxd:Ext wr Wd:=(by rw [<- hWd];exact (Ext.refl wr).drew);have HWD:=zH hWd;have y0:=hxd.cell z0;have y1:=hxd.cell z1;have x0:=hxd.cell d0;have x1:=hxd.cell d1;have HI:=zH (zn2 m.1 d (hown2.ext (by decide) hxd) hs1 hs2);have HXD:=zH (HXI.out.trans hxd);have hsz:=(HX.out.trans (HXI.out.trans hxd)).size;clear hq hx2 hown2 hZ hs1 hs2 hos hWd d0 d1;go_wp2_with fail;clear z0 z1;refine wp_region_still_tail 14 (by kernel_rfl) (by kernel_rfl) ?_;simp only [List.take_succ_cons,List.take_zero,List.drop_succ_cons,List.drop_zero];change wpStill _ _ (wr).drew (fun a'=>wpList _ _ _ _ a' (wr).drew) _ _;rw [HWD.out];generalize hA:Act.mk _ _=A0;repeat (refine wpStill_step (fun K2 hK2=>?_);subst hA;go_simp;(try rw [if_neg (by decide)]);generalize hA:Act.mk _ _=A0;refine hK2 A0 ?_;clear hK2 K2)
     refine wpStill_nil ?_;subst hA;go_wp2_with fail;refine HI.out.mono ?_;rintro r W3 ⟨v3,rfl,hv3,hx3⟩;have HV:=zH (hv3.mono (S':=fun b=>w.heap.size<=b) (by decide) fun b _ h=>by omega);obtain⟨C4,n4,rfl,-,-⟩:=hv3.form;have HX3:=zH (HXD.out.trans hx3);clear hv3 hx3 hxd;go_wp2_with fail;go_roundw
     case rel=>exact⟨p2++[d],q2,by rw [HQ.out];simp,by simp,by rw [HSN.out];exact HV.out,HX3.out⟩
     case measure=>simp [intOf];omega
    | nil =>
     rw [List.append_nil] at hq;have hll:m.2.length=p2.length:=(by rw [hq]);have HQM:=zH hq;have HO2:=zH hown2;have HX2:=zH (HX.out.trans hx2);clear hq hx2 hown2 e0 e1;go_wp2_with fail;go_roundw
     case rel=>exact⟨pre++[m],post,by rw [HL.out];simp,by simp,by rw [HPS.out,HQM.out];exact HO2.out,HX2.out⟩
     case measure=>simp [intOf];omega
  | nil=>rw [List.append_nil] at hl;subst hl;clear hown hx;go_wp2_with fail;go_ret;exact⟨_,rfl,HO.out,HX.out⟩
theorem ztb {l:List Item} (h:RiseB l):l.map (·.1)=zbg l:=by
 refine zo1 (List.pairwise_map.2 h.1) (zh4 l) fun t=>?_
 rw [zi0,List.mem_map]
 constructor
 ·rintro⟨it,hit,rfl⟩;obtain⟨d,hd⟩:=List.exists_mem_of_ne_nil _ (h.2 it hit).1;exact⟨(it.1,d),zfg hit hd,rfl⟩
 ·rintro⟨q,hq,rfl⟩;obtain⟨it,hit,hq2⟩:=List.mem_flatMap.1 hq;obtain⟨d,-,rfl⟩:=List.mem_map.1 hq2;exact⟨it,hit,rfl⟩
theorem zmo {S:Nat->Prop} {v:Value} {l:List Item} {w:World} (hv:Sl itemT w S v l) (hr:RiseB l) (hl0:(zac l).length<=400000) :
  Calls Tryz.prog 53 #[v] w fun e w'=>∃ v',e=.returned v'/\Own w' w.heap.size 9 1 v' (zbg l).length ((zbg l).flatMap strC)/\Ext w w':=by
 obtain⟨g1,g2⟩:=zj1 hr;have HC:=zH (zmn hv hl0 (by omega) fun it hit=>by have:=g2 it hit;omega);rw [hr.clean] at HC;have HT:=zH (ztb hr);have hll:l.length<=400000:=by omega
 obtain⟨A,c,rfl,-,-⟩:=hv.form;clear hv hr g1 g2 hl0;go_enter Tryz.func53,Tryz.ntmps53;go_wp2_with fail;refine HC.out.mono ?_;rintro e w1 ⟨v',rfl,hs1,hx1⟩;obtain⟨C,n,rfl,-,-⟩:=hs1.form;have HAT:=zH (fun (pre post:List Item) (m:Item) (wr:World) (h:Ext w1 wr) (hl:l=pre++m :: post)=>zcp hs1 h hl);have HX1:=zH hx1;have hz1:=hx1.size;clear hx1;go_wp2_with fail
 go_loopw [3,5] (fun o i wr=>∃ (pre post:List Item),l=pre++post/\i=I pre.length/\Own wr w1.heap.size 9 1 o (pre.map (·.1)).length ((pre.map (·.1)).flatMap strC)/\Ext w1 wr) (fun _ i _=>l.length - (intOf i).toNat)
 case atStart=>exact⟨[],l,rfl,rfl,Own.nil _ _ _ _ _,Ext.refl _⟩
 case round =>
  obtain⟨pre,post,hl,rfl,hown,hx⟩:=hrel;have HX:=zH hx;have HO:=zH hown;obtain⟨CO,nO,rfl,-,-⟩:=hown.form
  cases post with
  | cons m post =>
   obtain⟨b1,o1,dv,hA,e0,e1,hdv⟩:=HAT.out pre post m wr hx hl;subst hA;have hlt:pre.length < l.length:=(by rw [hl];simp);have HL:=zH hl;have hz:=hx.size;rw [List.length_map] at HO ⊢;clear hl hx hown hdv
   go_wp2_with (at_builtin;refine zag rfl (.tmp 14) (.tmp 20) 24 rfl w1.heap.size 9 1 16 (St []) Tryz.underlying24 zdu rfl (by omega) _ (pre.length) ((pre.map (·.1)).flatMap strC) rfl (HO.out.ext ((Ext.refl _).alloc _)) _ 1 1 [St m.1] rfl (Src.new rfl (by intro u hu;simp at hu;rcases hu with rfl <;> rfl)) (by omega) (by omega) (by simp;omega) ?_;intro v2 w2 hown2 hgr2)
   go_roundw
   case rel=>exact⟨pre++[m],post,by rw [HL.out];simp,by simp,by simpa [strC] using hown2,Ext.grewOwn (HX.out.alloc _) hgr2 (HO.out.ext ((Ext.refl _).alloc _)) (Nat.le_refl _)⟩
   case measure=>simp [intOf];omega
  | nil=>rw [List.append_nil] at hl;subst hl;rw [HT.out] at HO ⊢;clear hown hx;go_wp2_with fail;go_ret;exact⟨_,rfl,HO.out.lower hz1,HX1.out.trans HX.out⟩
end
section
open Go.RowKit Go.Shelf
def zi6 (l:List zab):Nat:=l.foldl (fun n c=>subU (addU n c.2.1) c.2.2) 0
theorem ztc (l:List zab) (c:zab):zi6 (l++[c])=subU (addU (zi6 l) c.2.1) c.2.2:=by simp [zi6,List.foldl_append]
theorem znn:∀ (l:List zab) (a:Nat),((l.foldl (fun n c=>subU (addU n c.2.1) c.2.2) a:Nat):Int) % 18446744073709551616=((a:Int)+(l.map fun c=>(c.2.1:Int) - (c.2.2:Int)).sum) % 18446744073709551616
 | [],a=>by simp
 | c :: r,a=>by rw [List.foldl_cons,znn r,List.map_cons,List.sum_cons];unfold addU subU;omega
theorem zxj {l:List zab} (h:GoodC l):wrap64 (zi6 l)=zba l:=by
 rw [zi2];refine zju ?_;have h1:=znn l 0;have hn:(l.map (·.1)).Nodup:=List.pairwise_map.2 (h.1.imp fun {a b} hab=>zch hab)
 have h2:zj9 l=((l.map (·.1)).map (netC l)).sum:=zi1 hn fun k hk=>by
  refine Classical.byContradiction fun hm=>hk ?_
  have h1:∀ c ∈ l,c.1 ≠ k:=fun c hc e=>hm (List.mem_map.2 ⟨c,hc,e⟩)
  unfold netC;rw [zc0 h1,zcl h1]
  rfl
 have h3:((l.map (·.1)).map (netC l)).sum=(l.map fun c=>(c.2.1:Int) - (c.2.2:Int)).sum:=by
  rw [List.map_map]
  congr 1
  refine List.map_congr_left fun c hc=>?_
  simp only [Function.comp,netC];rw [h.1.plus hc,h.1.minus hc]
 unfold zi6;rw [h1,h2,h3];simp
theorem zvs (n p m:Nat):Value.int .u64 (IntKind.u64.wrap (IntKind.u64.wrap ((n:Int)+p) - m))=U (subU (addU n p) m):=by
 unfold U addU subU;rw [zbl,zbl]
 congr 1
 omega
theorem zmq {S:Nat->Prop} {v:Value} {l:List zab} {w:World} (hv:Sl zbo w S v l) (hg:GoodC l) (hl0:l.length<=1000000) :
  Calls Tryz.prog 52 #[v] w fun e w'=>e=.returned (I (zba l))/\Ext w w':=by
 have HC:=zH (zmp hv hl0);rw [hg.clean] at HC;have HV:=zH (zxj hg);obtain⟨A,c,rfl,-,-⟩:=hv.form;clear hv hg;go_enter Tryz.func52,Tryz.ntmps52;go_wp2_with fail;refine HC.out.mono ?_;rintro e w1 ⟨v',rfl,ho,hx1⟩;have hsl:=zky ho;obtain⟨C,n,rfl,-,-⟩:=ho.form;have HAT:=zH (fun (pre post:List zab) (x:zab) (wr:World) (h:Ext w1 wr) (hl:l=pre++x :: post)=>zcj hsl h hl);have HX1:=zH hx1;clear ho hsl hx1;go_wp2_with fail
 go_loopw [3,5] (fun t i wr=>∃ (pre post:List zab),l=pre++post/\t=U (zi6 pre)/\i=I pre.length/\Ext w1 wr) (fun _ i _=>l.length - (intOf i).toNat)
 case atStart=>exact⟨[],l,rfl,rfl,rfl,Ext.refl _⟩
 case round =>
  obtain⟨pre,post,hl,rfl,rfl,hx⟩:=hrel
  cases post with
  | cons x post =>
   obtain⟨b,o,rfl,e0,e1,e2⟩:=HAT.out pre post x wr hx hl;have hlt:pre.length < l.length:=(by rw [hl];simp);have HL:=zH hl;have HX:=zH hx;have HS:=zH (ztc pre x);generalize zi6 pre=m at *;clear hl hx;go_wp;go_quiet (fail);go_wp2_with fail;go_roundw
   case rel=>exact⟨pre++[x],post,by rw [HL.out];simp,by rw [HS.out];exact zvs _ _ _,by simp,HX.out.drewN _⟩
   case measure=>simp [intOf];omega
  | nil=>rw [List.append_nil] at hl;subst hl;have HX:=zH hx;clear hx;go_wp2_with fail;go_ret;exact⟨by rw [<- HV.out];simp,HX1.out.trans HX.out⟩
theorem zn3 (c:Cell) (w:World):Calls Tryz.prog 54 #[.agg #[U c.1,St c.2.1,.bool c.2.2]] w fun e w'=>e=.returned (.tuple #[St (zbv c).1,.bool (zbv c).2])/\Ext w w':=by
 obtain⟨n,t,g⟩:=c;have hx:=(Ext.refl w).alloc (.cells #[U n,St t,.bool g] 44)
 by_cases hn:n=0
 ·subst hn;have HR:=zH (show zbv (0,t,g)=([],false) by simp [zbv]);go_enter Tryz.func54,Tryz.ntmps54;go_wp2_with fail
  go_ret2
  exact⟨by rw [HR.out];rfl,hx⟩
 ·have hnb:((n:Int) == 0)=false:=by rw [beq_eq_false_iff_ne];omega
  cases g with
  | true =>
   have HR:=zH (show zbv (n,t,true)=([],false) by simp [zbv]);go_enter Tryz.func54,Tryz.ntmps54;go_wp2_with fail
   go_ret2
   exact⟨by rw [HR.out];rfl,hx⟩
  | false =>
   have HR:=zH (show zbv (n,t,false)=(t,true) by simp [zbv,hn]);go_enter Tryz.func54,Tryz.ntmps54;go_wp2_with fail
   go_ret2
   exact⟨by rw [HR.out];rfl,hx⟩
end
section
open Go.RowKit
structure OthersE (p:PrD) (x y:Entry):Prop where
 key:y.key=x.key
 same:ofM x.seen p.1=0->y=x
 value:zba y.counts=zba x.counts
 texts:zbg y.items=zbg x.items
 cell:y.cell=x.cell
 seen:ofM y.seen p.1=0
 counts:∀ c ∈ y.counts,c.1 ≠ p.1
 items:∀ it ∈ y.items,∀ d ∈ it.2,d.1 ≠ p.1
theorem zj2 {e:Entry} (h:mayE e=true):zaq e.key=1 ∨ zaq e.key=2 ∨ zaq e.key=3:=by
 unfold mayE at h;simp only [Bool.and_eq_true] at h;obtain⟨-,-,h3⟩:=h
 by_cases h1:zaq e.key=1
 ·exact .inl h1
 ·rw [if_neg h1] at h3
  by_cases h2:zaq e.key=2
  ·exact .inr (.inl h2)
  ·rw [if_neg h2] at h3
   by_cases h4:zaq e.key=3
   ·exact .inr (.inr h4)
   ·rw [if_neg h4] at h3;cases h3
structure CleanE (e:Entry):Prop where
 counts:GoodC e.counts
 items:GoodB e.items
 count:∀ c ∈ e.counts,c.1 ≠ []->ofM e.seen c.1 ≠ 0
 dot:∀ q ∈ zac e.items,ofM e.seen q.2.1 ≠ 0
theorem zno:GoodC []:=⟨.nil,by simp⟩
theorem zgx {e:Entry} (h:mayE e=true):CleanE e:=by
 have hp:=zw3 h;rcases zj2 h with hk | hk | hk
 ·obtain⟨h1,h2,h3⟩:=hp.one hk
  have h4:GoodC e.counts:=by unfold mayE at h;simp only [Bool.and_eq_true] at h;obtain⟨-,-,h3⟩:=h;rw [if_pos hk] at h3;simp only [may1,Bool.and_eq_true] at h3;exact mayL_iff.1 h3.1
  exact⟨h4,h1 ▸ zm8,fun c hc h0=>(h3 c hc).resolve_left h0,fun q hq=>by rw [h1] at hq;simp [zac] at hq⟩
 ·obtain⟨h1,h2,h3,h4⟩:=hp.two hk;refine ⟨h3 ▸ zno,h1,fun c hc=>(by rw [h3] at hc;cases hc),fun q hq h0=>?_⟩;have hd:q.2 ∈ zem e.items:=by rw [zqc];exact List.mem_map.2 ⟨q,hq,rfl⟩
  have:=h2 _ hd;unfold hasM at this;simp only [Bool.and_eq_true,decide_eq_true_eq] at this;omega
 ·obtain⟨h1,h2⟩:=hp.three hk;exact⟨h1 ▸ zno,h2 ▸ zm8,fun c hc=>(by rw [h1] at hc;cases hc),fun q hq=>(by rw [h2] at hq;simp [zac] at hq)⟩
theorem zl9 {l:List Item} {s:Str} (h:∀ q ∈ zac l,q.2.1 ≠ s):∀ it ∈ l,∀ d ∈ it.2,d.1 ≠ s:=fun it hit d hd=>h (it.1,d) (zfg hit hd)
theorem zqy {p:PrD} {x:Entry} (hp:p.1 ≠ []) (hx:mayE x=true) (h0:ofM x.seen p.1=0):OthersE p x x where
 key:=rfl
 same:=fun _=>rfl
 value:=rfl
 texts:=rfl
 cell:=rfl
 seen:=h0
 counts:=fun c hc e=>(zgx hx).count c hc (by rw [e];exact hp) (by rw [e];exact h0)
 items:=zl9 fun q hq e=>(zgx hx).dot q hq (by rw [e];exact h0)
theorem zpk {p:PrD} {x:Entry} (hp:mayP p=true) (hx:mayE x=true) (hb:∀ c ∈ x.counts,c.2.1 < 18446744073709551616/\c.2.2 < 18446744073709551616):OthersE p x (zca p x):=by
 have hp':=hp;simp only [mayP,Bool.and_eq_true,Bool.not_eq_true',decide_eq_true_eq,beq_eq_false_iff_ne] at hp';obtain⟨h1,h2,h3,-,-⟩:=hp';have h1':p.1 ≠ []:=by simpa using h1
 have hc:=zgx hx;have hne:p.2.2.1 ≠ p.1:=Ne.symm h3;refine ⟨rfl,fun h0=>?_,zqh _ h1',zqi _ _,rfl,?_,fun c hc=>zsu h1' hc,zl9 fun q hq=>?_⟩
 ·have e1:zbd x.counts p.1=x.counts:=zsv h1' hc.counts hb fun c hm e=>hc.count c hm (by rw [e];exact h1') (by rw [e];exact h0)
  have e2:zcq x.items p=x.items:=zsz hc.items.rise fun q hq e=>hc.dot q hq (by rw [e];exact h0)
  unfold zca;rw [if_neg (by omega),e1,e2]
 ·unfold zca;simp only
  split
  ·rw [zxt,if_neg h3,zip,if_pos rfl]
  ·omega
 ·obtain⟨y,hy,rfl⟩:=turnB_mem.1 hq;exact zsy hne y
theorem ztd {s:State} {p:PrD} (hm:mayS s=true) (h:(zax s p).2 ≠ 0):(zax s p).1=za3/\(decide ((zax s p).2=2) = !mayP p)/\((zax s p).2=2 ∨ ((zax s p).2=170/\zcx s.all p=false)):=by
 unfold zax at h ⊢;rw [hm,Bool.true_and] at h ⊢
 cases hp:mayP p with
 | false=>exact⟨rfl,rfl,.inl rfl⟩
 | true =>
  rw [hp] at h;simp only [if_true] at h ⊢
  split at h
  ·exact absurd rfl h
  ·rename_i h1
   split at h
   ·rename_i h2
    split at h
    ·exact absurd rfl h
    ·rename_i h3;rw [if_neg h1,if_pos h2,if_neg h3];exact⟨rfl,rfl,.inr ⟨rfl,by simpa using h3⟩⟩
   ·exact absurd rfl h
theorem zvt {s:State} {p:PrD} (hm:mayS s=true) (hb:∀ e ∈ s.entries,∀ c ∈ e.counts,c.2.1 < 18446744073709551616/\c.2.2 < 18446744073709551616) (h:(zax s p).2=0) :
  (zax s p).1.entries.length=s.entries.length/\ofM (zax s p).1.all p.1=0/\(zax s p).1.all=zar s.all p.1 /\
  ∀ (i:Nat) (x y:Entry),s.entries[i]? = some x->(zax s p).1.entries[i]? = some y->OthersE p x y:=by
 have hM:=mayS_iff.1 hm;have hg:GoodM s.all:=(mayM_iff.1 hM.all).2.1;unfold zax at h ⊢;rw [hm,Bool.true_and] at h ⊢
 cases hp:mayP p with
 | false=>rw [hp] at h;simp at h
 | true =>
  rw [hp] at h;have hp':=hp;simp only [mayP,Bool.and_eq_true,Bool.not_eq_true',decide_eq_true_eq,beq_eq_false_iff_ne] at hp';have h1':p.1 ≠ []:=by simpa using hp'.1
  have same:ofM s.all p.1=0->s.all=zar s.all p.1/\∀ (i:Nat) (x y:Entry),s.entries[i]? = some x->s.entries[i]? = some y->OthersE p x y:=fun h0=>by
   refine ⟨hg.ext (zr2 _ _) fun t=>?_,fun i x y hx hy=>?_⟩
   ·rw [zip]
    split
    ·rename_i e;rw [e,h0]
    ·rfl
   ·rw [hx] at hy;cases hy;obtain⟨k1,k2⟩:=hM.each x (List.mem_of_getElem? hx);exact zqy h1' k1 (by have:=coversM_iff.1 k2 p.1;omega)
  simp only [if_true] at h ⊢
  by_cases c1:p.1 ∈ s.pruned
  ·rw [if_pos c1];have h0:=(hM.pruned _ c1).2;exact⟨rfl,h0,(same h0).1,(same h0).2⟩
  ·rw [if_neg c1] at h ⊢
   by_cases c2:0 < ofM s.all p.1
   ·rw [if_pos c2] at h ⊢
    by_cases c3:zcx s.all p=true
    ·rw [if_pos c3];refine ⟨by simp,by rw [zip,if_pos rfl],rfl,fun i x y hx hy=>?_⟩;simp only [List.getElem?_map,hx,Option.map_some,Option.some.injEq] at hy;subst hy;have hm:=List.mem_of_getElem? hx;exact zpk hp (hM.each x hm).1 (hb x hm)
    ·rw [if_neg c3] at h;cases h
   ·rw [if_neg c2];have h0:ofM s.all p.1=0:=(by omega);exact⟨rfl,h0,(same h0).1,(same h0).2⟩
end
end Go.Proofs.YtaabaflgeljbjaaGreat
