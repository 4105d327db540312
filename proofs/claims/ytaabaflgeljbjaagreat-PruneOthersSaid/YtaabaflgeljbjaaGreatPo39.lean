/- Contracts and plain laws. -/
import Derived.Test.YtaabaflgeljbjaaGreatPo11
import Derived.Test.YtaabaflgeljbjaaGreatPo37
import Derived.Test.YtaabaflgeljbjaaGreatPo19
import Derived.Test.YtaabaflgeljbjaaGreatPo22
import Derived.Test.YtaabaflgeljbjaaGreatPo38
import Derived.Test.YtaabaflgeljbjaaGreatPo01
import Derived.Test.YtaabaflgeljbjaaGreatPo34
set_option linter.unusedVariables false
set_option linter.unusedSimpArgs false
set_option maxRecDepth 100000
set_option maxHeartbeats 40000000
namespace Go.Proofs.YtaabaflgeljbjaaGreat
section
def SortedC (l:List zab):Prop:=l.Pairwise fun a b=>ltS a.1 b.1=true
def GoodC (l:List zab):Prop:=SortedC l/\∀ c ∈ l,¬ (c.2.1=0/\c.2.2=0)
theorem zjq:∀ (l:List zab) (o:Option Str),zck o l=true↔GoodC l/\∀ s,o=some s->∀ c ∈ l,ltS s c.1=true
 | [],o=>by simp [zck,GoodC,SortedC]
 | c :: r,o=>by
  have ih:=zjq r (some c.1);unfold zck;rw [Bool.and_eq_true,Bool.and_eq_true,ih];have h0:((!(c.2.1 == 0 && c.2.2 == 0))=true)↔¬ (c.2.1=0/\c.2.2=0):=by simp only [Bool.not_eq_true',Bool.and_eq_false_iff,beq_eq_false_iff_ne];omega
  rw [h0]
  constructor
  ·rintro⟨⟨h1,h2⟩,⟨h3,h4⟩,h5⟩;have h5':=h5 c.1 rfl;refine ⟨⟨List.pairwise_cons.2 ⟨h5',h3⟩,fun x hx=>?_⟩,fun s hs x hx=>?_⟩
   ·rcases List.mem_cons.1 hx with rfl | hx
    ·exact h1
    ·exact h4 x hx
   ·subst hs;rcases List.mem_cons.1 hx with rfl | hx
    ·exact h2
    ·exact zaw h2 (h5' x hx)
  ·rintro⟨⟨h1,h2⟩,h3⟩;refine ⟨⟨h2 c (by simp),?_⟩,⟨(List.pairwise_cons.1 h1).2,fun x hx=>h2 x (by simp [hx])⟩,fun s hs=>?_⟩
   ·cases o with
    | none=>rfl
    | some s=>exact h3 s rfl c (by simp)
   ·cases hs;exact (List.pairwise_cons.1 h1).1
theorem mayL_iff {l:List zab}:mayL l=true↔GoodC l:=by
 unfold mayL;rw [zjq];simp
theorem zsm {l:List Str} (hn:l.Nodup):(zb1 l).Pairwise fun a b=>ltS a b=true:=by
 have h1:=zfy l;have h2:(zb1 l).Nodup:=(zdn l).nodup_iff.2 hn
 exact (h1.and h2).imp fun {a b} h=>by
  rcases zb4 a b with k | k | k
  ·exact k
  ·exact absurd k h.2
  ·rw [h.1] at k;cases k
theorem listL_mem {Lp Lm:List (Str × Nat)} {c:zab}:c ∈ zcy Lp Lm↔c.1 ∈ Lp.map Prod.fst/\¬ (getL 0 Lp c.1=0/\getL 0 Lm c.1=0)/\c.2=(getL 0 Lp c.1,getL 0 Lm c.1):=by
 obtain⟨k,n,m⟩:=c;unfold zcy zbs;rw [List.mem_map]
 constructor
 ·rintro⟨x,hx,he⟩;obtain⟨h1,h2⟩:=List.mem_filter.1 hx;injection he with e1 e2
  subst e1;refine ⟨(zdn _).mem_iff.1 h1,?_,e2.symm⟩;rintro⟨h3,h4⟩;simp [h3,h4] at h2
 ·rintro⟨h1,h2,h3⟩;refine ⟨k,List.mem_filter.2 ⟨(zdn _).mem_iff.2 h1,?_⟩,by simp only at h3;rw [h3]⟩
  by_cases h:getL 0 Lp k=0
  ·have:getL 0 Lm k ≠ 0:=fun h'=>h2 ⟨h,h'⟩
   simp [this]
  ·simp [h]
theorem ziv {Lp Lm:List (Str × Nat)} (hn:(Lp.map Prod.fst).Nodup):GoodC (zcy Lp Lm):=by
 refine ⟨?_,fun c hc=>?_⟩
 ·unfold zcy zbs SortedC;rw [List.pairwise_map];exact (zsm hn).filter _
 ·obtain⟨-,h2,h3⟩:=listL_mem.1 hc;rw [h3];exact h2
theorem zsn (f:Nat->Nat->Nat) {L:List (Str × Nat)} (h:(L.map Prod.fst).Nodup) (c:zab):((putP f L c).map Prod.fst).Nodup:=zgn h _ _
theorem zlc {L:List (Str × Nat)} {k s:Str} {v:Nat}:s ∈ (putL L k v).map Prod.fst↔s=k ∨ s ∈ L.map Prod.fst:=by
 rw [zhi]
 by_cases h:k ∈ L.map Prod.fst
 ·rw [if_pos h]
  constructor
  ·exact .inr
  ·rintro (rfl | h')
   ·exact h
   ·exact h'
 ·rw [if_neg h,List.mem_append,List.mem_singleton];exact⟨fun h=>h.symm,fun h=>h.symm⟩
theorem zhy:∀ (cs:List zab) (L:List (Str × Nat)),(L.map Prod.fst).Nodup->((cs.foldl (putP max) L).map Prod.fst).Nodup/\∀ s,s ∈ (cs.foldl (putP max) L).map Prod.fst↔(∃ c ∈ cs,c.1=s) ∨ s ∈ L.map Prod.fst
 | [],L,h=>⟨h,fun s=>by simp⟩
 | c :: r,L,h=>by
  obtain⟨h1,h2⟩:=zhy r (putP max L c) (zsn _ h c);refine ⟨h1,fun s=>?_⟩;rw [List.foldl_cons,h2];unfold putP;rw [zlc]
  constructor
  ·rintro (⟨x,hx,he⟩ | h | h)
   ·exact .inl ⟨x,by simp [hx],he⟩
   ·exact .inl ⟨c,by simp,h.symm⟩
   ·exact .inr h
  ·rintro (⟨x,hx,he⟩ | h)
   ·rcases List.mem_cons.1 hx with rfl | hx
    ·exact .inr (.inl he.symm)
    ·exact .inl ⟨x,hx,he⟩
   ·exact .inr (.inr h)
theorem zd0 (cs:List zab):((za0 cs).map Prod.fst).Nodup:=(zhy cs [] (by simp)).1
theorem ziw {cs:List zab} {s:Str}:s ∈ (za0 cs).map Prod.fst↔∃ c ∈ cs,c.1=s:=by
 rw [show za0 cs=cs.foldl (putP max) [] from rfl,(zhy cs [] (by simp)).2];simp
end
section
open Go.RowKit
section
variable {κ ν:Type} [DecidableEq κ]
theorem zgf {a b:κ} (h:¬ a=b):(a == b)=false:=beq_eq_false_iff_ne.2 h
theorem zqa (L:List (κ × ν)) (k s:κ) (v:ν):(L++[(k,v)]).lookup s=match L.lookup s with | some x=>some x | none=>if s=k then some v else none:=by
 induction L with
 | nil =>
  by_cases h:s=k
  ·subst h;simp [List.lookup]
  ·simp [List.lookup,zgf h,h]
 | cons p r ih =>
  obtain⟨a,b⟩:=p;simp only [List.cons_append,List.lookup]
  by_cases h:s=a
  ·subst h;simp
  ·simp [zgf h,ih]
theorem zso (L:List (κ × ν)) (k s:κ) (v:ν):(L.map fun p=>if p.1=k then (k,v) else p).lookup s=if s=k then (if k ∈ L.map Prod.fst then some v else none) else L.lookup s:=by
 induction L with
 | nil=>simp [List.lookup]
 | cons p r ih =>
  obtain⟨a,b⟩:=p
  by_cases ha:a=k
  ·subst ha;simp only [List.map_cons,if_pos,List.lookup,List.mem_cons,true_or]
   by_cases h:s=a
   ·subst h;simp
   ·simp [zgf h,h,ih]
  ·simp only [List.map_cons,if_neg ha,List.lookup,List.mem_cons]
   by_cases h:s=a
   ·subst h;simp [ha]
   ·have hk:¬ k=a:=fun e=>ha e.symm
    rw [zgf h];simp only [ih]
    by_cases hs:s=k
    ·subst hs;rw [if_pos rfl,if_pos rfl]
     by_cases hm:s ∈ r.map Prod.fst
     ·rw [if_pos hm,if_pos (.inr hm)]
     ·rw [if_neg hm,if_neg fun e=>e.elim h hm]
    ·simp [hs]
theorem lookup_none {L:List (κ × ν)} {s:κ}:L.lookup s=none↔s ∉ L.map Prod.fst:=by
 induction L with
 | nil=>simp [List.lookup]
 | cons p r ih =>
  obtain⟨a,b⟩:=p;simp only [List.lookup,List.map_cons,List.mem_cons]
  by_cases h:s=a
  ·subst h;simp
  ·simp [zgf h,h,ih]
theorem zld (z:ν) (L:List (κ × ν)) (k s:κ) (v:ν):getL z (putL L k v) s=if s=k then v else getL z L s:=by
 unfold getL putL
 by_cases hk:k ∈ L.map Prod.fst
 ·rw [if_pos hk,zso]
  by_cases h:s=k
  ·simp [h,hk]
  ·simp [h]
 ·rw [if_neg hk,zqa]
  by_cases h:s=k
  ·subst h;rw [lookup_none.2 hk];simp
  ·cases hl:L.lookup s <;> simp [h]
theorem zm4 {z:ν} {L:List (κ × ν)} {s:κ} (h:s ∉ L.map Prod.fst):getL z L s=z:=by unfold getL;rw [lookup_none.2 h];rfl
theorem zu3 (z:ν) (a:κ) (b:ν) (L:List (κ × ν)) (s:κ):getL z ((a,b) :: L) s=if s=a then b else getL z L s:=by
 unfold getL;simp only [List.lookup]
 by_cases h:s=a
 ·subst h;simp
 ·simp [zgf h,h]
end
def zcs (l:List zab) (s:Str):Nat:=getL 0 (za0 l) s
def zb9 (l:List zab) (s:Str):Nat:=getL 0 (za2 l) s
theorem zm5 (s:Str):∀ (l:List zab) (L:List (Str × Nat)) (x:Nat),getL 0 (l.foldl (putP max) L) s<=x↔getL 0 L s<=x/\∀ c ∈ l,c.1=s->c.2.1<=x
 | [],L,x=>by simp
 | c :: r,L,x=>by
  rw [List.foldl_cons,zm5 s r];unfold putP;rw [zld];simp only [List.mem_cons,forall_eq_or_imp]
  by_cases h:s=c.1
  ·subst h;rw [if_pos rfl]
   constructor
   ·rintro⟨h1,h2⟩;exact⟨by omega,fun _=>by omega,h2⟩
   ·rintro⟨h1,h2,h3⟩;have:=h2 rfl;exact⟨by omega,h3⟩
  ·rw [if_neg h]
   constructor
   ·rintro⟨h1,h2⟩;exact⟨h1,fun e=>absurd e.symm h,h2⟩
   ·rintro⟨h1,-,h3⟩;exact⟨h1,h3⟩
theorem zm6 (s:Str):∀ (l:List zab) (L:List (Str × Nat)) (x:Nat),getL 0 (l.foldl (putM max) L) s<=x↔getL 0 L s<=x/\∀ c ∈ l,c.1=s->c.2.2<=x
 | [],L,x=>by simp
 | c :: r,L,x=>by
  rw [List.foldl_cons,zm6 s r];unfold putM;rw [zld];simp only [List.mem_cons,forall_eq_or_imp]
  by_cases h:s=c.1
  ·subst h;rw [if_pos rfl]
   constructor
   ·rintro⟨h1,h2⟩;exact⟨by omega,fun _=>by omega,h2⟩
   ·rintro⟨h1,h2,h3⟩;have:=h2 rfl;exact⟨by omega,h3⟩
  ·rw [if_neg h]
   constructor
   ·rintro⟨h1,h2⟩;exact⟨h1,fun e=>absurd e.symm h,h2⟩
   ·rintro⟨h1,-,h3⟩;exact⟨h1,h3⟩
theorem plusC_le {l:List zab} {s:Str} {x:Nat}:zcs l s<=x↔∀ c ∈ l,c.1=s->c.2.1<=x:=by
 unfold zcs za0;rw [zm5];simp [getL,List.lookup]
theorem minusC_le {l:List zab} {s:Str} {x:Nat}:zb9 l s<=x↔∀ c ∈ l,c.1=s->c.2.2<=x:=by
 unfold zb9 za2;rw [zm6];simp [getL,List.lookup]
theorem zgu {a b:Nat} (h:∀ x,a<=x↔b<=x):a=b:=Nat.le_antisymm ((h b).2 (Nat.le_refl _)) ((h a).1 (Nat.le_refl _))
theorem SortedC.uniq {l:List zab} (h:SortedC l) {a b:zab} (ha:a ∈ l) (hb:b ∈ l) (e:a.1=b.1):a=b:=by
 induction l with
 | nil=>cases ha
 | cons x r ih =>
  obtain⟨h1,h2⟩:=List.pairwise_cons.1 h;rcases List.mem_cons.1 ha with e1 | ha'
  ·rcases List.mem_cons.1 hb with e2 | hb'
   ·rw [e1,e2]
   ·rw [e1] at e;exact absurd e (zch (h1 b hb'))
  ·rcases List.mem_cons.1 hb with e2 | hb'
   ·rw [e2] at e;exact absurd e.symm (zch (h1 a ha'))
   ·exact ih h2 ha' hb'
theorem SortedC.plus {l:List zab} (h:SortedC l) {c:zab} (hc:c ∈ l):zcs l c.1=c.2.1:=zgu fun x=>by
 rw [plusC_le];exact⟨fun k=>k c hc rfl,fun k d hd e=>by rw [h.uniq hd hc e];exact k⟩
theorem SortedC.minus {l:List zab} (h:SortedC l) {c:zab} (hc:c ∈ l):zb9 l c.1=c.2.2:=zgu fun x=>by
 rw [minusC_le];exact⟨fun k=>k c hc rfl,fun k d hd e=>by rw [h.uniq hd hc e];exact k⟩
theorem zc0 {l:List zab} {s:Str} (h:∀ c ∈ l,c.1 ≠ s):zcs l s=0:=Nat.le_zero.1 (plusC_le.2 fun c hc e=>absurd e (h c hc))
theorem zcl {l:List zab} {s:Str} (h:∀ c ∈ l,c.1 ≠ s):zb9 l s=0:=Nat.le_zero.1 (minusC_le.2 fun c hc e=>absurd e (h c hc))
theorem GoodC.mem_iff {l:List zab} (h:GoodC l) {c:zab}:c ∈ l↔¬ (zcs l c.1=0/\zb9 l c.1=0)/\c.2=(zcs l c.1,zb9 l c.1):=by
 constructor
 ·intro hc;rw [h.1.plus hc,h.1.minus hc];exact⟨h.2 c hc,rfl⟩
 ·rintro⟨h1,h2⟩;obtain⟨s,v⟩:=c;simp only at h1 h2;subst h2
  by_cases hx:∃ d ∈ l,d.1=s
  ·obtain⟨d,hd,rfl⟩:=hx;rw [h.1.plus hd,h.1.minus hd];exact hd
  ·have hn:∀ c ∈ l,c.1 ≠ s:=fun c hc e=>hx ⟨c,hc,e⟩
   exact absurd ⟨zc0 hn,zcl hn⟩ h1
theorem zmj {a b:List zab} (ha:SortedC a) (hb:SortedC b) (h:∀ m,m ∈ a↔m ∈ b):a=b:=by
 unfold SortedC at ha hb;have na:a.Nodup:=ha.imp fun {a b} hab e=>by subst e;rw [zal] at hab;cases hab
 have nb:b.Nodup:=hb.imp fun {a b} hab e=>by subst e;rw [zal] at hab;cases hab
 exact List.Perm.eq_of_pairwise (le:=fun a b=>ltS a.1 b.1=true) (fun x y _ _ h1 h2=>by rw [zcd h1] at h2;cases h2) ha hb (zc3 na nb h)
theorem GoodC.ext {a b:List zab} (ha:GoodC a) (hb:GoodC b) (h:∀ s,zcs a s=zcs b s/\zb9 a s=zb9 b s):a=b :=
 zmj ha.1 hb.1 fun m=>by rw [ha.mem_iff,hb.mem_iff,(h m.1).1,(h m.1).2]
theorem zu4 {Lp Lm:List (Str × Nat)} (hk:∀ s,s ∈ Lm.map Prod.fst->s ∈ Lp.map Prod.fst) (hn:(Lp.map Prod.fst).Nodup) (s:Str):zcs (zcy Lp Lm) s=getL 0 Lp s/\zb9 (zcy Lp Lm) s=getL 0 Lm s:=by
 have hg:=ziv (Lm:=Lm) hn
 by_cases h:∃ c ∈ zcy Lp Lm,c.1=s
 ·obtain⟨c,hc,rfl⟩:=h;rw [hg.1.plus hc,hg.1.minus hc,(listL_mem.1 hc).2.2];exact⟨rfl,rfl⟩
 ·have h':∀ c ∈ zcy Lp Lm,c.1 ≠ s:=fun c hc e=>h ⟨c,hc,e⟩
  rw [zc0 h',zcl h']
  by_cases hs:s ∈ Lp.map Prod.fst
  ·have:getL 0 Lp s=0/\getL 0 Lm s=0:=Classical.byContradiction fun hx=>h' (s,getL 0 Lp s,getL 0 Lm s) (listL_mem.2 ⟨hs,hx,rfl⟩) rfl
   exact⟨this.1.symm,this.2.symm⟩
  ·rw [zm4 hs,zm4 fun hm=>hs (hk s hm)];exact⟨rfl,rfl⟩
theorem zm7:∀ (cs:List zab) (L:List (Str × Nat)) (s:Str),s ∈ (cs.foldl (putM max) L).map Prod.fst↔(∃ c ∈ cs,c.1=s) ∨ s ∈ L.map Prod.fst
 | [],L,s=>by simp
 | c :: r,L,s=>by
  rw [List.foldl_cons,zm7 r];unfold putM;rw [zlc]
  constructor
  ·rintro (⟨x,hx,he⟩ | h | h)
   ·exact .inl ⟨x,by simp [hx],he⟩
   ·exact .inl ⟨c,by simp,h.symm⟩
   ·exact .inr h
  ·rintro (⟨x,hx,he⟩ | h)
   ·rcases List.mem_cons.1 hx with rfl | hx
    ·exact .inr (.inl he.symm)
    ·exact .inl ⟨x,hx,he⟩
   ·exact .inr (.inr h)
theorem zqb {cs:List zab} {s:Str}:s ∈ (za2 cs).map Prod.fst↔∃ c ∈ cs,c.1=s:=by
 rw [show za2 cs=cs.foldl (putM max) [] from rfl,zm7];simp
end
section
def zde (f:zab->Nat) (by_:Str) (l:List zab):Nat:=l.foldl (fun a x=>if x.1=by_ then max a (f x) else a) 0
def zb3 (c:zab):Bool->List zab->List zab
 | d,[]=>if d then [] else [c]
 | d,x :: r=>if x.1=c.1 then zb3 c d r else if d=false/\ltS c.1 x.1=true then c :: x :: zb3 c true r else x :: zb3 c d r
theorem zhu (c:zab):∀ (l:List zab) (d:Bool),(zb3 c d l).length<=l.length+1
 | [],d=>by cases d <;> simp [zb3]
 | x :: r,d=>by
  have h1:=zhu c r true;have h2:=zhu c r d
  have h3:∀ r:List zab,(zb3 c true r).length<=r.length:=by
   intro r
   induction r with
   | nil=>simp [zb3]
   | cons x r ih=>unfold zb3;split;simp;omega;rw [if_neg (by simp)];simpa using ih
  have h4:=h3 r;unfold zb3
  repeat' split
  all_goals (simp;try omega)
theorem ziy (c x:zab) (d:Bool) (r:List zab):zb3 c d (x :: r)=if x.1=c.1 then zb3 c d r else if d=false/\ltS c.1 x.1=true then c :: x :: zb3 c true r else x :: zb3 c d r:=rfl
def zeu (c:zab):Bool:=decide (c.2.1=0) && decide (c.2.2=0)
theorem zl0 (f:zab->Nat) (s:Str) (pre:List zab) (x:zab):zde f s (pre++[x])=if x.1=s then max (zde f s pre) (f x) else zde f s pre:=by simp [zde,List.foldl_append]
theorem zw2 (s:Str) (pre:List zab) (x:zab):(pre++[x]).any (fun y=>y.1 == s)=(pre.any (fun y=>y.1 == s) || x.1 == s):=by simp
def of12 (l:List zab) (s:Str):zab:=(s,zde (fun x=>x.2.1) s l,zde (fun x=>x.2.2) s l)
def zbp (l pre:List zab):List zab:=pre.foldl (fun o x=>zb3 (of12 l x.1) (zeu (of12 l x.1)) o) []
theorem zhh (l pre:List zab) (x:zab):zbp l (pre++[x])=zb3 (of12 l x.1) (zeu (of12 l x.1)) (zbp l pre):=by simp [zbp,List.foldl_append]
theorem zqd (l:List zab):∀ pre:List zab,(zbp l pre).length<=pre.length:=by
 intro pre
 induction pre using zix with
 | h0=>simp [zbp]
 | h1 pre x ih=>rw [zhh];have:=zhu (of12 l x.1) (zbp l pre) (zeu (of12 l x.1));simp only [List.length_append,List.length_cons,List.length_nil];omega
theorem zh1 (f:zab->Nat) (s:Str):∀ (l:List zab) (a x:Nat),l.foldl (fun a x=>if x.1=s then max a (f x) else a) a<=x↔a<=x/\∀ c ∈ l,c.1=s->f c<=x
 | [],a,x=>by simp
 | c :: r,a,x=>by
  rw [List.foldl_cons,zh1 f s r];simp only [List.mem_cons,forall_eq_or_imp]
  by_cases h:c.1=s
  ·rw [if_pos h,Nat.max_le]
   constructor
   ·rintro⟨⟨h1,h2⟩,h3⟩;exact⟨h1,fun _=>h2,h3⟩
   ·rintro⟨h1,h2,h3⟩;exact⟨⟨h1,h2 h⟩,h3⟩
  ·rw [if_neg h]
   constructor
   ·rintro⟨h1,h3⟩;exact⟨h1,fun e=>absurd e h,h3⟩
   ·rintro⟨h1,-,h3⟩;exact⟨h1,h3⟩
theorem zsp (l:List zab) (s:Str):zde (fun x=>x.2.1) s l=zcs l s:=zgu fun x=>by
 unfold zde;rw [zh1,plusC_le];simp
theorem zqe (l:List zab) (s:Str):zde (fun x=>x.2.2) s l=zb9 l s:=zgu fun x=>by
 unfold zde;rw [zh1,minusC_le];simp
theorem zrj (l:List zab) (s:Str):of12 l s=(s,zcs l s,zb9 l s):=by unfold of12;rw [zsp,zqe]
theorem zev (c x:zab):∀ (l:List zab) (d:Bool),x ∈ zb3 c d l↔(d=false/\x=c) ∨ (x ∈ l/\x.1 ≠ c.1)
 | [],d=>by cases d <;> simp [zb3]
 | y :: r,d=>by
  rw [ziy]
  by_cases h:y.1=c.1
  ·rw [if_pos h,zev c x r d];simp only [List.mem_cons]
   constructor
   ·rintro (h1 | ⟨h1,h2⟩)
    ·exact .inl h1
    ·exact .inr ⟨.inr h1,h2⟩
   ·rintro (h1 | ⟨rfl | h1,h2⟩)
    ·exact .inl h1
    ·exact absurd h h2
    ·exact .inr ⟨h1,h2⟩
  ·rw [if_neg h]
   by_cases h2:d=false/\ltS c.1 y.1=true
   ·rw [if_pos h2,List.mem_cons,List.mem_cons,zev c x r true];simp only [List.mem_cons,h2.1,true_and,Bool.true_eq_false,false_and,false_or]
    constructor
    ·rintro (h1 | h1 | ⟨h1,h3⟩)
     ·exact .inl h1
     ·exact .inr ⟨.inl h1,by rw [h1];exact h⟩
     ·exact .inr ⟨.inr h1,h3⟩
    ·rintro (h1 | ⟨h1 | h1,h3⟩)
     ·exact .inl h1
     ·exact .inr (.inl h1)
     ·exact .inr (.inr ⟨h1,h3⟩)
   ·rw [if_neg h2,List.mem_cons,zev c x r d];simp only [List.mem_cons]
    constructor
    ·rintro (h1 | h1 | ⟨h1,h3⟩)
     ·exact .inr ⟨.inl h1,by rw [h1];exact h⟩
     ·exact .inl h1
     ·exact .inr ⟨.inr h1,h3⟩
    ·rintro (h1 | ⟨h1 | h1,h3⟩)
     ·exact .inr (.inl h1)
     ·exact .inl h1
     ·exact .inr (.inr ⟨h1,h3⟩)
theorem zft (c:zab):∀ (l:List zab) (d:Bool),SortedC l->SortedC (zb3 c d l)
 | [],d,_=>by cases d <;> simp [zb3,SortedC]
 | y :: r,d,h=>by
  obtain⟨h1,h2⟩:=List.pairwise_cons.1 h;rw [ziy]
  by_cases he:y.1=c.1
  ·rw [if_pos he];exact zft c r d h2
  ·rw [if_neg he]
   by_cases hd:d=false/\ltS c.1 y.1=true
   ·rw [if_pos hd];refine List.pairwise_cons.2 ⟨fun x hx=>?_,List.pairwise_cons.2 ⟨fun x hx=>?_,zft c r true h2⟩⟩
    ·rcases List.mem_cons.1 hx with rfl | hx
     ·exact hd.2
     ·rcases (zev c x r true).1 hx with ⟨h3,-⟩ | ⟨h3,-⟩
      ·cases h3
      ·exact zaw hd.2 (h1 x h3)
    ·rcases (zev c x r true).1 hx with ⟨h3,-⟩ | ⟨h3,-⟩
     ·cases h3
     ·exact h1 x h3
   ·rw [if_neg hd];refine List.pairwise_cons.2 ⟨fun x hx=>?_,zft c r d h2⟩;rcases (zev c x r d).1 hx with ⟨h3,rfl⟩ | ⟨h3,-⟩
    ·rcases zb4 y.1 x.1 with k | k | k
     ·exact k
     ·exact absurd k he
     ·exact absurd ⟨h3,k⟩ hd
    ·exact h1 x h3
theorem zero12_iff {c:zab}:zeu c=true↔c.2.1=0/\c.2.2=0:=by simp [zeu]
theorem zef (l:List zab):∀ pre:List zab,SortedC (zbp l pre)/\∀ x,x ∈ zbp l pre↔x=of12 l x.1/\zeu x=false/\∃ y ∈ pre,y.1=x.1:=by
 intro pre
 induction pre using zix with
 | h0=>exact⟨.nil,fun x=>by simp [zbp]⟩
 | h1 pre y ih =>
  rw [zhh];refine ⟨zft _ _ _ ih.1,fun x=>?_⟩;rw [zev,ih.2];have e1:(of12 l y.1).1=y.1:=rfl;rw [e1]
  constructor
  ·rintro (⟨h1,rfl⟩ | ⟨⟨h1,h2,z,hz,h3⟩,h4⟩)
   ·exact⟨rfl,h1,y,by simp,rfl⟩
   ·exact⟨h1,h2,z,by simp [hz],h3⟩
  ·rintro⟨h1,h2,z,hz,h3⟩
   by_cases he:x.1=y.1
   ·left
    rw [<- he,<- h1];exact⟨h2,rfl⟩
   ·right
    refine ⟨⟨h1,h2,z,?_,h3⟩,he⟩;rcases List.mem_append.1 hz with hz | hz
    ·exact hz
    ·rw [List.mem_singleton.1 hz] at h3;exact absurd h3.symm he
theorem zjs (l:List zab):GoodC (zbp l l):=⟨(zef l l).1,fun c hc h=>by
 have:=((zef l l).2 c).1 hc;rw [zero12_iff.2 h] at this;cases this.2.1⟩
theorem zqf (l:List zab) (s:Str):zcs (zbp l l) s=zcs l s/\zb9 (zbp l l) s=zb9 l s:=by
 have hg:=zjs l
 by_cases hx:∃ y ∈ l,y.1=s
 ·by_cases hz:zeu (of12 l s)=true
  ·have h0:=zero12_iff.1 hz;rw [zrj] at h0
   have hn:∀ c ∈ zbp l l,c.1 ≠ s:=fun c hc e=>by obtain⟨h1,h2,-⟩:=((zef l l).2 c).1 hc;rw [h1,e,hz] at h2;cases h2
   rw [zc0 hn,zcl hn];exact⟨h0.1.symm,h0.2.symm⟩
  ·have hm:of12 l s ∈ zbp l l:=((zef l l).2 _).2 ⟨rfl,by simpa using hz,hx⟩;have e1:=hg.1.plus hm;have e2:=hg.1.minus hm;rw [zrj] at e1 e2;exact⟨e1,e2⟩
 ·have h1:∀ c ∈ l,c.1 ≠ s:=fun c hc e=>hx ⟨c,hc,e⟩
  have hn:∀ c ∈ zbp l l,c.1 ≠ s:=fun c hc e=>by obtain⟨-,-,y,hy,h⟩:=((zef l l).2 c).1 hc;exact h1 y hy (h.trans e)
  rw [zc0 hn,zcl hn,zc0 h1,zcl h1];exact⟨rfl,rfl⟩
theorem GoodC.clean {l:List zab} (h:GoodC l):zbp l l=l:=(zjs l).ext h (zqf l)
end
section
structure PreE (e:Entry):Prop where
 good:GoodM e.seen
 most:∀ m ∈ e.seen,m.2<=281474976710656
 one:zaq e.key=1->e.items = []/\e.cell=zj8/\∀ c ∈ e.counts,c.1 = [] ∨ ofM e.seen c.1 ≠ 0
 two:zaq e.key=2->GoodB e.items/\(∀ d ∈ zem e.items,hasM e.seen d=true)/\e.counts = []/\e.cell=zj8
 three:zaq e.key=3->e.counts = []/\e.items = []
theorem zm8:GoodB []:=⟨.nil,by simp,by simp [zem],by simp [zem]⟩
theorem zw3 {e:Entry} (h:mayE e=true):PreE e:=by
 unfold mayE at h;rw [Bool.and_eq_true,Bool.and_eq_true] at h;obtain⟨h1,h2,h3⟩:=h;obtain⟨-,g1,g2⟩:=mayM_iff.1 h1;refine ⟨g1,g2,fun hk=>?_,fun hk=>?_,fun hk=>?_⟩
 ·rw [if_pos hk] at h3;simp only [may1,Bool.and_eq_true,decide_eq_true_eq,List.length_eq_zero_iff] at h3;obtain⟨k1,k2,k3,k4⟩:=h3;refine ⟨k3,k4,fun c hc=>?_⟩;have:=List.all_eq_true.1 k2 c hc
  by_cases h:c.1 = []
  ·exact .inl h
  ·refine .inr fun h0=>?_
   simp [h,h0] at this
 ·rw [if_neg (by omega),if_pos hk] at h3;simp only [may2,Bool.and_eq_true,decide_eq_true_eq,List.length_eq_zero_iff] at h3;obtain⟨k1,k2,k3,k4⟩:=h3;refine ⟨mayB_iff.1 k1,fun d hd=>?_,k3,k4⟩;obtain⟨it,hit,hdd⟩:=List.mem_flatMap.1 hd;exact List.all_eq_true.1 (List.all_eq_true.1 k2 it hit) d hdd
 ·rw [if_neg (by omega),if_neg (by omega),if_pos hk] at h3;simp only [may3,Bool.and_eq_true,decide_eq_true_eq,List.length_eq_zero_iff] at h3;exact h3.2
end
section
open Go.RowKit Go.Shelf
abbrev valC (k:Nat) (n:Int) (l:Value) (t:Str) (is:Bool):Value:=.agg #[K8 k,I n,l,St t,.bool is]
theorem zyr (n N:Int) (A:Option Addr) (a c:Nat) (t:Str) (z:Bool) (w:World) :
  Calls Tryz.prog 18 #[.iface 2 (I n),valC 1 N (.slice A a c) t z] w fun r w'=>r=.returned (.bool (decide (n=N)))/\Ext w w':=by
 have hta:=fun W=>zen (P:=Tryz.prog) (x:=20) (v:=I n) W Tryz.underlying2 (by simp)
 by_cases h:n=N
 ·subst h;go_enter Tryz.func18,Tryz.ntmps18;go_wp2;go_ret;exact⟨by simp,(Ext.refl _).alloc _⟩
 ·have h':(n == N)=false:=by simpa using h
  go_enter Tryz.func18,Tryz.ntmps18;go_wp2;go_ret;exact⟨by simp [h],(Ext.refl _).alloc _⟩
end
section
open Go.RowKit Go.Shelf
theorem zyt {S S':Nat->Prop} {va vb:Value} {A B:List Str} {w:World} (ha:Sl strT w S va A) (hb:Sl strT w S' vb B) (t:Str) (z:Bool) (n:Int) :
  Calls Tryz.prog 18 #[.iface 24 va,valC 2 n vb t z] w fun r w'=>r=.returned (.bool (decide (A=B)))/\Ext w w':=by
 obtain⟨A1,n1,rfl,-,-⟩:=ha.form;obtain⟨A2,n2,rfl,-,-⟩:=hb.form;have hta:=fun W=>zen (P:=Tryz.prog) (x:=20) (v:=.slice A1 A.length n1) W Tryz.underlying24 (by simp)
 have hx:=(Ext.refl w).alloc (.cells #[K8 2,I n,.slice A2 B.length n2,St t,.bool z] 51);have HT:=zH (zkw (ha.ext (by decide) hx) (hb.ext (by decide) hx));have HX:=zH hx;clear ha hb hx;go_enter Tryz.func18,Tryz.ntmps18;go_wp2_with fail;refine HT.out.mono ?_;rintro r W1 ⟨rfl,hx1⟩;go_wp2_with fail;go_ret;exact⟨rfl,HX.out.trans hx1⟩
theorem zyu (w:World):(zeroValue 9).run Tryz.prog w=.ok (St []) w:=Tryz.zeroValue9 w
theorem zx4 (c:Cell) (N:Int) (A:Option Addr) (a d:Nat) (w:World) :
  Calls Tryz.prog 18 #[zf2 c,valC 3 N (.slice A a d) (zbv c).1 (zbv c).2] w fun r w'=>r=.returned (.bool true)/\Ext w w':=by
 unfold zf2;rcases h:zbv c with ⟨t,is⟩
 cases is with
 | true =>
  have hta:=fun W=>zen (P:=Tryz.prog) (x:=20) (v:=St t) W Tryz.underlying9 (by simp)
  simp only [if_true];go_enter Tryz.func18,Tryz.ntmps18;go_wp2;go_ret;exact⟨by simp,(Ext.refl _).alloc _⟩
 | false =>
  obtain rfl:t = []:=by
   unfold zbv at h
   split at h
   ·injection h with h1 h2;exact h1.symm
   ·injection h with h1 h2;cases h2
  have hta:=fun W=>zml (P:=Tryz.prog) (x:=20) W Tryz.underlying9 (by simp) (zyu W)
  simp only [Bool.false_eq_true,if_false];go_enter Tryz.func18,Tryz.ntmps18;go_wp2;go_ret;exact⟨by simp,(Ext.refl _).alloc _⟩
end
section
open Go.RowKit Go.Shelf
theorem zpj {S:Nat->Prop} {v:Value} {l:List zab} {w:World} (c:zab) (hv:Sl zbo w S v l) (hl0:l.length<=1000000) :
  Calls Tryz.prog 151 #[v,.agg #[St c.1,U c.2.1,U c.2.2]] w fun e w'=>∃ v',e=.returned v'/\Own w' w.heap.size 54 3 v' (zb3 c (zeu c) l).length ((zb3 c (zeu c) l).flatMap za5)/\Ext w w':=by
 have hv':=hv;obtain⟨P0,cc,rfl,h1,h2⟩:=hv.form;obtain⟨W1,hW1⟩:∃ W1,w.alloc (.cells #[St c.1,U c.2.1,U c.2.2] 54)=W1:=⟨_,rfl⟩
 have hx1:Ext w W1:=by rw [<- hW1];exact (Ext.refl w).alloc _
 have hr:RowIs W1 w.heap.size 54 [St c.1,U c.2.1,U c.2.2] []:=by rw [<- hW1];exact zai w _ _
 have hsz1:w.heap.size<=W1.heap.size:=hx1.size;have HAT:=zH (fun (pre post:List zab) (x:zab) (wr:World) (h:Ext W1 wr) (hl:l=pre++x :: post)=>zcj hv' (hx1.trans h) hl);have HX1:=zH hx1;have HR:=zH hr;obtain⟨c0,c1,c2⟩:=hr.p3;obtain⟨d0,hd0⟩:∃ d,zeu c=d:=⟨_,rfl⟩
 obtain⟨z1,hz1⟩:∃ z,((c.2.1:Int) == 0)=z:=⟨_,rfl⟩
 obtain⟨z2,hz2⟩:∃ z,((c.2.2:Int) == 0)=z:=⟨_,rfl⟩
 have HZ:Hid (d0=(z1 && z2)):=zH (by
  rw [<- hd0,<- hz1,<- hz2];unfold zeu;have k1:decide (c.2.1=0)=((c.2.1:Int) == 0):=by rw [Bool.eq_iff_iff,decide_eq_true_eq,beq_iff_eq];omega
  have k2:decide (c.2.2=0)=((c.2.2:Int) == 0):=by rw [Bool.eq_iff_iff,decide_eq_true_eq,beq_iff_eq];omega
  rw [k1,k2])
 rw [hd0];have HLN:=zH (zhu c l d0);clear hv hv' hx1 hr hd0;go_enter Tryz.func151,Tryz.ntmps151;refine wp_seq_k ?_;intro K hK;have HK:=zH hK;clear hK;go_wp;refine HK.out _ _ ?_;clear HK K;refine wp_seq_k ?_;intro K hK;have HK:=zH hK;clear hK;go_wp;refine HK.out _ _ ?_;clear HK K;refine wp_seq_k ?_;intro K hK
 have REST:∀ ⦃u8 u9 u10 u11 u12 u13 u14 u15:Value⦄,K ⟨#[.slice P0 l.length cc,.agg #[St c.1,U c.2.1,U c.2.2],undef,.pointer (some ⟨w.heap.size,0,none⟩),.slice none 0 0,.slice none 0 0,.bool d0,undef,u8,u9,u10,u11,u12,u13,u14,u15,undef,undef,undef,undef,undef,undef,undef,undef,undef,undef,undef,undef,undef,undef,undef,undef,undef,undef,undef,undef,undef,undef,undef,undef,undef,undef,undef,undef,undef,undef,undef,undef,undef,undef,undef,undef,undef,undef,undef,undef,undef,undef,undef,undef],[]⟩ W1:=by
  intro u8 u9 u10 u11 u12 u13 u14 u15;refine hK _ _ ?_;clear hK K HZ hz1 hz2 c1 c2;go_wp2_with fail
  go_loopw [5,6,7] (fun o d i wr=>∃ (pre post P:List zab) (db:Bool),l=pre++post/\i=I pre.length/\d=.bool db/\P++zb3 c db post=zb3 c d0 l/\Own wr W1.heap.size 54 3 o P.length (P.flatMap za5)/\Ext W1 wr) (fun _ _ i _=>l.length - (intOf i).toNat)
  case atStart=>exact⟨[],l,[],d0,rfl,rfl,rfl,rfl,Own.nil _ _ _ _ _,Ext.refl _⟩
  case round =>
   obtain⟨pre,post,P,db,hl,rfl,rfl,hp,hown,hx⟩:=hrel;have hlen:P.length<=l.length+1:=by have h:=congrArg List.length hp;have h2:=HLN.out;simp only [List.length_append] at h;omega
   cases post with
   | cons x post =>
    obtain⟨b,of,rfl,e0,e1,e2⟩:=HAT.out pre post x wr hx hl;have hlt:pre.length < l.length:=(by rw [hl];simp);have HL:=zH hl;have HO:=zH hown;have HX:=zH hx;have hn3:=hx.size;have hr:=HR.out.ext hx;obtain⟨r0,r1,r2⟩:=hr.p3;obtain⟨CO,nO,rfl,-,-⟩:=hown.form;rw [ziy] at hp;have HP:=zH hp;clear hl hown hx hr hp c0
    by_cases he:x.1=c.1
    ·have heb:(x.1 == c.1)=true:=(by simpa using he);have hp:=HP.out;rw [if_pos he] at hp;have HP:=zH hp;clear hp;go_wp;go_quiet (fail);go_wp2_with fail;go_roundw
     case rel=>exact⟨pre++[x],post,P,db,by rw [HL.out];simp,by simp,rfl,HP.out,HO.out.ext (((Ext.refl _).drewN _)),HX.out.drewN _⟩
     case measure=>simp [intOf];omega
    have heb:(x.1 == c.1)=false:=(by simpa using he);have hp:=HP.out;rw [if_neg he] at hp;clear HP;go_wp;go_quiet (fail);go_wp2_with fail;have hx7:Ext wr (wr.drewN nq):=(Ext.refl wr).drewN nq;obtain⟨Wq,hWq⟩:∃ X,wr.drewN nq=X:=⟨_,rfl⟩
    rw [hWq] at hx7 ⊢;replace e0:=hx7.cell e0;replace e1:=hx7.cell e1;replace e2:=hx7.cell e2;replace r0:=hx7.cell r0;replace r1:=hx7.cell r1;replace r2:=hx7.cell r2;have HO:=zH (HO.out.ext hx7);have HX:=zH (HX.out.trans hx7);replace hn3:=Nat.le_trans hn3 hx7.size;clear hWq hx7
    cases db with
    | true =>
     rw [if_neg (by simp)] at hp;have HP:=zH hp;clear hp;go_quiet (fail)
     go_wp2_with (at_builtin;refine zag rfl (.tmp 46) (.tmp 51) 41 rfl W1.heap.size 54 3 32 (.agg #[St [],U 0,U 0]) Tryz.underlying41 zdk rfl (by omega) _ P.length (P.flatMap za5) rfl (HO.out.ext (((Ext.refl _).drewN _).alloc _)) _ 1 1 [St x.1,U x.2.1,U x.2.2] rfl (Src.new rfl (by intro u hu;simp at hu;rcases hu with rfl | rfl | rfl <;> rfl)) (by omega) (by omega) (by simp;omega) ?_;intro v2 w2 hown2 hgr2)
     go_roundw
     case rel=>exact⟨pre++[x],post,P++[x],true,by rw [HL.out];simp,by simp,rfl,by rw [<- HP.out];simp,by simpa [za5] using hown2,Ext.grewOwn ((HX.out.drewN _).alloc _) hgr2 (HO.out.ext (((Ext.refl _).drewN _).alloc _)) (Nat.le_refl _)⟩
     case measure=>simp [intOf];omega
    | false =>
     by_cases hc:ltS c.1 x.1=true
     ·have hcb:Op.bytesLess c.1 x.1=true:=hc;rw [if_pos ⟨rfl,hc⟩] at hp;have HP:=zH hp;clear hp hc;go_quiet (fail)
      go_wp2_with (at_builtin;first | (refine zag rfl (.tmp 42) (.tmp 44) 41 rfl W1.heap.size 54 3 32 (.agg #[St [],U 0,U 0]) Tryz.underlying41 zdk rfl (by omega) _ P.length (P.flatMap za5) rfl (HO.out.ext (((Ext.refl _).drewN _).alloc _)) _ 1 1 [St c.1,U c.2.1,U c.2.2] rfl (Src.new rfl (by intro u hu;simp at hu;rcases hu with rfl | rfl | rfl <;> rfl)) (by omega) (by omega) (by simp;omega) ?_;intro v2 w2 hown2 hgr2;have hxb:=Ext.grewOwn ((HX.out.drewN _).alloc _) hgr2 (HO.out.ext (((Ext.refl _).drewN _).alloc _)) (Nat.le_refl _);obtain⟨C3,c3,rfl,-,-⟩:=hown2.form;have HO2:=zH hown2;have HXB:=zH hxb;have hz2:=hxb.size;have hxr:=HAT.out pre post x w2 hxb HL.out;obtain⟨b',of',hA2,g0,g1,g2⟩:=hxr;cases hA2;clear hxb hown2 hgr2) | (refine zag rfl (.tmp 46) (.tmp 51) 41 rfl W1.heap.size 54 3 32 (.agg #[St [],U 0,U 0]) Tryz.underlying41 zdk rfl (by omega) _ (P.length+1) (P.flatMap za5++[St c.1,U c.2.1,U c.2.2]) rfl (HO2.out.alloc _) _ 1 1 [St x.1,U x.2.1,U x.2.2] rfl (Src.new rfl (by intro u hu;simp at hu;rcases hu with rfl | rfl | rfl <;> rfl)) (by omega) (by omega) (by simp;omega) ?_;intro v3 w3 hown3 hgr3))
      go_roundw
      case rel=>exact⟨pre++[x],post,P++[c,x],true,by rw [HL.out];simp,by simp,rfl,by rw [<- HP.out];simp,by simpa [za5] using hown3,Ext.grewOwn (HXB.out.alloc _) hgr3 (HO2.out.alloc _) (Nat.le_refl _)⟩
      case measure=>simp [intOf];omega
     ·have hcb:Op.bytesLess c.1 x.1=false:=(by simpa using hc);rw [if_neg (by simp [hc])] at hp;clear hc;have HP:=zH hp;clear hp;go_quiet (fail)
      go_wp2_with (at_builtin;refine zag rfl (.tmp 46) (.tmp 51) 41 rfl W1.heap.size 54 3 32 (.agg #[St [],U 0,U 0]) Tryz.underlying41 zdk rfl (by omega) _ P.length (P.flatMap za5) rfl (HO.out.ext (((Ext.refl _).drewN _).alloc _)) _ 1 1 [St x.1,U x.2.1,U x.2.2] rfl (Src.new rfl (by intro u hu;simp at hu;rcases hu with rfl | rfl | rfl <;> rfl)) (by omega) (by omega) (by simp;omega) ?_;intro v2 w2 hown2 hgr2)
      go_roundw
      case rel=>exact⟨pre++[x],post,P++[x],false,by rw [HL.out];simp,by simp,rfl,by rw [<- HP.out];simp,by simpa [za5] using hown2,Ext.grewOwn ((HX.out.drewN _).alloc _) hgr2 (HO.out.ext (((Ext.refl _).drewN _).alloc _)) (Nat.le_refl _)⟩
      case measure=>simp [intOf];omega
   | nil =>
    rw [List.append_nil] at hl;subst hl;have HO:=zH hown;have HX:=zH hx;have hn3:=hx.size;have hr:=HR.out.ext hx;obtain⟨r0,r1,r2⟩:=hr.p3;obtain⟨CO,nO,rfl,-,-⟩:=hown.form;have HP:=zH hp;clear hown hx hr hp c0
    cases db with
    | true=>go_wp2_with fail;go_ret;exact⟨_,rfl,by rw [<- HP.out];simpa [zb3] using HO.out.lower hsz1,HX1.out.trans HX.out⟩
    | false =>
     go_wp2_with (at_builtin;refine zag rfl (.tmp 55) (.tmp 57) 41 rfl W1.heap.size 54 3 32 (.agg #[St [],U 0,U 0]) Tryz.underlying41 zdk rfl (by omega) _ P.length (P.flatMap za5) rfl (HO.out.alloc _) _ 1 1 [St c.1,U c.2.1,U c.2.2] rfl (Src.new rfl (by intro u hu;simp at hu;rcases hu with rfl | rfl | rfl <;> rfl)) (by omega) (by omega) (by simp;omega) ?_;intro v2 w2 hown2 hgr2)
     go_ret;exact⟨_,rfl,by rw [<- HP.out];simpa [zb3,za5] using hown2.lower hsz1,HX1.out.trans (Ext.grewOwn (HX.out.alloc _) hgr2 (HO.out.alloc _) (Nat.le_refl _))⟩
 have HRS:=zH REST;clear REST hK
 cases z1 with
 | true =>
  have hb:d0=z2:=by rw [HZ.out];rfl
  subst hb;go_wp2_with fail
  apply HRS.out
 | false =>
  have hb:d0=false:=by rw [HZ.out];rfl
  subst hb;go_wp2_with fail
  apply HRS.out
theorem zqx {S:Nat->Prop} {v:Value} {l:List zab} {w:World} (s:Str) (hv:Sl zbo w S v l) :
  Calls Tryz.prog 150 #[v,St s] w fun e w'=>e=.returned (.tuple #[.agg #[St s,U (of12 l s).2.1,U (of12 l s).2.2],.bool (l.any fun y=>y.1 == s)])/\Ext w w':=by
 have hv':=hv;obtain⟨P0,cc,rfl,h1,h2⟩:=hv.form;have HAT:=zH (fun (pre post:List zab) (x:zab) (wr:World) (h:Ext w wr) (hl:l=pre++x :: post)=>zcj hv' h hl);clear hv hv';go_enter Tryz.func150,Tryz.ntmps150;go_wp2_with fail
 go_loopw [7,8] (fun d i wr=>∃ (pre post:List zab),l=pre++post/\i=I pre.length/\d=.bool (pre.any fun y=>y.1 == s)/\RowIs wr (w.heap.size+1) 54 [St s,U (zde (fun x=>x.2.1) s pre),U (zde (fun x=>x.2.2) s pre)] []/\RowIs wr w.heap.size 54 [St [],.int .u64 0,.int .u64 0] []/\Ext w wr) (fun _ i _=>l.length - (intOf i).toNat)
 case atStart=>exact⟨[],l,rfl,rfl,rfl,by have h:=zai (w.alloc (.cells #[St [],.int .u64 0,.int .u64 0] 54)) 54 [St s,.int .u64 0,.int .u64 0];simp only [World.size_alloc] at h;exact h,(zai w _ [St [],.int .u64 0,.int .u64 0]).alloc _,((Ext.refl w).alloc _).alloc _⟩
 case round =>
  obtain⟨pre,post,hl,rfl,rfl,hr,hz,hx⟩:=hrel;have HR:=zH hr;have HZ:=zH hz;have HX:=zH hx
  cases post with
  | cons x post =>
   obtain⟨b,of,rfl,e0,e1,e2⟩:=HAT.out pre post x wr hx hl;have hlt:pre.length < l.length:=(by rw [hl];simp);have HL:=zH hl;have HT1:=zH (zl0 (fun x=>x.2.1) s pre x);have HT2:=zH (zl0 (fun x=>x.2.2) s pre x);have HAN:=zH (zw2 s pre x);generalize zde (fun x=>x.2.1) s pre=m1 at *;generalize zde (fun x=>x.2.2) s pre=m2 at *;obtain⟨bb,hbb⟩:∃ bb,(pre.any fun y=>y.1 == s)=bb:=⟨_,rfl⟩
   rw [hbb] at HAN ⊢;clear hl hx hr hz hbb
   by_cases he:x.1=s
   ·have heb:(x.1 == s)=true:=(by simpa using he);rw [if_pos he] at HT1 HT2;have q1:max (m1:Int) (x.2.1:Int)=((max m1 x.2.1:Nat):Int):=(by omega);have q2:max (m2:Int) (x.2.2:Int)=((max m2 x.2.2:Nat):Int):=(by omega);obtain⟨Wd,hWd⟩:∃ W,wr.drew=W:=⟨_,rfl⟩
    have hdr:Ext wr Wd:=(by rw [<- hWd];exact (Ext.refl _).drew);have HWD:=zH hWd;have c1:=(HR.out.ext hdr).cell (j:=1) rfl;have f1:=(HR.out.ext hdr).frozen 1;replace e1:=hdr.cell e1;replace e2:=hdr.cell e2;have HR:=zH ((HR.out.ext hdr).set (j:=1) (by simp) (U (max m1 x.2.1)));have HZ:=zH ((HZ.out.ext hdr).other (p:=⟨w.heap.size+1,1,none⟩) (by simp) (U (max m1 x.2.1)));have HX:=zH ((HX.out.trans hdr).set (p:=⟨w.heap.size+1,1,none⟩) (by simp) (U (max m1 x.2.1)));have HE2:=zH e2;clear hWd hdr;go_wp2_with fail;refine wp_region_still_tail 9 (by kernel_rfl) (by kernel_rfl) ?_;simp only [List.take_succ_cons,List.take_zero,List.drop_succ_cons,List.drop_zero];change wpStill _ _ wr.drew (fun a'=>wpList _ _ _ _ a' wr.drew) _ _;rw [HWD.out];generalize hA:Act.mk _ _=A0;repeat (refine wpStill_step (fun K2 hK2=>?_);subst hA;go_simp;(try rw [if_neg (by decide)]);generalize hA:Act.mk _ _=A0;refine hK2 A0 ?_;clear hK2 K2)
    refine wpStill_nil ?_;subst hA;go_wp2_with fail;obtain⟨We,hWe⟩:∃ X,Wd.setCell ⟨w.heap.size+1,1,none⟩ (U (max m1 x.2.1))=X:=⟨_,rfl⟩
    rw [hWe] at HR HZ HX ⊢;simp only [List.set_cons_succ,List.set_cons_zero] at HR;clear hWe HE2 c1 f1 e0 e1 e2 HWD;obtain⟨b2,of2,hA2,g0,g1,e2⟩:=HAT.out pre post x We HX.out HL.out;cases hA2;clear g0 g1;obtain⟨Wf,hWd⟩:∃ W,We.drew=W:=⟨_,rfl⟩
    have hdr:Ext We Wf:=(by rw [<- hWd];exact (Ext.refl _).drew);have HWD:=zH hWd;have c2:=(HR.out.ext hdr).cell (j:=2) rfl;have f2:=(HR.out.ext hdr).frozen 2;replace e2:=hdr.cell e2;have HR:=zH ((HR.out.ext hdr).set (j:=2) (by simp) (U (max m2 x.2.2)));have HZ:=zH ((HZ.out.ext hdr).other (p:=⟨w.heap.size+1,2,none⟩) (by simp) (U (max m2 x.2.2)));have HX:=zH ((HX.out.trans hdr).set (p:=⟨w.heap.size+1,2,none⟩) (by simp) (U (max m2 x.2.2)));clear hWd hdr;refine wp_region_still_tail 9 (by kernel_rfl) (by kernel_rfl) ?_;simp only [List.take_succ_cons,List.take_zero,List.drop_succ_cons,List.drop_zero];change wpStill _ _ We.drew (fun a'=>wpList _ _ _ _ a' We.drew) _ _;rw [HWD.out];generalize hA:Act.mk _ _=A0;repeat (refine wpStill_step (fun K2 hK2=>?_);subst hA;go_simp;(try rw [if_neg (by decide)]);generalize hA:Act.mk _ _=A0;refine hK2 A0 ?_;clear hK2 K2)
    refine wpStill_nil ?_;subst hA;go_wp2_with fail;go_roundw
    case rel=>exact⟨pre++[x],post,by rw [HL.out];simp,by simp,by rw [HAN.out,heb];simp,by rw [HT1.out,HT2.out];exact HR.out,HZ.out,HX.out⟩
    case measure=>simp [intOf];omega
   ·have heb:(x.1 == s)=false:=(by simpa using he);rw [if_neg he] at HT1 HT2;go_wp2_with fail;go_roundw
    case rel=>exact⟨pre++[x],post,by rw [HL.out];simp,by simp,by rw [HAN.out,heb];simp,by rw [HT1.out,HT2.out];exact HR.out,HZ.out,HX.out⟩
    case measure=>simp [intOf];omega
  | nil =>
   rw [List.append_nil] at hl;subst hl;have HS:=zH (show (U (of12 l s).2.1=U (zde (fun x=>x.2.1) s l))/\(U (of12 l s).2.2=U (zde (fun x=>x.2.2) s l)) from ⟨rfl,rfl⟩);obtain⟨c0,c1,c2⟩:=hr.p3;obtain⟨z0,z1,z2⟩:=hz.p3;obtain⟨f0,f1,f2⟩:=hz.q3;generalize zde (fun x=>x.2.1) s l=m1 at *;generalize zde (fun x=>x.2.2) s l=m2 at *;clear hr hz hx;go_wp2_with fail
   (try simp only [Exit.inBlock,Exit.then])
   refine bodyPost_ret (v:=.tuple #[.agg #[St s,U m1,U m2],.bool (l.any fun y=>y.1 == s)]) (by simp [results,Tryz.f150,go_sem,z0,z1,z2]) rfl ?_;exact⟨by rw [HS.out.1,HS.out.2],((HX.out.set (p:=⟨w.heap.size,0,none⟩) (Nat.le_refl _) _).set (p:=⟨w.heap.size,1,none⟩) (Nat.le_refl _) _).set (p:=⟨w.heap.size,2,none⟩) (Nat.le_refl _) _⟩
end
section
open Go.RowKit Go.Shelf
theorem zky {tid base:Nat} {v:Value} {l:List zab} {w:World} (h:Own w base tid 3 v l.length (l.flatMap za5)):Sl zbo w (fun b=>base<=b) v l :=
 (OwnL.flat_iff (S:=fun b=>base<=b).2 h).sl (by decide) (fun _ _ h=>h) (fun _ h _=>h)
theorem zmp {S:Nat->Prop} {v:Value} {l:List zab} {w:World} (hv:Sl zbo w S v l) (hl0:l.length<=1000000) :
  Calls Tryz.prog 107 #[v] w fun e w'=>∃ v',e=.returned v'/\Own w' w.heap.size 54 3 v' (zbp l l).length ((zbp l l).flatMap za5)/\Ext w w':=by
 have hv':=hv;obtain⟨P0,cc,rfl,h1,h2⟩:=hv.form;have HAT:=zH (fun (pre post:List zab) (x:zab) (wr:World) (h:Ext w wr) (hl:l=pre++x :: post)=>zcj hv' h hl);have HOF:=zH (fun (s:Str) (wr:World) (h:Ext w wr)=>zqx s (hv'.ext (by decide) h));clear hv hv';go_enter Tryz.func107,Tryz.ntmps107;go_wp2_with fail
 go_loopw [3,4] (fun o i wr=>∃ (pre post:List zab),l=pre++post/\i=I pre.length/\Own wr w.heap.size 54 3 o (zbp l pre).length ((zbp l pre).flatMap za5)/\Ext w wr) (fun _ i _=>l.length - (intOf i).toNat)
 case atStart=>exact⟨[],l,rfl,rfl,Own.nil _ _ _ _ _,Ext.refl _⟩
 case round =>
  obtain⟨pre,post,hl,rfl,hown,hx⟩:=hrel
  cases post with
  | cons x post =>
   obtain⟨b,o,rfl,e0,e1,e2⟩:=HAT.out pre post x wr hx hl;have hlt:pre.length < l.length:=(by rw [hl];simp);have hcl:=zqd l pre;have HL:=zH hl;have HX:=zH hx;have hn3:=hx.size;have HF:=zH (HOF.out x.1 wr hx);have HS:=zH (zhh l pre x);obtain⟨C,hC⟩:∃ C,zbp l pre=C:=⟨_,rfl⟩
   rw [hC] at hown hcl HS;have HO:=zH hown;obtain⟨CO,nO,rfl,-,-⟩:=hown.form;clear hl hx hC hown;go_wp2_with fail;refine HF.out.mono ?_;rintro e w1 ⟨rfl,hx1⟩;obtain⟨c,hc⟩:∃ c,of12 l x.1=c:=⟨_,rfl⟩
   have hc1:x.1=c.1:=(by rw [<- hc];rfl);rw [hc] at HS;rw [hc,hc1];clear hc hc1;have HX1:=zH hx1;have hn4:=hx1.size;have HP:=zH (fun W (h:Ext w1 W)=>zpj c (zky (HO.out.ext (hx1.trans h))) (by omega));go_wp2_with fail;refine (HP.out _ ((Ext.refl w1).alloc _)).mono ?_;rintro e w2 ⟨v2,rfl,ho2,hx2⟩;have HX2:=zH (((Ext.refl w1).alloc _).trans hx2);have HO2:=zH (ho2.lower (base':=w.heap.size) (by simp;omega));obtain⟨C2,n2,rfl,-,-⟩:=ho2.form;clear ho2 hx2 hx1;go_wp2_with fail;go_roundw
   case rel=>exact⟨pre++[x],post,by rw [HL.out];simp,by simp,by rw [HS.out];exact HO2.out,HX.out.trans (HX1.out.trans HX2.out)⟩
   case measure=>simp [intOf];omega
  | nil=>rw [List.append_nil] at hl;subst hl;have HO:=zH hown;obtain⟨CO,nO,rfl,-,-⟩:=hown.form;clear hown;go_wp2_with fail;go_ret;exact⟨_,rfl,HO.out,hx⟩
end
end Go.Proofs.YtaabaflgeljbjaaGreat
