/- Events, and what an entry is of which some events are known: one entry at most; joins are of what either knows. No program in sight. -/
import Derived.Test.YtdikcgmdmcfpfaaGreatJo37
import Derived.Test.YtdikcgmdmcfpfaaGreatJo40
set_option linter.unusedVariables false
set_option linter.unusedSimpArgs false
set_option maxRecDepth 100000
set_option maxHeartbeats 40000000
namespace Go.Proofs.YtdikcgmdmcfpfaaGreat
section
open Go.RowKit
theorem zz1 {a b:Cell}:ltOf cmpC a b=true↔a.1 < b.1 ∨ (a.1=b.1/\(zbr a < zbr b ∨ (zbr a=zbr b/\ltS a.2.1 b.2.1=true))):=by
 obtain⟨n,s,g⟩:=a;obtain⟨m,t,h⟩:=b;unfold ltOf cmpC orI;have h1:=@zn5 n m;have h2:=@cmpN_eq n m;have h3:=@cmpS_lt s t;have h4:cmpI (zbr (n,s,g)) (zbr (m,t,h))=0↔zbr (n,s,g)=zbr (m,t,h):=by unfold cmpI;split <;> (try split) <;> omega
 have h5:cmpI (zbr (n,s,g)) (zbr (m,t,h)) < 0↔zbr (n,s,g) < zbr (m,t,h):=by unfold cmpI;split <;> (try split) <;> omega
 simp only [decide_eq_true_eq]
 by_cases e1:cmpN n m=0
 ·have e1':=h2.1 e1;rw [if_neg (by simpa using e1)]
  by_cases e2:cmpI (zbr (n,s,g)) (zbr (m,t,h))=0
  ·have e2':=h4.1 e2;rw [if_neg (by simpa using e2),h3]
   constructor
   ·intro k;exact .inr ⟨e1',.inr ⟨e2',k⟩⟩
   ·rintro (k | ⟨-,k | ⟨-,k⟩⟩)
    ·omega
    ·omega
    ·exact k
  ·rw [if_pos e2,h5];have e2':=mt h4.2 e2
   constructor
   ·intro k;exact .inr ⟨e1',.inl k⟩
   ·rintro (k | ⟨-,k | ⟨k,-⟩⟩)
    ·omega
    ·exact k
    ·exact absurd k e2'
 ·rw [if_pos e1,h1];have e1':=mt h2.2 e1
  constructor
  ·exact .inl
  ·rintro (k | ⟨k,-⟩)
   ·exact k
   ·exact absurd k e1'
theorem zyz (a b:Cell):zdd a b=if ltOf cmpC a b=true then b else a:=by
 unfold zdd ltOf
 by_cases h:cmpC a b < 0 <;> simp [h]
theorem zdm (it:Item) (r:List Item):zac (it :: r)=it.2.map (fun d=>(it.1,d))++zac r:=rfl
theorem zsm {l:List Item} {q:zam} (h:q ∈ zac l):∃ it ∈ l,q.1=it.1/\q.2 ∈ it.2:=by
 obtain⟨it,hit,h⟩:=List.mem_flatMap.1 h;obtain⟨d,hd,he⟩:=List.mem_map.1 h;exact⟨it,hit,by rw [<- he],by rw [<- he];exact hd⟩
theorem zw4 (s:Str) {a b:Dot} (h:ltOf cmpD a b=true):ltOf cmpP (s,a) (s,b)=true:=cmpP_lt.2 (Or.inr (And.intro (Eq.refl s) h))
theorem zk6 {l:List Item} (h1:l.Pairwise fun a b=>ltS a.1 b.1=true) (h2:∀ it ∈ l,it.2.Pairwise fun a b=>ltOf cmpD a b=true):(zac l).Pairwise fun a b=>ltOf cmpP a b=true:=by
 induction l with
 | nil=>exact .nil
 | cons it r ih =>
  obtain⟨g1,g2⟩:=List.pairwise_cons.1 h1;rw [zdm];refine List.pairwise_append.2 ⟨?_,ih g2 fun x hx=>h2 x (List.mem_cons_of_mem _ hx),fun a ha b hb=>?_⟩
  ·rw [List.pairwise_map];refine List.Pairwise.imp (fun {a b} hd=>?_) (h2 it List.mem_cons_self);exact zw4 it.1 hd
  ·obtain⟨d,-,he⟩:=List.mem_map.1 ha;obtain⟨x,hx,hb1,-⟩:=zsm hb;refine cmpP_lt.2 (.inl ?_);rw [<- he,hb1];exact g1 x hx
theorem zmh {l:List Item} (h1:l.Pairwise fun a b=>ltS a.1 b.1=true) (h2:∀ it ∈ l,it.2 ≠ []/\it.2.Pairwise fun a b=>ltOf cmpD a b=true):zb3 (zac l)=l:=by
 have hp:=zk6 h1 fun it hit=>(h2 it hit).2
 have hs:zcq (ltOf cmpP) (zac l)=zac l:=by refine zc7 zih (zb1 _) (zcy zgl _) (hp.imp fun {a b} hab=>zcc fun hba=>?_);have hk:=zm9 _ _ _ hab hba;rw [zi0] at hk;cases hk
 unfold zb3;rw [hs];have hg:=zmg _ hp;have hpl:=zha (zac l);generalize zdu (zac l)=m at *;obtain⟨g1,g2⟩:=hg;have h2':∀ it ∈ l,it.2 ≠ []:=fun it hit=>(h2 it hit).1
 have g2':∀ it ∈ m,it.2 ≠ []:=fun it hit=>(g2 it hit).1
 clear h2 g2 hs hp
 have first:∀ {l:List Item},(l.Pairwise fun a b=>ltS a.1 b.1=true)->∀ {it:Item},it ∈ l->∀ d,(it.1,d) ∈ zac l↔d ∈ it.2:=by
  intro l hl it hit d;refine ⟨fun h=>?_,fun h=>zk5 hit h⟩;obtain⟨x,hx,hm⟩:=List.mem_flatMap.1 h;obtain⟨d',hd',he⟩:=List.mem_map.1 hm;injection he with e1 e2
  subst e2
  have:x=it:=by
   clear h hm hd'
   induction l with
   | nil=>cases hx
   | cons y r ih =>
    obtain⟨k1,k2⟩:=List.pairwise_cons.1 hl;rcases List.mem_cons.1 hx with rfl | hx'
    ·rcases List.mem_cons.1 hit with rfl | hi'
     ·rfl
     ·exact absurd e1 (zb0 (k1 it hi'))
    ·rcases List.mem_cons.1 hit with rfl | hi'
     ·exact absurd e1.symm (zb0 (k1 x hx'))
     ·exact ih k2 hi' hx'
  rw [<- this];exact hd'
 clear first
 induction l generalizing m with
 | nil =>
  cases m with
  | nil=>rfl
  | cons it r =>
   cases hd:it.2 with
   | nil=>exact absurd hd (g2' it (by simp))
   | cons d ds=>simp [zac,hd] at hpl
 | cons it r ih =>
  cases m with
  | nil =>
   cases hd:it.2 with
   | nil=>exact absurd hd (h2' it (by simp))
   | cons d ds=>simp [zac,hd] at hpl
  | cons jt s =>
   obtain⟨k1,k2⟩:=List.pairwise_cons.1 h1;obtain⟨k3,k4⟩:=List.pairwise_cons.1 g1
   have cut:∀ (t:Str) (ds es:List Dot) (a b:List zam),(∀ p ∈ a,p.1 ≠ t)->(∀ p ∈ b,p.1 ≠ t)->ds.map (fun d=>(t,d))++a=es.map (fun d=>(t,d))++b->ds=es/\a=b:=by
    intro t ds
    induction ds with
    | nil =>
     intro es a b ha hb h
     cases es with
     | nil=>exact⟨rfl,h⟩
     | cons e es=>simp only [List.map_nil,List.nil_append,List.map_cons,List.cons_append] at h;exact absurd rfl (ha (t,e) (by rw [h];simp))
    | cons d ds ihd =>
     intro es a b ha hb h
     cases es with
     | nil=>simp only [List.map_nil,List.nil_append,List.map_cons,List.cons_append] at h;exact absurd rfl (hb (t,d) (by rw [<- h];simp))
     | cons e es=>simp only [List.map_cons,List.cons_append,List.cons.injEq,Prod.mk.injEq,true_and] at h;obtain⟨r1,r2⟩:=ihd es a b ha hb h.2;exact⟨by rw [h.1,r1],r2⟩
   have hpl':jt.2.map (fun d=>(jt.1,d))++zac s=it.2.map (fun d=>(it.1,d))++zac r:=by simpa [zac] using hpl
   have ht:jt.1=it.1:=by
    cases hd:jt.2 with
    | nil=>exact absurd hd (g2' jt (by simp))
    | cons d ds =>
     cases he:it.2 with
     | nil=>exact absurd he (h2' it (by simp))
     | cons e es=>rw [hd,he] at hpl';simp only [List.map_cons,List.cons_append,List.cons.injEq,Prod.mk.injEq] at hpl';exact hpl'.1.1
   have ne:∀ {l:List Item} {t:Str},(∀ x ∈ l,ltS t x.1=true)->∀ p ∈ zac l,p.1 ≠ t:=by intro l t hl p hp;obtain⟨x,hx,hm⟩:=List.mem_flatMap.1 hp;obtain⟨d',-,rfl⟩:=List.mem_map.1 hm;exact (zb0 (hl x hx)).symm
   rw [ht] at hpl';obtain⟨r1,r2⟩:=cut it.1 _ _ _ _ (ne (ht ▸ k3)) (ne k1) hpl';have:=ih k2 s r2 k4 (fun x hx=>h2' x (List.mem_cons_of_mem _ hx)) (fun x hx=>g2' x (List.mem_cons_of_mem _ hx));rw [this]
   congr 1
   exact Prod.ext ht r1
theorem zpz {ks:List zam} {q:zam}:q ∈ zac (zb3 ks)↔q ∈ ks:=by
 unfold zb3;rw [zha,(zb1 ks).mem_iff]
end
end Go.Proofs.YtdikcgmdmcfpfaaGreat
