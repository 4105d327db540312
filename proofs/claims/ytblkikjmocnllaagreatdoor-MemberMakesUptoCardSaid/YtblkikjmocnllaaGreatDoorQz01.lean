/- Laws. -/
import Derived.WalkKit
import Derived.Lib.Hide
import Derived.Below
import Derived.Outline
import Derived.WalkLawsBesides
import Derived.WalkSpells
import Derived.IntWalk
import Derived.LoopTactic
import Derived.BigGuardPart
import Derived.Deep.RegionHeld3
import Derived.Deep.QuietTactic
import Derived.BigQuiet
set_option linter.unusedVariables false
set_option linter.unusedSimpArgs false
set_option maxRecDepth 100000
set_option maxHeartbeats 40000000
namespace Go.Proofs.YtblkikjmocnllaaGreatDoor
section
open Go.RowKit
abbrev Str:=List UInt8
abbrev St (s:Str):Value:=.string ⟨s.toArray⟩
abbrev U (n:Nat):Value:=.int .u64 (n:Int)
abbrev I (n:Int):Value:=.int .i64 n
abbrev Ext (w w':World):Prop:=Below w.heap.size w w'
theorem Ext.refl (w:World):Ext w w:=Below.refl _ _
theorem Ext.trans {w w1 w2:World} (h:Ext w w1) (k:Ext w1 w2):Ext w w2:=Below.trans h (Below.mono k h.size)
theorem Ext.alloc {w w1:World} (h:Ext w w1) (o:Obj):Ext w (w1.alloc o):=Below.alloc h h.size o
theorem Ext.drew {w w1:World} (h:Ext w w1):Ext w w1.drew:=Below.drew h
theorem Ext.drewN {w w1:World} (h:Ext w w1) (n:Nat):Ext w (w1.drewN n):=⟨h.os,h.tape,h.output,h.size,h.block⟩
theorem Ext.set {w w1:World} (h:Ext w w1) {p:Addr} (hp:w.heap.size<=p.block) (v:Value):Ext w (w1.setCell p v):=Below.setCell h hp v
theorem blk_of_cell {w:World} {b o:Nat} {v:Value} (h:w.cell? ⟨b,o,none⟩=some v):b < w.heap.size:=World.block_lt_of_cell? w ⟨b,o,none⟩ h
theorem Ext.cell {w w':World} (h:Ext w w') {b o:Nat} {v:Value} (hc:w.cell? ⟨b,o,none⟩=some v):w'.cell? ⟨b,o,none⟩=some v :=
 (Below.cell h (p:=⟨b,o,none⟩) (blk_of_cell hc)).trans hc
theorem Ext.frozen {w w':World} (h:Ext w w') {b o:Nat} (hb:b < w.heap.size):w'.frozen? ⟨b,o,none⟩=w.frozen? ⟨b,o,none⟩:=Below.frozen h (p:=⟨b,o,none⟩) hb
structure Shape (α:Type) where
 k:Nat
 rd:World->(Nat->Prop)->α->List Value->Prop
 len:∀ {w S x vs},rd w S x vs->vs.length=k
 one:∀ {w S x vs},rd w S x vs->∀ u ∈ vs,u.oneCell'=true
 keep:∀ {w w' S x vs},rd w S x vs->(∀ b,S b->b < w.heap.size->w'.heap[b]? = w.heap[b]?)->rd w' S x vs
 mono:∀ {w S S' x vs},rd w S x vs->(∀ b,b < w.heap.size->S b->S' b)->rd w S' x vs
def flat {α:Type} (k:Nat) (enc:α->List Value) (hk:∀ x,(enc x).length=k) (h1:∀ x,∀ u ∈ enc x,u.oneCell'=true):Shape α where
 k:=k
 rd _ _ x vs:=vs=enc x
 len h:=by rw [h];exact hk _
 one h:=by rw [h];exact h1 _
 keep h _:=h
 mono h _:=h
def Sl {α:Type} (T:Shape α) (w:World) (S:Nat->Prop) (v:Value) (l:List α):Prop :=
 ∃ A c,v=.slice A l.length c/\l.length<=c/\c<=9223372036854775807 /\
  ∀ pre x post,l=pre++x :: post->∃ b o vs,A=some ⟨b,o,none⟩/\S b/\T.rd w S x vs/\∀ j u,vs[j]? = some u->w.cell? ⟨b,o+pre.length * T.k+j,none⟩=some u
section
variable {α:Type} {T:Shape α} {w w':World} {S S':Nat->Prop} {v:Value} {l:List α}
theorem Sl.keep (hk:0 < T.k) (h:Sl T w S v l) (hs:∀ b,S b->b < w.heap.size->w'.heap[b]? = w.heap[b]?):Sl T w' S v l:=by
 obtain⟨A,c,hv,h1,h2,h3⟩:=h
 refine ⟨A,c,hv,h1,h2,fun pre x post hl=>?_⟩
 obtain⟨b,o,vs,hA,hS,hr,hc⟩:=h3 pre x post hl
 have hlen:=T.len hr
 have h0:=hc 0 (vs[0]'(by omega)) (List.getElem?_eq_getElem (by omega))
 have hb:=blk_of_cell h0
 exact⟨b,o,vs,hA,hS,T.keep hr hs,fun j u hj=>(World.cell?_of_block (a:=⟨b,_,none⟩) (hs b hS hb)).trans (hc j u hj)⟩
theorem Sl.mono (hk:0 < T.k) (h:Sl T w S v l) (hs:∀ b,b < w.heap.size->S b->S' b):Sl T w S' v l:=by
 obtain⟨A,c,hv,h1,h2,h3⟩:=h
 refine ⟨A,c,hv,h1,h2,fun pre x post hl=>?_⟩
 obtain⟨b,o,vs,hA,hS,hr,hc⟩:=h3 pre x post hl
 have hlen:=T.len hr
 have hb:=blk_of_cell (hc 0 (vs[0]'(by omega)) (List.getElem?_eq_getElem (by omega)))
 exact⟨b,o,vs,hA,hs b hb hS,T.mono hr hs,hc⟩
theorem Sl.ext (hk:0 < T.k) (h:Sl T w S v l) (he:Ext w w'):Sl T w' S v l:=h.keep hk fun b _ hb=>he.block b hb
theorem Sl.one (h:Sl T w S v l):v.oneCell'=true:=by
 obtain⟨A,c,rfl,-⟩:=h
 rfl
theorem Sl.form (h:Sl T w S v l):∃ A c,v=.slice A l.length c/\l.length<=c/\c<=9223372036854775807:=by
 obtain⟨A,c,h0,h1,h2,-⟩:=h
 exact⟨A,c,h0,h1,h2⟩
theorem Sl.nil (A:Option Addr) (c:Nat) (hc:c<=9223372036854775807):Sl T w S (.slice A 0 c) [] :=
 ⟨A,c,rfl,Nat.zero_le _,hc,fun pre x post hl=>by simp at hl⟩
theorem Sl.at_ (h:Sl T w S v l) {pre post:List α} {x:α} (hl:l=pre++x :: post) :
  ∃ b o vs c,v=.slice (some ⟨b,o,none⟩) l.length c/\S b/\T.rd w S x vs/\∀ j u,vs[j]? = some u->w.cell? ⟨b,o+pre.length * T.k+j,none⟩=some u:=by
 obtain⟨A,c,hv,h1,h2,h3⟩:=h
 obtain⟨b,o,vs,rfl,hS,hr,hc⟩:=h3 pre x post hl
 exact⟨b,o,vs,c,hv,hS,hr,hc⟩
end
def slT {α:Type} (T:Shape α) (hk:0 < T.k):Shape (List α) where
 k:=1
 rd w S l vs:=∃ v,vs = [v]/\Sl T w S v l
 len h:=by obtain⟨v,rfl,-⟩:=h;rfl
 one h:=by
  obtain⟨v,rfl,h⟩:=h
  intro u hu
  rw [List.mem_singleton.1 hu]
  exact h.one
 keep h hs:=by obtain⟨v,rfl,h⟩:=h;exact⟨v,rfl,h.keep hk hs⟩
 mono h hs:=by obtain⟨v,rfl,h⟩:=h;exact⟨v,rfl,h.mono hk hs⟩
def Own (w:World) (base:Nat) (T k:Nat) (v:Value) (n:Nat) (xs:List Value):Prop :=
 xs.length=n * k/\((∃ A,v=.slice A 0 0/\n=0) ∨
  ∃ g cap cur,v=.slice (some ⟨g,0,none⟩) n cap/\base<=g/\w.heap[g]? = some (.cells cur T (0,0))/\n<=cap/\cap<=9223372036854775807/\cur.size=cap * k/\cur.toList.take (n * k)=xs)
def ownBlk (v:Value) (b:Nat):Prop:=∃ g n c,v=.slice (some ⟨g,0,none⟩) n c/\0 < c/\b=g
section
variable {w w':World} {base T k n:Nat} {v:Value} {xs:List Value}
theorem Own.of_ownsRow (h:w.ownsRow base T k v n xs):Own w base T k v n xs:=by
 refine ⟨h.1,?_⟩
 rcases h.2 with ⟨rfl,rfl⟩ | ⟨g,cap,cur,hv,hb,hg,hn,hm,hs,ht⟩
 ·exact .inl ⟨_,rfl,rfl⟩
 ·exact .inr ⟨g,cap,cur,hv,hb,hg,hn,by simpa [maxLen] using hm,hs,ht⟩
theorem Own.nil (w:World) (base T k:Nat) (A:Option Addr):Own w base T k (.slice A 0 0) 0 []:=⟨by simp,.inl ⟨A,rfl,rfl⟩⟩
theorem Own.form (h:Own w base T k v n xs):∃ A c,v=.slice A n c/\n<=c/\c<=9223372036854775807:=by
 rcases h.2 with ⟨A,rfl,rfl⟩ | ⟨g,cap,cur,rfl,hb,hg,hn,hm,hs,ht⟩
 ·exact⟨A,0,rfl,Nat.le_refl _,by omega⟩
 ·exact⟨_,cap,rfl,hn,hm⟩
theorem Own.pos (h:Own w base T k v n xs) (hn:0 < n):∃ g cap cur,v=.slice (some ⟨g,0,none⟩) n cap/\base<=g/\g < w.heap.size/\w.heap[g]? = some (.cells cur T (0,0))/\n<=cap/\cap<=9223372036854775807/\cur.size=cap * k/\cur.toList.take (n * k)=xs:=by
 rcases h.2 with ⟨A,rfl,rfl⟩ | ⟨g,cap,cur,rfl,hb,hg,hn,hm,hs,ht⟩
 ·omega
 ·exact⟨g,cap,cur,rfl,hb,(Array.getElem?_eq_some_iff.1 hg).1,hg,hn,hm,hs,ht⟩
theorem Own.keep (h:Own w base T k v n xs) (hs:∀ b,ownBlk v b->b < w.heap.size->w'.heap[b]? = w.heap[b]?):Own w' base T k v n xs:=by
 refine ⟨h.1,?_⟩
 rcases h.2 with h0 | ⟨g,cap,cur,rfl,hb,hg,hn,hm,hs',ht⟩
 ·exact .inl h0
 ·by_cases hc:cap=0
  ·subst hc
   exact .inl ⟨_,by rw [Nat.le_zero.1 hn],Nat.le_zero.1 hn⟩
  ·exact .inr ⟨g,cap,cur,rfl,hb,(hs g ⟨g,n,cap,rfl,by omega,rfl⟩ (Array.getElem?_eq_some_iff.1 hg).1).trans hg,hn,hm,hs',ht⟩
theorem Own.ext (h:Own w base T k v n xs) (he:Ext w w'):Own w' base T k v n xs:=h.keep fun b _ hb=>he.block b hb
theorem Own.alloc (h:Own w base T k v n xs) (o:Obj):Own (w.alloc o) base T k v n xs:=h.ext ((Ext.refl w).alloc o)
theorem Own.base_le (h:Own w base T k v n xs) {b:Nat} (hb:ownBlk v b):base<=b/\b < w.heap.size:=by
 obtain⟨g,n',c,hv,hc,rfl⟩:=hb
 rcases h.2 with ⟨A,rfl,-⟩ | ⟨g',cap,cur,rfl,hb,hg,-⟩
 ·cases hv;omega
 ·cases hv
  exact⟨hb,(Array.getElem?_eq_some_iff.1 hg).1⟩
theorem Own.lower (h:Own w base T k v n xs) {base':Nat} (hb:base'<=base):Own w base' T k v n xs:=by
 refine ⟨h.1,?_⟩
 rcases h.2 with h0 | ⟨g,cap,cur,rfl,hb',rest⟩
 ·exact .inl h0
 ·exact .inr ⟨g,cap,cur,rfl,Nat.le_trans hb hb',rest⟩
theorem Own.cell (h:Own w base T k v n xs) {g c:Nat} (hv:v=.slice (some ⟨g,0,none⟩) n c) {j:Nat} {u:Value} (hj:xs[j]? = some u):w.cell? ⟨g,j,none⟩=some u:=by
 have hjl:j < xs.length:=(List.getElem?_eq_some_iff.1 hj).1
 rw [h.1] at hjl
 have hn:0 < n:=by
  rcases Nat.eq_zero_or_pos n with h0 | h0
  ·subst h0;simp at hjl
  ·exact h0
 obtain⟨g',cap,cur,rfl,-,-,hg,-,-,-,ht⟩:=h.pos hn
 cases hv
 rw [cell_of_row w g j cur T (0,0) hg]
 rw [<- ht,List.getElem?_take] at hj
 split at hj
 ·simpa using hj
 ·omega
end
def Src (w:World) (k:Nat) (A:Option Addr) (m:Nat) (news:List Value):Prop :=
 news.length=m * k/\(∀ u ∈ news,u.oneCell'=true)/\(0 < m->∃ b o,A=some ⟨b,o,none⟩/\∀ j u,news[j]? = some u->w.cell? ⟨b,o+j,none⟩=some u)
theorem add_none (b o j:Nat):(⟨b,o,none⟩:Addr).add j=⟨b,o+j,none⟩:=by
 unfold Addr.add
 split
 ·rename_i h;subst h;rfl
 ·rfl
section
variable {P:Program} (w:World)
theorem run_append_none (t ty e:TypeId) (i:TypeInfo) (ht:P.underlying t=some (.slice e)) (hi:P.info? e=some i)
  (B A:Option Addr) (n cap c:Nat) (hn:n<=cap):(Builtin.append_ #[t,t] ty #[.slice B n cap,.slice A 0 c]).run P w=.ok (.slice B n cap) w:=by
 have hf:(Builtin.firstCells i.size 0 (.slice A 0 c)).run P w=.ok #[] w:=by
  cases A <;> simp [Builtin.firstCells,loadCells,loadCellsFrom]
 cases B <;> simp [Builtin.append_,run_underlying ht,sizeOf,typeInfo,hi,Builtin.lenOf,hn,hf,storeCells]
theorem run_append_Own (base:Nat) (t ty e:TypeId) (i:TypeInfo) (z:Value) (size bytes:Nat) (ht:P.underlying t=some (.slice e)) (hi:P.info? e=some i) (hz:i.zero=some z)
  (hsize:i.size=size) (hby:i.bytes=bytes) (hzs:z.cells.size=size) (hsz:0 < size)
  (v:Value) (n:Nat) (xs:List Value) (hown:Own w base e size v n xs)
  (A:Option Addr) (m c:Nat) (news:List Value) (hsrc:Src w size A m news)
  (hbytes:(n+m) * bytes<=140737488355328) (h63:n+m<=9223372036854775807) (hbase:base<=w.heap.size) :
  ∃ v' w',(Builtin.append_ #[t,t] ty #[v,.slice A m c]).run P w=.ok v' w'/\Own w' base e size v' (n+m) (xs++news) /\
   w'.os=w.os/\w'.tape=w.tape/\w'.output=w.output/\w.heap.size<=w'.heap.size/\(∀ b,b < w.heap.size->¬ ownBlk v b->w'.heap[b]? = w.heap[b]?) /\
   (∀ b,ownBlk v' b->ownBlk v b ∨ b=w.heap.size):=by
 rcases Nat.eq_zero_or_pos m with hm | hm
 ·subst hm
  have hn:news = []:=List.eq_nil_of_length_eq_zero (by simpa using hsrc.1)
  subst hn
  obtain⟨B,cap,rfl,hnc,_⟩:=hown.form
  refine ⟨_,w,run_append_none (P:=P) w t ty e i ht hi B A n cap c hnc,by simpa using hown,rfl,rfl,rfl,Nat.le_refl _,fun _ _ _=>rfl,fun b hb=>.inl hb⟩
 ·obtain⟨b,o,rfl,hcells⟩:=hsrc.2.2 hm
  have hc':∀ j u,news[j]? = some u->w.cell? ((⟨b,o,none⟩:Addr).add j)=some u:=fun j u hj=>by rw [add_none];exact hcells j u hj
  rcases hown.2 with ⟨B,rfl,rfl⟩ | ⟨g,cap,cur,rfl,hb,hg,hn,hcm,hs,htk⟩
  ·have hx:xs = []:=List.eq_nil_of_length_eq_zero (by simpa using hown.1)
   subst hx
   subst hsize
   subst hby
   have hgr:∀ (w2:World),w2=w.drew.alloc (.cells (news.toArray++Builtin.zeroCells z.cells (grownCap w m 0 e - m)) e) ->
     Own w2 base e i.size (.slice (some ⟨w.heap.size,0,none⟩) m (grownCap w m 0 e)) m news:=by
    rintro w2 rfl
    have hge:=grownCap_ge w m 0 e
    have hcm:=grownCap_le_maxLen w m 0 e (by simp only [maxLen];omega)
    refine ⟨hsrc.1,.inr ⟨w.heap.size,_,_,rfl,hbase,heap_alloc_new w.drew _,hge,by simpa [maxLen] using hcm,?_,?_⟩⟩
    ·simp only [Array.size_append,List.size_toArray,size_zeroCells,hzs,hsrc.1,<- Nat.add_mul]
     congr 1
     omega
    ·simp only [Array.toList_append]
     rw [<- hsrc.1]
     exact List.take_left
   refine ⟨.slice (some ⟨w.heap.size,0,none⟩) m (grownCap w m 0 e),w.drew.alloc (.cells (news.toArray++Builtin.zeroCells z.cells (grownCap w m 0 e - m)) e),?_,?_,rfl,rfl,rfl,by simp,?_,?_⟩
   ·cases B with
    | none=>exact run_append_nil (P:=P) w t ty e i z ht hi hz ⟨b,o,none⟩ m c news hsrc.1 hc' hm (by omega) (by have:=hbytes;rw [Nat.zero_add] at this;omega)
    | some B =>
     have:=run_append_grow (P:=P) w t ty e i z ht hi hz B 0 0 [] (by simp) (by simp) ⟨b,o,none⟩ m c news hsrc.1 hc' (by omega) (by omega) (growslice_fits (by omega) (by simpa using hbytes))
     simpa using this
   ·simpa using hgr _ rfl
   ·intro k hk _;exact Go.heap_alloc_old w.drew _ hk
   ·rintro k ⟨g,n',c',he,_,rfl⟩
    cases he
    exact .inr rfl
  ·have ho:w.ownsRow base e size (.slice (some ⟨g,0,none⟩) n cap) n xs:=⟨hown.1,.inr ⟨g,cap,cur,rfl,hb,hg,hn,by simp only [maxLen];omega,hs,htk⟩⟩
   by_cases hroom:n+m<=cap
   ·subst hsize
    have hfit:n * i.size+news.length<=cur.size:=by rw [hsrc.1,hs,<- Nat.add_mul];exact Nat.mul_le_mul_right _ hroom
    have hr:=run_append_room (P:=P) w t ty e i ht hi g n cap cur hg ⟨b,o,none⟩ m c news hsrc.1 hc' hsrc.2.1 hroom hfit
    have hlen:(xs++news).length=(n+m) * i.size:=by rw [List.length_append,hown.1,hsrc.1,Nat.add_mul]
    refine ⟨_,_,hr,⟨hlen,.inr ⟨g,cap,_,rfl,hb,setRow_heap w g cur _ e _ hg,hroom,hcm,?_,?_⟩⟩,rfl,rfl,rfl,by simp [World.setRow],?_,?_⟩
    ·simp only [List.size_toArray,List.length_append,List.length_take,List.length_drop,Array.length_toList]
     omega
    ·rw [htk,<- hlen]
     exact List.take_left
    ·intro k hk hne
     exact setRow_other w g k _ (fun e=>hne ⟨g,n,cap,rfl,by omega,e⟩)
    ·rintro k ⟨g',n',c',he,hc',rfl⟩
     cases he
     exact .inl ⟨_,_,_,rfl,hc',rfl⟩
   ·subst hsize
    subst hby
    have holds:∀ j u,xs[j]? = some u->w.cell? ((⟨g,0,none⟩:Addr).add j)=some u:=ho.cells (g:=g) rfl
    have hr:=run_append_grow (P:=P) w t ty e i z ht hi hz ⟨g,0,none⟩ n cap xs hown.1 holds ⟨b,o,none⟩ m c news hsrc.1 hc' (by omega) (by omega) (growslice_fits (by omega) hbytes)
    have hge:=grownCap_ge w (n+m) cap e
    have hcm':=grownCap_le_maxLen w (n+m) cap e (by simp only [maxLen];omega)
    have hlen:(xs++news).length=(n+m) * i.size:=by rw [List.length_append,hown.1,hsrc.1,Nat.add_mul]
    refine ⟨_,_,hr,⟨hlen,.inr ⟨w.heap.size,_,_,rfl,hbase,heap_alloc_new w.drew _,hge,by simpa [maxLen] using hcm',?_,?_⟩⟩,rfl,rfl,rfl,by simp,?_,?_⟩
    ·simp only [Array.size_append,List.size_toArray,size_zeroCells,hzs,hown.1,hsrc.1,<- Nat.add_mul]
     congr 1
     omega
    ·simp only [Array.toList_append,List.append_assoc]
     rw [<- List.append_assoc,<- hlen]
     exact List.take_left
    ·intro k hk _;exact Go.heap_alloc_old w.drew _ hk
    ·rintro k ⟨g',n',c',he,hc',rfl⟩
     cases he
     exact .inr rfl
end
structure Grew (w w':World) (v v':Value):Prop where
 os:w'.os=w.os
 tape:w'.tape=w.tape
 output:w'.output=w.output
 size:w.heap.size<=w'.heap.size
 same:∀ b,b < w.heap.size->¬ ownBlk v b->w'.heap[b]? = w.heap[b]?
 blk:∀ b,ownBlk v' b->ownBlk v b ∨ b=w.heap.size
theorem Ext.grew {w0 w w':World} {v v':Value} (h:Ext w0 w) (hg:Grew w w' v v') (hb:∀ b,ownBlk v b->w0.heap.size<=b):Ext w0 w' :=
 ⟨hg.os.trans h.os,hg.tape.trans h.tape,hg.output.trans h.output,Nat.le_trans h.size hg.size,fun k hk =>
  (hg.same k (Nat.lt_of_lt_of_le hk h.size) (fun he=>by have:=hb k he;omega)).trans (h.block k hk)⟩
theorem Ext.grewOwn {w0 w w':World} {v v':Value} {base T k n:Nat} {xs:List Value} (h:Ext w0 w) (hg:Grew w w' v v') (ho:Own w base T k v n xs) (hb:w0.heap.size<=base):Ext w0 w' :=
 h.grew hg fun _ hb'=>Nat.le_trans hb (ho.base_le hb').1
theorem wpList_append_Own {P:Program} {w:World} {ops:Array Oper} {rest:List Oper} {o:Oper} {a:Act} {Q:Exit->Act->World->Prop} (hgd:o.guard=none) (s x:Operand) (t:TypeId)
  (ho:o.op=.call { callee:=.builtin .append,args:=#[s,x],argTypes:=#[t,t] })
  (base e size bytes:Nat) (z:Value) (ht:P.underlying t=some (.slice e)) (hinfo:(P.info? e).map (fun i=>(i.zero,i.size,i.bytes))=some (some z,size,bytes)) (hzs:z.cells.size=size) (hsz:0 < size)
  (v:Value) (n:Nat) (xs:List Value) (hs:a.eval s=v) (hown:Own w base e size v n xs)
  (A:Option Addr) (m c:Nat) (news:List Value) (hx:a.eval x=.slice A m c) (hsrc:Src w size A m news)
  (hbytes:(n+m) * bytes<=140737488355328) (h63:n+m<=9223372036854775807) (hbase:base<=w.heap.size)
  (h:∀ v' w',Own w' base e size v' (n+m) (xs++news)->Grew w w' v v'->wpList P ops Q rest (a.put o.dst v') w'):wpList P ops Q (o :: rest) a w:=by
 obtain⟨i,hi,hz,hsize,hby⟩:=info_parts hinfo
 obtain⟨v',w',hr,h2,g1,g2,g3,g4,g5,g6⟩:=run_append_Own (P:=P) w base t o.type e i z size bytes ht hi hz hsize hby hzs hsz v n xs hown A m c news hsrc hbytes h63 hbase
 refine wpList_plain hgd fun K hK=>?_
 unfold Oper.wp execOp
 simp only [ho,resolve,invoke,builtin,Sem.run_bind,Sem.run_pure,Result.andThen_ok,List.map_toArray,List.map_cons,List.map_nil,hs,hx,hr]
 exact hK _ _ (h v' w' h2 ⟨g1,g2,g3,g4,g5,g6⟩)
theorem Src.one {w:World} {k b:Nat} {T:TypeId} {vs:List Value} (hb:w.heap[b]? = some (.cells vs.toArray T (0,0))) (hk:vs.length=k) (h1:∀ u ∈ vs,u.oneCell'=true):Src w k (some ⟨b,0,none⟩) 1 vs :=
 ⟨by omega,h1,fun _=>⟨b,0,rfl,fun j u hj=>by rw [cell_of_row w b (0+j) vs.toArray T (0,0) hb];simpa using hj⟩⟩
theorem Src.new {w:World} {k:Nat} {T:TypeId} {vs:List Value} (hk:vs.length=k) (h1:∀ u ∈ vs,u.oneCell'=true):Src (w.alloc (.cells vs.toArray T)) k (some ⟨w.heap.size,0,none⟩) 1 vs :=
 Src.one (Go.heap_alloc_new w _) hk h1
def OwnL {α:Type} (T:Shape α) (tid:Nat) (w:World) (base:Nat) (S:Nat->Prop) (v:Value) (l:List α):Prop :=
 ∃ vss:List (List Value),vss.length=l.length/\(∀ (i:Nat) x vs,l[i]? = some x->vss[i]? = some vs->T.rd w S x vs)/\Own w base tid T.k v l.length vss.flatten
theorem flatten_at {α:Type} {k:Nat}:∀ (vss:List (List α)) (i j:Nat) (vs:List α) (u:α),(∀ x ∈ vss,x.length=k)->vss[i]? = some vs->vs[j]? = some u->vss.flatten[i * k+j]? = some u
 | [],i,j,vs,u,_,hi,_=>by simp at hi
 | a :: r,0,j,vs,u,hk,hi,hj=>by
  simp at hi
  subst hi
  have hjl:=(List.getElem?_eq_some_iff.1 hj).1
  rw [List.flatten_cons,Nat.zero_mul,Nat.zero_add,List.getElem?_append_left hjl]
  exact hj
 | a :: r,i+1,j,vs,u,hk,hi,hj=>by
  have ha:a.length=k:=hk a (by simp)
  rw [List.flatten_cons,List.getElem?_append_right (by rw [ha,Nat.add_mul];omega),ha,show (i+1) * k+j - k=i * k+j by rw [Nat.add_mul];omega]
  exact flatten_at r i j vs u (fun x hx=>hk x (by simp [hx])) (by simpa using hi) hj
section
variable {α:Type} {T:Shape α} {tid:Nat} {w w':World} {base:Nat} {S S':Nat->Prop} {v:Value} {l:List α}
theorem OwnL.nil (w:World) (A:Option Addr):OwnL T tid w base S (.slice A 0 0) []:=⟨[],rfl,by simp,Own.nil w base tid T.k A⟩
theorem OwnL.own (h:OwnL T tid w base S v l):∃ xs,Own w base tid T.k v l.length xs:=by obtain⟨vss,_,_,h⟩:=h;exact⟨_,h⟩
theorem OwnL.form (h:OwnL T tid w base S v l):∃ A c,v=.slice A l.length c/\l.length<=c/\c<=9223372036854775807:=by obtain⟨_,h⟩:=h.own;exact h.form
theorem OwnL.keep (h:OwnL T tid w base S v l) (hs:∀ b,S b->b < w.heap.size->w'.heap[b]? = w.heap[b]?) (ho:∀ b,ownBlk v b->b < w.heap.size->w'.heap[b]? = w.heap[b]?):OwnL T tid w' base S v l:=by
 obtain⟨vss,h1,h2,h3⟩:=h
 exact⟨vss,h1,fun i x vs hi hv=>T.keep (h2 i x vs hi hv) hs,h3.keep ho⟩
theorem OwnL.ext (h:OwnL T tid w base S v l) (he:Ext w w'):OwnL T tid w' base S v l:=h.keep (fun b _ hb=>he.block b hb) (fun b _ hb=>he.block b hb)
theorem OwnL.base_le (h:OwnL T tid w base S v l) {b:Nat} (hb:ownBlk v b):base<=b/\b < w.heap.size:=by
 obtain⟨_,h⟩:=h.own
 exact h.base_le hb
theorem OwnL.sl (h:OwnL T tid w base S v l) (hk:0 < T.k) (hs:∀ b,b < w.heap.size->S b->S' b) (ho:∀ b,base<=b->b < w.heap.size->S' b):Sl T w S' v l:=by
 obtain⟨vss,h1,h2,h3⟩:=h
 obtain⟨A,c,rfl,hc1,hc2⟩:=h3.form
 refine ⟨A,c,rfl,hc1,hc2,fun pre x post hl=>?_⟩
 have hlen:pre.length < l.length:=by rw [hl];simp
 have hx:l[pre.length]? = some x:=by rw [hl];simp
 have hv:vss[pre.length]? = some (vss[pre.length]'(by omega)):=List.getElem?_eq_getElem (by omega)
 have hr:=h2 _ _ _ hx hv
 obtain⟨g,cap,cur,hv',hb,hg,-⟩:=h3.pos (by omega)
 injection hv' with e1 e2 e3
 subst e1
 refine ⟨g,0,_,rfl,ho g hb hg,T.mono hr hs,fun j u hj=>?_⟩
 rw [Nat.zero_add]
 refine h3.cell (g:=g) (c:=c) rfl (flatten_at vss _ j _ u ?_ hv hj)
 intro y hy
 obtain⟨i,hi⟩:=List.getElem?_of_mem hy
 have hi':i < l.length:=by rw [<- h1];exact (List.getElem?_eq_some_iff.1 hi).1
 exact T.len (h2 i _ y (List.getElem?_eq_getElem hi') hi)
theorem OwnL.snoc {vss:List (List Value)} {v':Value} {x:α} {vs:List Value} (h1:vss.length=l.length) (h2:∀ (i:Nat) x vs,l[i]? = some x->vss[i]? = some vs->T.rd w S x vs)
  (hx:T.rd w S x vs) (h3:Own w base tid T.k v' (l.length+1) (vss.flatten++vs)):OwnL T tid w base S v' (l++[x]):=by
 refine ⟨vss++[vs],by simp [h1],fun i y ys hi hv=>?_,by simpa using h3⟩
 by_cases hil:i < l.length
 ·rw [List.getElem?_append_left hil] at hi
  rw [List.getElem?_append_left (by omega)] at hv
  exact h2 i y ys hi hv
 ·rw [List.getElem?_append_right (by omega)] at hi
  rw [List.getElem?_append_right (by omega)] at hv
  have hi0:i - l.length=0:=by
   have:=(List.getElem?_eq_some_iff.1 hi).1
   simp at this
   exact this
  rw [hi0] at hi
  rw [h1,hi0] at hv
  simp at hi hv
  subst hi;subst hv
  exact hx
end
section
variable {α:Type} {k:Nat} {enc:α->List Value} {hk:∀ x,(enc x).length=k} {h1:∀ x,∀ u ∈ enc x,u.oneCell'=true} {tid:Nat} {w w':World} {base:Nat} {S S':Nat->Prop} {v:Value} {l:List α}
theorem OwnL.flat_iff:OwnL (flat k enc hk h1) tid w base S v l↔Own w base tid k v l.length (l.flatMap enc):=by
 constructor
 ·rintro⟨vss,e1,e2,e3⟩
  have:vss=l.map enc:=by
   apply List.ext_getElem?
   intro i
   by_cases hi:i < l.length
   ·rw [List.getElem?_map,List.getElem?_eq_getElem hi,List.getElem?_eq_getElem (by omega:i < vss.length)]
    simp only [Option.map_some]
    exact congrArg some (e2 i _ _ (List.getElem?_eq_getElem hi) (List.getElem?_eq_getElem (by omega)))
   ·rw [List.getElem?_eq_none (by omega),List.getElem?_eq_none (by simp;omega)]
  subst this
  rw [List.flatMap_def]
  exact e3
 ·intro h
  refine ⟨l.map enc,by simp,fun i x vs hi hv=>?_,by rw [<- List.flatMap_def];exact h⟩
  rw [List.getElem?_map,hi] at hv
  simp at hv
  exact hv.symm
end
theorem Sl.src {α:Type} {T:Shape α} {w:World} {S:Nat->Prop} {A:Option Addr} {n c:Nat} {l:List α} (h:Sl T w S (.slice A n c) l) :
  ∃ vss:List (List Value),vss.length=l.length/\(∀ (i:Nat) x vs,l[i]? = some x->vss[i]? = some vs->T.rd w S x vs)/\Src w T.k A l.length vss.flatten:=by
 have key:∀ m,m<=l.length->∃ vss:List (List Value),vss.length=m/\(∀ (i:Nat) x vs,i < m->l[i]? = some x->vss[i]? = some vs->T.rd w S x vs)/\vss.flatten.length=m * T.k/\(∀ u ∈ vss.flatten,u.oneCell'=true) /\
   (0 < m->∃ b o,A=some ⟨b,o,none⟩/\∀ j u,vss.flatten[j]? = some u->w.cell? ⟨b,o+j,none⟩=some u):=by
  intro m
  induction m with
  | zero=>exact fun _=>⟨[],rfl,by omega,by simp,by simp,by omega⟩
  | succ m ih =>
   intro hm
   obtain⟨vss,h1,h2,h3,h4,h5⟩:=ih (by omega)
   have hsplit:l=l.take m++l[m]'(by omega) :: l.drop (m+1):=by
    rw [List.getElem_cons_drop,List.take_append_drop]
   obtain⟨b,o,vs,c',hv,hS,hr,hc⟩:=h.at_ hsplit
   injection hv with e1 e2 e3
   subst e1
   have hlm:(l.take m).length=m:=by simp;omega
   rw [hlm] at hc
   refine ⟨vss++[vs],by simp [h1],fun i x ys hi hx hy=>?_,by simp [h3,T.len hr,Nat.add_mul],fun u hu=>?_,fun _=>⟨b,o,rfl,fun j u hj=>?_⟩⟩
   ·by_cases him:i < m
    ·rw [List.getElem?_append_left (by omega)] at hy
     exact h2 i x ys him hx hy
    ·have:i=m:=by omega
     subst this
     rw [List.getElem?_append_right (by omega),h1] at hy
     simp at hy
     subst hy
     rw [List.getElem?_eq_getElem (by omega)] at hx
     cases hx
     exact hr
   ·simp at hu
    rcases hu with ⟨y,hy,hu⟩ | hu
    ·exact h4 u (by simp;exact⟨y,hy,hu⟩)
    ·exact T.one hr u hu
   ·rw [List.flatten_append] at hj
    by_cases hjl:j < m * T.k
    ·rw [List.getElem?_append_left (by omega)] at hj
     have hm0:0 < m:=by
      rcases Nat.eq_zero_or_pos m with h0 | h0
      ·subst h0;simp at hjl
      ·exact h0
     obtain⟨b',o',e,hc'⟩:=h5 hm0
     cases e
     exact hc' j u hj
    ·rw [List.getElem?_append_right (by omega),h3] at hj
     have:=hc (j - m * T.k) u (by simpa using hj)
     rwa [show o+m * T.k+(j - m * T.k)=o+j by omega] at this
 obtain⟨vss,h1,h2,h3,h4,h5⟩:=key l.length (Nat.le_refl _)
 exact⟨vss,h1,fun i x vs hx=>h2 i x vs (List.getElem?_eq_some_iff.1 hx).1 hx,h3,h4,h5⟩
theorem Src.keep2 {w w':World} {k m:Nat} {A:Option Addr} {news:List Value} (h:Src w k A m news) (hb:∀ b,b < w.heap.size->w'.heap[b]? = w.heap[b]?):Src w' k A m news :=
 ⟨h.1,h.2.1,fun hm=>by
  obtain⟨b,o,rfl,hc⟩:=h.2.2 hm
  exact⟨b,o,rfl,fun j u hj=>(World.cell?_of_block (a:=⟨b,o+j,none⟩) (hb b (blk_of_cell (hc j u hj)))).trans (hc j u hj)⟩⟩
theorem Src.ext {w w':World} {k m:Nat} {A:Option Addr} {news:List Value} (h:Src w k A m news) (he:Ext w w'):Src w' k A m news:=h.keep2 fun b hb=>he.block b hb
def RowIs (w:World) (g T:Nat) (xs tail:List Value):Prop:=w.heap[g]? = some (.cells (xs++tail).toArray T (0,0))
section
variable {w w':World} {g T:Nat} {xs tail:List Value}
theorem RowIs.lt (h:RowIs w g T xs tail):g < w.heap.size:=(Array.getElem?_eq_some_iff.1 h).1
theorem RowIs.cell (h:RowIs w g T xs tail) {j:Nat} {u:Value} (hj:xs[j]? = some u):w.cell? ⟨g,j,none⟩=some u:=by
 rw [cell_of_row w g j _ T (0,0) h]
 have:=(List.getElem?_eq_some_iff.1 hj).1
 simpa [List.getElem?_append_left this] using hj
theorem RowIs.frozen (h:RowIs w g T xs tail) (j:Nat):w.frozen? ⟨g,j,none⟩=false:=by
 simp [World.frozen?,show w.heap[g]? = _ from h]
theorem RowIs.keep (h:RowIs w g T xs tail) (hs:w'.heap[g]? = w.heap[g]?):RowIs w' g T xs tail:=hs.trans h
theorem RowIs.ext (h:RowIs w g T xs tail) (he:Ext w w'):RowIs w' g T xs tail:=h.keep (he.block g h.lt)
theorem RowIs.alloc (h:RowIs w g T xs tail) (o:Obj):RowIs (w.alloc o) g T xs tail:=h.ext ((Ext.refl w).alloc o)
theorem RowIs.other (h:RowIs w g T xs tail) {p:Addr} (hp:p.block ≠ g) (u:Value):RowIs (w.setCell p u) g T xs tail:=h.keep (Below.heap_setCell w p u g hp.symm)
theorem RowIs.set (h:RowIs w g T xs tail) {j:Nat} (hj:j < xs.length) (u:Value):RowIs (w.setCell ⟨g,j,none⟩ u) g T (xs.set j u) tail:=by
 unfold RowIs at h ⊢
 simp only [World.setCell,Array.getElem?_modify,h,if_true,Option.map_some,Option.isSome_none,Bool.false_eq_true,if_false]
 congr 2
 apply Array.ext'
 simp [List.set_append,hj]
theorem RowIs.setRow (h:RowIs w g T xs tail) (ys:List Value):RowIs (w.setRow g (ys++tail).toArray) g T ys tail:=setRow_heap w g _ _ T (0,0) h
theorem Own.row {base k n:Nat} {v:Value} (h:Own w base T k v n xs) (hn:0 < n):∃ g cap tail,v=.slice (some ⟨g,0,none⟩) n cap/\base<=g/\RowIs w g T xs tail/\n<=cap/\cap<=9223372036854775807/\(xs++tail).length=cap * k:=by
 obtain⟨g,cap,cur,hv,hb,hg,hh,hc,hm,hs,ht⟩:=h.pos hn
 refine ⟨g,cap,cur.toList.drop (n * k),hv,hb,?_,hc,hm,?_⟩
 ·unfold RowIs
  rw [<- ht,List.take_append_drop]
  exact hh
 ·rw [<- ht,List.take_append_drop]
  simpa using hs
theorem RowIs.own {base k n cap:Nat} {ys:List Value} (h:RowIs w g T ys tail) (hb:base<=g) (hn:n<=cap) (hm:cap<=9223372036854775807) (hl:(ys++tail).length=cap * k) (hx:ys.take (n * k)=xs) (hlen:xs.length=n * k):Own w base T k (.slice (some ⟨g,0,none⟩) n cap) n xs:=by
 refine ⟨hlen,.inr ⟨g,cap,_,rfl,hb,h,hn,hm,by simpa using hl,?_⟩⟩
 rw [<- hx] at hlen ⊢
 have:n * k<=ys.length:=by rw [List.length_take] at hlen;omega
 simp [List.take_append_of_le_length this]
end
theorem run_clear_row {P:Program} {w:World} {g t T k o n c:Nat} {i:TypeInfo} {z:Value} {xs tail:List Value} (ht:P.underlying t=some (.slice T)) (hi:P.info? T=some i) (hz:i.zero=some z) (hk:z.cells.size=k)
  (h1:∀ u ∈ z.cells.toList,u.oneCell'=true) (h:RowIs w g T xs tail) (hn:0 < n) (hx:xs.length=(o+n) * k) (ty:TypeId) :
  ∃ zs:List Value,zs.length=n * k/\(Builtin.clear_ #[t] ty #[.slice (some ⟨g,o * k,none⟩) n c]).run P w=.ok (.tuple #[]) (w.setRow g ((xs.take (o * k)++zs)++tail).toArray):=by
 have hzl:(Builtin.zeroCells z.cells n).toList.length=n * k:=by simp [Builtin.zeroCells,hk]
 refine ⟨(Builtin.zeroCells z.cells n).toList,hzl,?_⟩
 have hz1:∀ u ∈ (Builtin.zeroCells z.cells n).toList,u.oneCell'=true:=by
  intro u hu
  simp only [Builtin.zeroCells,Array.toList_map,List.mem_map] at hu
  obtain⟨j,hj,rfl⟩:=hu
  simp at hj
  have hk0:0 < z.cells.size:=by
   rcases Nat.eq_zero_or_pos z.cells.size with h0 | h0
   ·rw [h0] at hj;simp at hj
   ·exact h0
  have hlt:=Nat.mod_lt j hk0
  refine h1 _ ?_
  rw [getElem!_pos z.cells (j % z.cells.size) hlt]
  exact Array.getElem_mem_toList hlt
 have hst:=run_storeCells_at P g (o * k) T (Builtin.zeroCells z.cells n).toList 0 (xs++tail).toArray w h (by rw [hzl];simp [hx,Nat.add_mul]) hz1
 simp only [Nat.add_zero] at hst
 have e:((xs++tail).toArray.toList.take (o * k)++(Builtin.zeroCells z.cells n).toList++(xs++tail).toArray.toList.drop (o * k+(Builtin.zeroCells z.cells n).toList.length))=(xs.take (o * k)++(Builtin.zeroCells z.cells n).toList)++tail:=by
  rw [hzl]
  have e1:o * k<=xs.length:=by rw [hx,Nat.add_mul];omega
  have e2:o * k+n * k=xs.length:=by rw [hx,Nat.add_mul]
  simp only [List.take_append_of_le_length e1]
  rw [e2,List.drop_left]
 rw [e] at hst
 cases n with
 | zero=>omega
 | succ n=>simp [Builtin.clear_,run_underlying ht,zeroValue,typeInfo,hi,hz,hst]
def digB (b:UInt8):Bool:=decide (48<=b.toNat) && decide (b.toNat<=57)
def digV:Str->Nat->Nat
 | [],n=>n
 | b :: s,n=>digV s (10 * n+(b.toNat - 48))
def numS (s:Str):Nat :=
 if s.isEmpty || decide (10 < s.length) || s.head? == some 48 || !s.all digB then 0
 else if 1073741824 < digV s 0 then 0 else digV s 0
theorem digV_append (a b:Str) (n:Nat):digV (a++b) n=digV b (digV a n):=by
 induction a generalizing n with
 | nil=>rfl
 | cons x a ih=>exact ih _
theorem digV_lt (s:Str) (n k:Nat) (h:n < k) (hs:s.all digB=true):digV s n < k * 10 ^ s.length:=by
 induction s generalizing n k with
 | nil=>simpa [digV] using h
 | cons b s ih =>
  simp only [List.all_cons,Bool.and_eq_true] at hs
  obtain⟨h1,h2⟩:=hs
  have hb:b.toNat - 48<=9:=by
   simp only [digB,Bool.and_eq_true,decide_eq_true_eq] at h1
   omega
  have:=ih (10 * n+(b.toNat - 48)) (k * 10) (by omega) h2
  rw [digV,List.length_cons,Nat.pow_succ,Nat.mul_comm (10 ^ s.length) 10,<- Nat.mul_assoc]
  exact this
theorem numS_le (s:Str):numS s<=1073741824:=by
 unfold numS
 split
 ·omega
 ·split <;> omega
def splitC (c:UInt8):Str->List Str
 | []=>[[]]
 | b :: r=>if b=c then [] :: splitC c r else match splitC c r with
  | []=>[[b]]
  | f :: fs=>(b :: f) :: fs
theorem splitC_ne (c:UInt8) (s:Str):splitC c s ≠ []:=by
 cases s with
 | nil=>simp [splitC]
 | cons b r =>
  unfold splitC
  split
  ·simp
  ·split <;> simp
def splitP (p:Str):List Nat :=
 let l:=(splitC 46 p).map numS
 if l.all (· != 0) && decide (l.length<=8) && l.head? == some 1 then l else []
end
section
abbrev ltS (a b:Str):Bool:=Op.bytesLess a b
theorem ltS_irrefl:∀ a:Str,ltS a a=false
 | []=>rfl
 | a :: r=>by simp [ltS,Op.bytesLess];exact ltS_irrefl r
theorem ltS_trans:∀ {a b c:Str},ltS a b=true->ltS b c=true->ltS a c=true
 | _,[],_,h,_=>by simp [ltS,Op.bytesLess] at h
 | _,_ :: _,[],_,h=>by simp [ltS,Op.bytesLess] at h
 | [],_ :: _,_ :: _,_,_=>rfl
 | a :: x,b :: y,c :: z,h1,h2=>by
  simp only [ltS,Op.bytesLess,Bool.or_eq_true,decide_eq_true_eq,Bool.and_eq_true,beq_iff_eq] at h1 h2 ⊢
  rcases h1 with h1 | ⟨rfl,h1⟩ <;> rcases h2 with h2 | ⟨rfl,h2⟩
  ·exact .inl (UInt8.lt_trans h1 h2)
  ·exact .inl h1
  ·exact .inl h2
  ·exact .inr ⟨rfl,ltS_trans h1 h2⟩
theorem u8_tri (a b:UInt8):a < b ∨ a=b ∨ b < a:=by
 rcases Nat.lt_trichotomy a.toNat b.toNat with h | h | h
 ·exact .inl (UInt8.lt_iff_toNat_lt.2 h)
 ·exact .inr (.inl (UInt8.toNat_inj.1 h))
 ·exact .inr (.inr (UInt8.lt_iff_toNat_lt.2 h))
theorem ltS_tri:∀ a b:Str,ltS a b=true ∨ a=b ∨ ltS b a=true
 | [],[]=>.inr (.inl rfl)
 | [],_ :: _=>.inl rfl
 | _ :: _,[]=>.inr (.inr rfl)
 | a :: x,b :: y=>by
  simp only [ltS,Op.bytesLess,Bool.or_eq_true,decide_eq_true_eq,Bool.and_eq_true,beq_iff_eq]
  rcases u8_tri a b with h | rfl | h
  ·exact .inl (.inl h)
  ·rcases ltS_tri x y with h | rfl | h
   ·exact .inl (.inr ⟨rfl,h⟩)
   ·exact .inr (.inl rfl)
   ·exact .inr (.inr (.inr ⟨rfl,h⟩))
  ·exact .inr (.inr (.inl h))
theorem ltS_asymm {a b:Str} (h:ltS a b=true):ltS b a=false:=by
 cases h':ltS b a with
 | false=>rfl
 | true=>have:=ltS_trans h h';rw [ltS_irrefl] at this;cases this
theorem ltS_ne {a b:Str} (h:ltS a b=true):a ≠ b:=by rintro rfl;rw [ltS_irrefl] at h;cases h
theorem str_cases (a b:Str):(ltS a b=true/\ltS b a=false/\(a == b)=false/\(b == a)=false/\a ≠ b) ∨ (a=b) ∨ (ltS a b=false/\ltS b a=true/\(a == b)=false/\(b == a)=false/\a ≠ b):=by
 rcases ltS_tri a b with h | h | h
 ·have hn:=ltS_ne h
  exact .inl ⟨h,ltS_asymm h,by simpa using hn,by simpa using hn.symm,hn⟩
 ·exact .inr (.inl h)
 ·have hn:=(ltS_ne h).symm
  exact .inr (.inr ⟨ltS_asymm h,h,by simpa using hn,by simpa using hn.symm,hn⟩)
def cmpS (a b:Str):Int:=if ltS a b then -1 else if a == b then 0 else 1
def cmpN (a b:Nat):Int:=if a < b then -1 else if b < a then 1 else 0
abbrev Mark:=Str × Nat
end
end Go.Proofs.YtblkikjmocnllaaGreatDoor
