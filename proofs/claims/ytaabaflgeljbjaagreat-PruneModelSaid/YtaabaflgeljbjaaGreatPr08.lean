/- maps.Keys, slices.Collect, slices.Sorted over a map with string keys. -/
import Derived.Test.YtaabaflgeljbjaaGreatPr06
import Derived.Test.YtaabaflgeljbjaaGreatPr07
set_option linter.unusedVariables false
set_option linter.unusedSimpArgs false
set_option maxRecDepth 100000
set_option maxHeartbeats 40000000
namespace Go.Proofs.YtaabaflgeljbjaaGreat
open Go.Value renaming pointer→Xa
open Nat renaming le_refl→Qa
section
open Go.RowKit Go.Shelf
section
attribute [local go_sem] Oper.semAt_some
def KpW (S:Nat->Prop)(n:Nat)(W W':World):Prop:=KpS S n W W'/\KeepsWalks W W'
theorem RangeIs.walk {κ ν:Type}[DecidableEq κ]{K:κ->Value}{V:ν->Value}{w w':World}{b r:Nat}{L e:List (κ×ν)}(a:RangeIs K V w b r L e)(hb:w'.heap[b]? = w.heap[b]?)(hk:KeepsWalks w w'):RangeIs K V w' b r L e:=by
 refine a.keep hb ?_;obtain⟨es,c,s,h1,f,g,h,i,d,j⟩:=a;rw[d];exact hk.same r _ d rfl
theorem zwb (n l B p n₀:Nat){S:Nat->Prop}{L:List (Str×Nat)}(d y:List Str->World->Prop)(am:1<=n)(W:World)(hJ:AbidesFrom W.heap.size d)(ac:n₀<=W.heap.size)(Y:∀pre x W,d pre W->pre.length<L.length->YieldAt Fence.wide (n-1) Tryz.prog l #[St x] W fun e f=>(e=.returned (.bool true)/\d (pre++[x]) f/\KpW S n₀ W f) ∨ (e=.returned (.bool false)/\y (pre++[x]) f))(ak:W.cell? ⟨B,0,none⟩=some (.map (some p)))(aa:MapIs St U W p L)(D:S p/\p<n₀)(h0:d [] W) :
  CallsIn Fence.wide n Tryz.prog 228 #[.func (.yield l) #[] #[],Xa (some ⟨B,0,none⟩)] W fun e f=>(∃v,e=.returned v) /\
   ((∃I,I.Perm (L.map Prod.fst)/\d I f) ∨ (∃pre,pre.length<=L.length/\y pre f)):=by
 obtain⟨z,an,hR,G,ap⟩:=zcz (P:=Tryz.prog) Tryz.underlying208 aa;have Q:=zH hR;have J:=zH (hJ [] W z none h0 (zb3 G) (by simp));have ao:W.heap.size<z.heap.size:=by omega
 clear hR;refine callsIn_of_wp Tryz.func228 rfl trivial ?_ rfl;simp only[Tryz.ntmps228,List.size_toArray,List.length_cons,List.length_nil,Nat.reduceAdd,Nat.reduceSub,Array.replicate_succ,Array.replicate_zero,List.push_toArray,List.append_toArray,List.nil_append,List.cons_append]
 gi_wp2
 gi_loopw [3] (fun u wr=>∃done w,(done++w.map Prod.fst).Perm (L.map Prod.fst)/\RangeIs St U wr p W.heap.size L w/\d done wr/\KpS S n₀ W wr) (fun _ wr=>wr.rangeLeft p W.heap.size)
 case atStart=>exact⟨[],L,.refl _,Q.out,J.out,G.kpS ac⟩
 obtain⟨done,w,g,hR,m,hk⟩:=hrel;rcases zdh (P:=Tryz.prog) 0 hR with⟨rfl,h⟩|⟨r1,q,H,k,rfl,h,C,b,al⟩
 ·have ab:∀i,(Instr.next (Xa (some ⟨W.heap.size,0,none⟩)) false i).run Tryz.prog wr=.ok (.tuple #[.bool false]) wr:=fun i=>h
  have o:=zH g;have K:=zH m;clear g hR h m
  gi_wp2
  go_end0
  exact⟨⟨_,rfl⟩,.inl ⟨done,by simpa using o.out,K.out⟩⟩
 have ab:∀i,(Instr.next (Xa (some ⟨W.heap.size,0,none⟩)) false i).run Tryz.prog wr=.ok (.tuple #[.bool true,St q.1,U q.2]) k:=fun i=>h
 have Z:done.length<L.length:=by have:=g.length_eq;simp at this;omega
 have A:d done k:=hJ done wr k (some W.heap.size) m ⟨b.os,b.tape,b.output,by rw[b.size];exact Qa _,fun j _ E=>b.other j (fun e=>E (by rw[e]))⟩ (fun r e=>by cases e;obtain⟨es,c,s,h1,af,ag,ah,ai,V,aj⟩:=hR;exact⟨Qa _,_,V,rfl⟩)
 have F:KpS S n₀ wr k:=⟨by rw[b.size];exact Qa _,fun j _ E=>b.other j (by omega)⟩
 obtain⟨ae,tmps,assign,body,aq,X⟩:=Y done q.1 k A Z;have O:=zH hR.left_eq;have R:=zH C;have o:=zH g;have M:=zH (hk.trans F);clear g hR h C hk F b A m
 gi_wp2
 refine X.mono ?_;rintro e ad (⟨rfl,hJ3,hk3⟩|⟨rfl,hJx3⟩)
 ·have t:=R.out.walk (hk3.1.2 p D.1 D.2) hk3.2;have N:=zH t.left_eq;have T:=zH t;clear t
  gi_wp2
  go_roundw
  case rel=>exact⟨done++[q.1],r1++H,by have h1:=o.out;simp only[List.map_append,List.map_cons]at h1 ⊢;rw[List.append_assoc];exact((List.perm_middle (l₁:=r1.map Prod.fst) (a:=q.1) (l₂:=H.map Prod.fst)).symm.append_left done).trans h1,T.out,hJ3,M.out.trans hk3.1⟩
  case measure=>rw[O.out,N.out];simp
 gi_wp2
 refine bodyPost_ret (results_none rfl _ _ _) rfl ?_;exact⟨⟨_,rfl⟩,.inr ⟨done++[q.1],by simp;omega,hJx3⟩⟩
theorem zwc (p:Nat)(w:World):Calls Tryz.prog 191 #[.map (some p)] w fun e w'=>e=.returned (.func (.func 228) #[] #[Xa (some ⟨w.heap.size,0,none⟩)])/\w'=w.alloc (.cells #[.map (some p)] 208):=by
 go_enter Tryz.func191,Tryz.ntmps191;go_wp2;go_ret;exact⟨rfl,rfl⟩
theorem zsj (n:Nat)(h:1<=n){p B n₀:Nat}{L:List (Str×Nat)}{w:World}(i:n₀<=w.heap.size)(c:w.cell? ⟨B,0,none⟩=some (.map (some p)))(g:MapIs St U w p L)(j:p<n₀) :
  SeqStopsK Fence.wide n Tryz.prog 228 #[Xa (some ⟨B,0,none⟩)] (fun x=>#[St x]) (KpW (fun b=>b=p) n₀) (fun k=>k.Perm (L.map Prod.fst)) (fun pre=>pre.length<=L.length) L.length w :=
 fun l d e W a hJ _ f h0=>zwb n l B p n₀ d e h W hJ (Nat.le_trans i a.size) f (a.cell (p:=⟨B,0,none⟩) (zae c) |>.trans c) (g.ext a) ⟨rfl,j⟩ h0
def BoxS (bx base:Nat)(T:TypeId)(l:List Str)(W:World):Prop :=
 ∃v,W.cell? ⟨bx,0,none⟩=some v/\W.frozen? ⟨bx,0,none⟩=false/\Own W base T 1 v l.length (l.flatMap strC)/\∀b,zad v b->b≠bx
theorem BoxS.from (c base:Nat)(T:TypeId)(B:Nat):OwnFrom B (fun s W=>BoxS c base T s W):=fun s W h row ⟨v,h1,d,f,g⟩ a b =>
 ⟨v,cell_kept h1 a (fun r e=>(b r e).2),(frozen_kept h1 a (fun r e=>(b r e).2)).trans d,f.kept a (fun r e=>(b r e).2),g⟩
theorem BoxS.grew {c base:Nat}{T:TypeId}{l':List Str}{W d:World}{v v':Value}(m:W.cell? ⟨c,0,none⟩=some v)(g:W.frozen? ⟨c,0,none⟩=false)(n:∀b,zad v b->b≠c)(k:Grew W d v v')(o:Own d base T 1 v' l'.length (l'.flatMap strC)):d.cell? ⟨c,0,none⟩=some v/\d.frozen? ⟨c,0,none⟩=false/\BoxS c base T l' (d.setCell ⟨c,0,none⟩ v'):=by
 have hb:=zae m;have l:=k.same c hb (fun e=>n _ e rfl);have h:d.cell? ⟨c,0,none⟩=some v:=(World.cell?_of_block (a:=⟨c,0,none⟩) l).trans m
 have i:d.frozen? ⟨c,0,none⟩=false:=by unfold World.frozen? at g ⊢;simp only[]at g ⊢;rw[l];exact g
 have j:∀b,zad v' b->b≠c:=fun b f=>by
  rcases k.blk b f with e|e
  ·exact n b e
  subst e;omega
 refine⟨h,i,v',World.cell?_setCell_same' _ _ _ (by rw[h];rfl),by rw[World.frozen?_setCell];exact i,?_,j⟩;exact o.keep fun b f _=>Below.heap_setCell d _ v' b (j b f)
set_option maxRecDepth 100000 in
set_option maxHeartbeats 1000000 in
theorem zos {p B : Nat}{L : List (Str×Nat)}{w : World}(M : w.cell? ⟨B, 0, none⟩ = some (.map (some p)))(G : MapIs St U w p L)(ae : L.length <= 1099511627776) :
   Calls Tryz.prog 238 #[.slice none 0 0, .func (.func 228) #[] #[Xa (some ⟨B, 0, none⟩)]] w fun e w' =>
     ∃(v' : Value) (i : List Str), e = .returned v' /\ i.Perm (L.map Prod.fst) /\ Own w' w.heap.size 9 1 v' i.length (i.flatMap strC) /\ Ext w w' := by
 have d : Ext w (w.alloc (.cells #[.slice none 0 0] 24)) := (Ext.refl w).alloc _
 have E := zix w (.slice none 0 0) 24
 have V := zsj 8 (by omega) (n₀ := w.heap.size) d.size (d.cell M) (G.ext d) G.lt
 refine(callsIn_wide (n := 9)).1 ?_
 refine callsIn_of_wp_marks Tryz.func238 rfl trivial ?_ rfl
 simp only[Tryz.ntmps238, List.size_toArray, List.length_cons, List.length_nil, Nat.reduceAdd, Nat.reduceSub, Array.replicate_succ, Array.replicate_zero, List.push_toArray, List.append_toArray, List.nil_append, List.cons_append]
 gi_wp2
 generalize w.alloc (.cells #[.slice none 0 0] 24) = Z at *
 refine wpIn_rangeFunc_ownG rfl (by omega) (gf := 228) (lb := #[Xa (some ⟨B, 0, none⟩)]) rfl trivial (enters_of Tryz.func228 (by kernel_rfl) rfl)
   V (fun f k => ⟨f.1.trans k.1, f.2.trans k.2⟩) (fun W l o o' S h1 C D => ⟨KpS.put d.size W l o o' S h1 C D, KeepsWalks.putObj o' h1 D⟩) (Below.refl _ _) (fun _ => rfl)
   (fun pre W => BoxS w.heap.size w.heap.size 9 pre W /\ Below w.heap.size w W)
   (fun _ _ _ => False)
   (OwnFrom.and (BoxS.from _ _ _ _) (ownFrom_below (Qa _) d.size))
   (fun _ _ _ _ _ T _ _ => T)
   ⟨⟨_, E.1, E.2, Own.nil _ _ _ _ _, by rintro b⟨g, ah, aa, P, af, rfl⟩; cases P⟩, d⟩
   (fun x => { tmps := #[.slice none 0 0, .func (.func 228) #[] #[Xa (some ⟨B, 0, none⟩)], Xa (some ⟨w.heap.size, 0, none⟩), undef, .slice none 0 0, St x, .func (.func 228) #[] #[Xa (some ⟨B, 0, none⟩)], St x, undef, undef, undef, undef, undef], defers := [] })
   ?assign ?body ?done ?stop
 case assign =>
   intro l x W K hK
   gi_wp2
   exact hK
 case body =>
   rintro l pre x W⟨⟨v, A, I, a, J⟩, j⟩ ag
   have z := j.size
   gi_wp2_with (gi_at_builtin; refine zfl rfl (.tmp 8) (.tmp 10) 24 rfl w.heap.size 9 1 16 (St []) Tryz.underlying24 zd7 rfl (by omega) v pre.length (pre.flatMap strC) rfl (a.alloc _) _ 1 1 _ rfl (Src.new rfl (by intro u X; rw[List.mem_singleton.1 X]; rfl)) (by omega) (by omega) (by simp; omega) ?_; intro v' w' H m
                have h := (Ext.refl W).alloc (.cells #[St x] 9)
                obtain⟨ab, ac, O⟩ := BoxS.grew (l' := pre ++ [x]) (h.cell A) ((h.frozen (zae A)).trans I) J m (by simpa[strC]using H)
                have y := H.form
                obtain⟨t, s, rfl, -, -⟩ := y)
   have h := (Ext.refl W).alloc (.cells #[St x] 9)
   have Q := (KeepsOthers.alloc _ _).trans (m.keeps (a.alloc _))
   have R : KpS (fun b => b = p) w.heap.size W w' := (h.kpS z).trans (KpS.grew m (Nat.le_trans z h.size) (fun b f C => (a.base_le f).1))
   have N := Ext.grewOwn (Below.trans j (Below.mono h z)) m (a.alloc _) (Qa _)
   have F := Q.trans (KeepsOthers.setCell w' ⟨w.heap.size, 0, none⟩ (.slice t (pre.length + 1) s))
   exact⟨F.from _, ⟨R.trans (KpS.set _ (fun _ => Qa _) _), F.walks⟩, O, Below.setCell N (by simp) _⟩
 case done =>
   rintro q i W ad Y⟨⟨v, A, I, a, J⟩, j⟩ hK
   have y := a.form
   obtain⟨t, s, rfl, -, -⟩ := y
   gi_wp2
   refine⟨by simp, .inl ⟨_, _, rfl, run_takeDeferred hK, ?_⟩⟩
   refine⟨_, results_tmp rfl _ _ _, .slice t i.length s, i, rfl, Y, a.kept (grownBy_putObj' W q _) (fun r e => by cases e; exact⟨_, hK, rfl⟩), ?_⟩
   exact Below.trans j (belowK_b (w := w) (Qa _) W q _ _ (by have := d.size; omega) hK rfl rfl)
 case stop =>
   rintro q c pre W _ _ f _
   exact f.elim
end
end
end Go.Proofs.YtaabaflgeljbjaaGreat
