/- maps.Keys, slices.AppendSeq, slices.Collect over a set of places. -/
import Derived.Test.YtaabaflgeljbjaaGreatPr08
import Derived.Test.YtaabaflgeljbjaaGreatPr18
set_option linter.unusedVariables false
set_option linter.unusedSimpArgs false
set_option maxRecDepth 100000
set_option maxHeartbeats 40000000
namespace Go.Proofs.YtaabaflgeljbjaaGreat
open Go.Value renaming pointer→Xa
open Go.Obj renaming cells→Xb
open Nat renaming le_refl→Qa
section
open Go.RowKit Go.Shelf
def zcm (p:zan):List Value:=[St p.1,St p.2.1,U p.2.2]
theorem zg6 (l:List zan):(l.flatMap zcm).length=l.length * 3:=by
 induction l with
 | nil=>rfl
 | cons a r b=>simp[b,zcm];omega
theorem zud:(Tryz.prog.info? 220).map (fun i=>(i.zero,i.size,i.bytes))=some (some (.agg #[St [],St [],U 0]),3,40):=by kernel_rfl
section
attribute [local go_sem] Oper.semAt_some
theorem zwx (n l B p n₀:Nat){S:Nat->Prop}{g:List zan}(f D:List zan->World->Prop)(au:1<=n)(W:World)(hJ:AbidesFrom W.heap.size f)(af:n₀<=W.heap.size)(ab:∀pre x W,f pre W->pre.length<g.length->YieldAt Fence.wide (n-1) Tryz.prog l #[zar x] W fun e h=>(e=.returned (.bool true)/\f (pre++[x]) h/\KpW S n₀ W h) ∨ (e=.returned (.bool false)/\D (pre++[x]) h))(aq:W.cell? ⟨B,0,none⟩=some (.map (some p)))(ad:SetOf zar W p g)(H:S p/\p<n₀)(h0:f [] W) :
  CallsIn Fence.wide n Tryz.prog 231 #[.func (.yield l) #[] #[],Xa (some ⟨B,0,none⟩)] W fun e h=>(∃v,e=.returned v) /\
   ((∃M,M.Perm g/\f M h) ∨ (∃pre,pre.length<=g.length/\D pre h)):=by
 obtain⟨E,av,hR,K,ay⟩:=zcz (P:=Tryz.prog) Tryz.underlying217 ad;have V:=zH hR;have N:=zH (hJ [] W E none h0 (zb3 K) (by simp));have ax:W.heap.size<E.heap.size:=by omega
 clear hR;refine callsIn_of_wp Tryz.func231 rfl trivial ?_ rfl;simp only[Tryz.ntmps231,List.size_toArray,List.length_cons,List.length_nil,Nat.reduceAdd,Nat.reduceSub,Array.replicate_succ,Array.replicate_zero,List.push_toArray,List.append_toArray,List.nil_append,List.cons_append]
 gi_wp2
 gi_loopw [3] (fun u wr=>∃done C,(done++C.map Prod.fst).Perm g/\RangeIs zar zeg wr p W.heap.size (g.map fun k=>(k,())) C/\f done wr/\KpS S n₀ W wr) (fun _ wr=>wr.rangeLeft p W.heap.size)
 case atStart=>exact⟨[],_,by rw[ze3];exact .refl _,V.out,N.out,K.kpS af⟩
 obtain⟨done,C,i,hR,t,hk⟩:=hrel;rcases zdh (P:=Tryz.prog) 0 hR with⟨rfl,m⟩|⟨r1,q,L,b,rfl,m,z,d,ar⟩
 ·have ae:∀o,(Instr.next (Xa (some ⟨W.heap.size,0,none⟩)) false o).run Tryz.prog wr=.ok (.tuple #[.bool false]) wr:=fun o=>m
  have y:=zH i;have O:=zH t;clear i hR m t
  gi_wp2
  go_end0
  exact⟨⟨_,rfl⟩,.inl ⟨done,by simpa using y.out,O.out⟩⟩
 have ae:∀o,(Instr.next (Xa (some ⟨W.heap.size,0,none⟩)) false o).run Tryz.prog wr=.ok (.tuple #[.bool true,zar q.1,zeg q.2]) b:=fun o=>m
 have ac:done.length<g.length:=by have:=i.length_eq;simp at this;omega
 have G:f done b:=hJ done wr b (some W.heap.size) t ⟨d.os,d.tape,d.output,by rw[d.size];exact Qa _,fun j _ I=>d.other j (fun e=>I (by rw[e]))⟩ (fun r e=>by cases e;obtain⟨es,c,s,h1,al,am,an,ao,Z,ap⟩:=hR;exact⟨Qa _,_,Z,rfl⟩)
 have w:=(Ext.refl b).alloc (Xb #[St q.1.1,St q.1.2.1,U q.1.2.2] 220);have F:=hJ done b _ none G (zb3 w) (by simp);have aw:W.heap.size<b.heap.size:=z.lt;have J:KpS S n₀ wr (b.alloc (Xb #[St q.1.1,St q.1.2.1,U q.1.2.2] 220)):=KpS.trans ⟨by rw[d.size];exact Qa _,fun j _ I=>d.other j (by omega)⟩ (w.kpS (by omega));obtain⟨ak,tmps,assign,body,az,aa⟩:=ab done q.1 _ F ac;have T:=zH hR.left_eq;have X:=zH (z.ext w);have y:=zH i;have Q:=zH (hk.trans J);have ah:(b.alloc (Xb #[St q.1.1,St q.1.2.1,U q.1.2.2] 220)).cell? ⟨b.heap.size,0,none⟩=some (St q.1.1):=(by simp[go_sem]);have ai:(b.alloc (Xb #[St q.1.1,St q.1.2.1,U q.1.2.2] 220)).cell? ⟨b.heap.size,1,none⟩=some (St q.1.2.1):=(by simp[go_sem]);have aj:(b.alloc (Xb #[St q.1.1,St q.1.2.1,U q.1.2.2] 220)).cell? ⟨b.heap.size,2,none⟩=some (U q.1.2.2):=(by simp[go_sem]);clear i hR m z hk J d G t F w
 gi_wp2
 refine aa.mono ?_;rintro e ag (⟨rfl,hJ3,hk3⟩|⟨rfl,hJx3⟩)
 ·have A:=X.out.walk (hk3.1.2 p H.1 H.2) hk3.2;have R:=zH A.left_eq;have Y:=zH A;clear A
  gi_wp2
  go_roundw
  case rel=>exact⟨done++[q.1],r1++L,by have h1:=y.out;simp only[List.map_append,List.map_cons]at h1 ⊢;rw[List.append_assoc];exact((List.perm_middle (l₁:=r1.map Prod.fst) (a:=q.1) (l₂:=L.map Prod.fst)).symm.append_left done).trans h1,Y.out,hJ3,Q.out.trans hk3.1⟩
  case measure=>rw[T.out,R.out];simp
 gi_wp2
 refine bodyPost_ret (results_none rfl _ _ _) rfl ?_;exact⟨⟨_,rfl⟩,.inr ⟨done++[q.1],by simp;omega,hJx3⟩⟩
theorem zwy (p:Nat)(w:World):Calls Tryz.prog 193 #[.map (some p)] w fun e w'=>e=.returned (.func (.func 231) #[] #[Xa (some ⟨w.heap.size,0,none⟩)])/\w'=w.alloc (Xb #[.map (some p)] 217):=by
 go_enter Tryz.func193,Tryz.ntmps193;go_wp2;go_ret;exact⟨rfl,rfl⟩
theorem zsq (n:Nat)(i:1<=n){p B n₀:Nat}{a:List zan}{w:World}(j:n₀<=w.heap.size)(d:w.cell? ⟨B,0,none⟩=some (.map (some p)))(h:SetOf zar w p a)(k:p<n₀) :
  SeqStopsK Fence.wide n Tryz.prog 231 #[Xa (some ⟨B,0,none⟩)] (fun x=>#[zar x]) (KpW (fun b=>b=p) n₀) (fun m=>m.Perm a) (fun pre=>pre.length<=a.length) a.length w :=
 fun l e f W c hJ _ g h0=>zwx n l B p n₀ e f i W hJ (Nat.le_trans j c.size) g (c.cell (p:=⟨B,0,none⟩) (zae d) |>.trans d) (h.ext c) ⟨rfl,k⟩ h0
def BoxP (bx base:Nat)(T:TypeId)(l:List zan)(W:World):Prop :=
 ∃v,W.cell? ⟨bx,0,none⟩=some v/\W.frozen? ⟨bx,0,none⟩=false/\Own W base T 3 v l.length (l.flatMap zcm)/\∀b,zad v b->b≠bx
theorem BoxP.from (c base:Nat)(T:TypeId)(B:Nat):OwnFrom B (fun s W=>BoxP c base T s W):=fun s W h row ⟨v,h1,d,f,g⟩ a b =>
 ⟨v,cell_kept h1 a (fun r e=>(b r e).2),(frozen_kept h1 a (fun r e=>(b r e).2)).trans d,f.kept a (fun r e=>(b r e).2),g⟩
theorem BoxP.grew {c base:Nat}{T:TypeId}{l':List zan}{W d:World}{v v':Value}(m:W.cell? ⟨c,0,none⟩=some v)(g:W.frozen? ⟨c,0,none⟩=false)(n:∀b,zad v b->b≠c)(k:Grew W d v v')(o:Own d base T 3 v' l'.length (l'.flatMap zcm)):d.cell? ⟨c,0,none⟩=some v/\d.frozen? ⟨c,0,none⟩=false/\BoxP c base T l' (d.setCell ⟨c,0,none⟩ v'):=by
 have hb:=zae m;have l:=k.same c hb (fun e=>n _ e rfl);have h:d.cell? ⟨c,0,none⟩=some v:=(World.cell?_of_block (a:=⟨c,0,none⟩) l).trans m
 have i:d.frozen? ⟨c,0,none⟩=false:=by unfold World.frozen? at g ⊢;simp only[]at g ⊢;rw[l];exact g
 have j:∀b,zad v' b->b≠c:=fun b f=>by
  rcases k.blk b f with e|e
  ·exact n b e
  subst e;omega
 refine⟨h,i,v',World.cell?_setCell_same' _ _ _ (by rw[h];rfl),by rw[World.frozen?_setCell];exact i,?_,j⟩;exact o.keep fun b f _=>Below.heap_setCell d _ v' b (j b f)
set_option maxRecDepth 100000 in
set_option maxHeartbeats 1000000 in
theorem zox {p B : Nat}{M : List zan}{w : World}(V : w.cell? ⟨B, 0, none⟩ = some (.map (some p)))(Q : SetOf zar w p M)(al : M.length <= 1099511627776) :
   Calls Tryz.prog 239 #[.slice none 0 0, .func (.func 231) #[] #[Xa (some ⟨B, 0, none⟩)]] w fun e w' =>
     ∃(v' : Value) (t : List zan), e = .returned v' /\ t.Perm M /\ Own w' w.heap.size 220 3 v' t.length (t.flatMap zcm) /\ Ext w w' := by
 have i : Ext w (w.alloc (Xb #[.slice none 0 0] 261)) := (Ext.refl w).alloc _
 have N := zix w (.slice none 0 0) 261
 have ad := zsq 8 (by omega) (n₀ := w.heap.size) i.size (i.cell V) (Q.ext i) Q.lt
 refine(callsIn_wide (n := 9)).1 ?_
 refine callsIn_of_wp_marks Tryz.func239 rfl trivial ?_ rfl
 simp only[Tryz.ntmps239, List.size_toArray, List.length_cons, List.length_nil, Nat.reduceAdd, Nat.reduceSub, Array.replicate_succ, Array.replicate_zero, List.push_toArray, List.append_toArray, List.nil_append, List.cons_append]
 gi_wp2
 generalize w.alloc (Xb #[.slice none 0 0] 261) = ag at *
 refine wpIn_rangeFunc_ownH rfl (by omega) (gf := 231) (lb := #[Xa (some ⟨B, 0, none⟩)]) rfl trivial (enters_of Tryz.func231 (by kernel_rfl) rfl)
   ad (fun j k => ⟨j.1.trans k.1, j.2.trans k.2⟩) (fun W l o o' P h1 y z => ⟨KpS.put i.size W l o o' P h1 y z, KeepsWalks.putObj o' h1 z⟩) (Below.refl _ _) (fun _ => rfl)
   (fun pre W => BoxP w.heap.size w.heap.size 220 pre W /\ Below w.heap.size w W)
   (fun _ _ _ => False)
   (OwnFrom.and (BoxP.from _ _ _ _) (ownFrom_below (Qa _) i.size))
   (fun _ _ _ _ _ ac _ _ => ac)
   ⟨⟨_, N.1, N.2, Own.nil _ _ _ _ _, by rintro b⟨g, ao, ah, Z, am, rfl⟩; cases Z⟩, i⟩
   (fun x F W => ∃f, (W.cell? ⟨f, 0, none⟩ = some (St x.1) /\ W.cell? ⟨f, 1, none⟩ = some (St x.2.1) /\ W.cell? ⟨f, 2, none⟩ = some (U x.2.2)) /\
     F = { tmps := #[.slice none 0 0, .func (.func 231) #[] #[Xa (some ⟨B, 0, none⟩)], Xa (some ⟨w.heap.size, 0, none⟩), undef, .slice none 0 0, Xa (some ⟨f, 0, none⟩), .func (.func 231) #[] #[Xa (some ⟨B, 0, none⟩)], zar x, undef, undef, undef, undef, undef], defers := [] })
   (fun x F s W af row ⟨f, ⟨h1, y, z⟩, T⟩ J L => ⟨f, ⟨cell_kept h1 J (fun r e => (L r e).2), cell_kept y J (fun r e => (L r e).2), cell_kept z J (fun r e => (L r e).2)⟩, T⟩)
   ?assign ?body ?done ?stop
 case assign =>
   rintro l pre x W K⟨⟨v, q, C, d, D⟩, h⟩ hK
   have a := (Ext.refl W).alloc (Xb #[St x.1, St x.2.1, U x.2.2] 220)
   dsimp only[zar]
   gi_wp2
   have m := h.size
   exact hK _ _ ((KeepsOthers.alloc _ _).from _) ⟨a.kpS m, (KeepsOthers.alloc _ _).walks⟩ ⟨⟨v, a.cell q, (a.frozen (zae q)).trans C, d.ext a, D⟩, Below.trans h (a.below m)⟩
     ⟨W.heap.size, ⟨by simp[go_sem], by simp[go_sem], by simp[go_sem]⟩, rfl⟩
 case body =>
   rintro l pre x F W P-⟨⟨v, q, C, d, D⟩, h⟩ ⟨f, ⟨ap, aq, ar⟩, rfl⟩ an
   have m := h.size
   gi_wp2_with (gi_at_builtin; refine zfl rfl (.tmp 8) (.tmp 10) 261 rfl w.heap.size 220 3 40 (.agg #[St [], St [], U 0]) Tryz.underlying261 zud rfl (by omega) v pre.length (pre.flatMap zcm) rfl (d.alloc _) _ 1 1 _ rfl (Src.new rfl (by intro u S; simp at S; rcases S with rfl|rfl|rfl<;>rfl)) (by omega) (by omega) (by simp; omega) ?_; intro v' w' R A
                have a := (Ext.refl W).alloc (Xb #[St x.1, St x.2.1, U x.2.2] 220)
                obtain⟨ai, aj, Y⟩ := BoxP.grew (l' := pre ++ [x]) (a.cell q) ((a.frozen (zae q)).trans C) D A (by simpa[zcm]using R)
                have I := R.form
                obtain⟨H, G, rfl, -, -⟩ := I)
   have a := (Ext.refl W).alloc (Xb #[St x.1, St x.2.1, U x.2.2] 220)
   have aa := (KeepsOthers.alloc _ _).trans (A.keeps (d.alloc _))
   have ab : KpS (fun b => b = p) w.heap.size W w' := (a.kpS m).trans (KpS.grew A (Nat.le_trans m a.size) (fun b j y => (d.base_le j).1))
   have X := Ext.grewOwn (Below.trans h (Below.mono a m)) A (d.alloc _) (Qa _)
   have O := aa.trans (KeepsOthers.setCell w' ⟨w.heap.size, 0, none⟩ (.slice H (pre.length + 1) G))
   exact⟨O.from _, ⟨ab.trans (KpS.set _ (fun _ => Qa _) _), O.walks⟩, Y, Below.setCell X (by simp) _⟩
 case done =>
   rintro E t W ak ae⟨⟨v, q, C, d, D⟩, h⟩ hK
   have I := d.form
   obtain⟨H, G, rfl, -, -⟩ := I
   gi_wp2
   refine⟨by simp, .inl ⟨_, _, rfl, run_takeDeferred hK, ?_⟩⟩
   refine⟨_, results_tmp rfl _ _ _, .slice H t.length G, t, rfl, ae, d.kept (grownBy_putObj' W E _) (fun r e => by cases e; exact⟨_, hK, rfl⟩), ?_⟩
   exact Below.trans h (belowK_b (w := w) (Qa _) W E _ _ (by have := i.size; omega) hK rfl rfl)
 case stop =>
   rintro E c pre W _ _ j _
   exact j.elim
end
theorem zq9 {p B:Nat}{b:List zan}{w:World}(c:w.cell? ⟨B,0,none⟩=some (.map (some p)))(d:SetOf zar w p b)(k:b.length<=1099511627776) :
  Calls Tryz.prog 229 #[.func (.func 231) #[] #[Xa (some ⟨B,0,none⟩)]] w fun e w'=>∃(v':Value) (a:List zan),e=.returned v'/\a.Perm b/\Own w' w.heap.size 220 3 v' a.length (a.flatMap zcm)/\Ext w w':=by
 have h:=zH (zox c d k);clear c d;go_enter Tryz.func229,Tryz.ntmps229;go_wp2_with fail;refine h.out.mono ?_;rintro e m⟨v',a,rfl,f,g,l⟩;have j:=zH g;have i:=zH f;clear g f;go_wp2_with fail;go_ret;exact⟨_,a,rfl,i.out,j.out,l⟩
end
end Go.Proofs.YtaabaflgeljbjaaGreat
