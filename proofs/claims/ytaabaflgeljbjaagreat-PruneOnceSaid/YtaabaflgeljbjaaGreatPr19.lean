/- maps.Keys, slices.AppendSeq, slices.Collect over a set of places. -/
import Derived.Test.YtaabaflgeljbjaaGreatPr08
import Derived.Test.YtaabaflgeljbjaaGreatPr18
set_option linter.unusedVariables false
set_option linter.unusedSimpArgs false
set_option maxRecDepth 100000
set_option maxHeartbeats 40000000
namespace Go.Proofs.YtaabaflgeljbjaaGreat
section
open Go.RowKit Go.Shelf
def zcm (p:zan):List Value:=[St p.1,St p.2.1,U p.2.2]
theorem zg6 (l:List zan):(l.flatMap zcm).length=l.length * 3:=by
 induction l with
 | nil=>rfl
 | cons a r ih=>simp [ih,zcm];omega
theorem zud:(Tryz.prog.info? 220).map (fun i=>(i.zero,i.size,i.bytes))=some (some (.agg #[St [],St [],U 0]),3,40):=by kernel_rfl
section
attribute [local go_sem] Oper.semAt_some
theorem zwx (n l B p n₀:Nat) {S:Nat->Prop} {ks:List zan} (J Jx:List zan->World->Prop) (hn:1<=n) (W:World) (hJ:AbidesFrom W.heap.size J) (hn₀:n₀<=W.heap.size)
  (hY:∀ pre x W,J pre W->pre.length < ks.length->YieldAt Fence.wide (n - 1) Tryz.prog l #[zar x] W fun e W'=>(e=.returned (.bool true)/\J (pre++[x]) W'/\KpW S n₀ W W') ∨ (e=.returned (.bool false)/\Jx (pre++[x]) W'))
  (hB:W.cell? ⟨B,0,none⟩=some (.map (some p))) (hm:SetOf zar W p ks) (hS:S p/\p < n₀) (h0:J [] W) :
  CallsIn Fence.wide n Tryz.prog 231 #[.func (.yield l) #[] #[],.pointer (some ⟨B,0,none⟩)] W fun e W'=>(∃ v,e=.returned v) /\
   ((∃ ys,ys.Perm ks/\J ys W') ∨ (∃ pre,pre.length<=ks.length/\Jx pre W')):=by
 obtain⟨W1,hr,hR,hx1,hsz⟩:=zcz (P:=Tryz.prog) Tryz.underlying217 hm;have HR:=zH hR;have HJ1:=zH (hJ [] W W1 none h0 (zb3 hx1) (by simp));have hrs:W.heap.size < W1.heap.size:=by omega
 clear hR;refine callsIn_of_wp Tryz.func231 rfl trivial ?_ rfl;simp only [Tryz.ntmps231,List.size_toArray,List.length_cons,List.length_nil,Nat.reduceAdd,Nat.reduceSub,Array.replicate_succ,Array.replicate_zero,List.push_toArray,List.append_toArray,List.nil_append,List.cons_append]
 gi_wp2
 gi_loopw [3] (fun u wr=>∃ done rest,(done++rest.map Prod.fst).Perm ks/\RangeIs zar zeg wr p W.heap.size (ks.map fun k=>(k,())) rest/\J done wr/\KpS S n₀ W wr) (fun _ wr=>wr.rangeLeft p W.heap.size)
 case atStart=>exact⟨[],_,by rw [ze3];exact .refl _,HR.out,HJ1.out,hx1.kpS hn₀⟩
 case round =>
  obtain⟨done,rest,hperm,hR,hJd,hk⟩:=hrel;rcases zdh (P:=Tryz.prog) 0 hR with ⟨rfl,hrun⟩ | ⟨r1,q,r2,wn,rfl,hrun,hR2,ht,hent⟩
  ·have hnx:∀ ty,(Instr.next (.pointer (some ⟨W.heap.size,0,none⟩)) false ty).run Tryz.prog wr=.ok (.tuple #[.bool false]) wr:=fun ty=>hrun
   have HPM:=zH hperm;have HJD:=zH hJd;clear hperm hR hrun hJd
   gi_wp2
   go_end0
   exact⟨⟨_,rfl⟩,.inl ⟨done,by simpa using HPM.out,HJD.out⟩⟩
  ·have hnx:∀ ty,(Instr.next (.pointer (some ⟨W.heap.size,0,none⟩)) false ty).run Tryz.prog wr=.ok (.tuple #[.bool true,zar q.1,zeg q.2]) wn:=fun ty=>hrun
   have hlen:done.length < ks.length:=by have:=hperm.length_eq;simp at this;omega
   have hJn:J done wn:=hJ done wr wn (some W.heap.size) hJd ⟨ht.os,ht.tape,ht.output,by rw [ht.size];exact Nat.le_refl _,fun j _ hj=>ht.other j (fun e=>hj (by rw [e]))⟩ (fun r e=>by cases e;obtain⟨es,c,s,h1,h2,h3,h4,h5,h6,h7⟩:=hR;exact⟨Nat.le_refl _,_,h6,rfl⟩)
   have hxa:=(Ext.refl wn).alloc (.cells #[St q.1.1,St q.1.2.1,U q.1.2.2] 220);have hJa:=hJ done wn _ none hJn (zb3 hxa) (by simp);have hrn:W.heap.size < wn.heap.size:=hR2.lt;have hkn:KpS S n₀ wr (wn.alloc (.cells #[St q.1.1,St q.1.2.1,U q.1.2.2] 220)):=KpS.trans ⟨by rw [ht.size];exact Nat.le_refl _,fun j _ hj=>ht.other j (by omega)⟩ (hxa.kpS (by omega));obtain⟨fn,tmps,assign,body,hy,hRd⟩:=hY done q.1 _ hJa hlen;have HML:=zH hR.left_eq;have HR2:=zH (hR2.ext hxa);have HPM:=zH hperm;have HK:=zH (hk.trans hkn);have b0:(wn.alloc (.cells #[St q.1.1,St q.1.2.1,U q.1.2.2] 220)).cell? ⟨wn.heap.size,0,none⟩=some (St q.1.1):=(by simp [go_sem]);have b1:(wn.alloc (.cells #[St q.1.1,St q.1.2.1,U q.1.2.2] 220)).cell? ⟨wn.heap.size,1,none⟩=some (St q.1.2.1):=(by simp [go_sem]);have b2:(wn.alloc (.cells #[St q.1.1,St q.1.2.1,U q.1.2.2] 220)).cell? ⟨wn.heap.size,2,none⟩=some (U q.1.2.2):=(by simp [go_sem]);clear hperm hR hrun hR2 hk hkn ht hJn hJd hJa hxa
   gi_wp2
   refine hRd.mono ?_;rintro e W3 (⟨rfl,hJ3,hk3⟩ | ⟨rfl,hJx3⟩)
   ·have hR3:=HR2.out.walk (hk3.1.2 p hS.1 hS.2) hk3.2;have HM3:=zH hR3.left_eq;have HR3:=zH hR3;clear hR3
    gi_wp2
    go_roundw
    case rel=>exact⟨done++[q.1],r1++r2,by have h1:=HPM.out;simp only [List.map_append,List.map_cons] at h1 ⊢;rw [List.append_assoc];exact ((List.perm_middle (l₁:=r1.map Prod.fst) (a:=q.1) (l₂:=r2.map Prod.fst)).symm.append_left done).trans h1,HR3.out,hJ3,HK.out.trans hk3.1⟩
    case measure=>rw [HML.out,HM3.out];simp
   ·gi_wp2
    refine bodyPost_ret (results_none rfl _ _ _) rfl ?_;exact⟨⟨_,rfl⟩,.inr ⟨done++[q.1],by simp;omega,hJx3⟩⟩
theorem zwy (p:Nat) (w:World):Calls Tryz.prog 193 #[.map (some p)] w fun e w'=>e=.returned (.func (.func 231) #[] #[.pointer (some ⟨w.heap.size,0,none⟩)])/\w'=w.alloc (.cells #[.map (some p)] 217):=by
 go_enter Tryz.func193,Tryz.ntmps193;go_wp2;go_ret;exact⟨rfl,rfl⟩
theorem zsq (n:Nat) (hn:1<=n) {p B n₀:Nat} {ks:List zan} {w:World} (hn₀:n₀<=w.heap.size) (hB:w.cell? ⟨B,0,none⟩=some (.map (some p))) (hm:SetOf zar w p ks) (hp:p < n₀) :
  SeqStopsK Fence.wide n Tryz.prog 231 #[.pointer (some ⟨B,0,none⟩)] (fun x=>#[zar x]) (KpW (fun b=>b=p) n₀) (fun ys=>ys.Perm ks) (fun pre=>pre.length<=ks.length) ks.length w :=
 fun l J Jx W hW hJ _ hY h0=>zwx n l B p n₀ J Jx hn W hJ (Nat.le_trans hn₀ hW.size) hY (hW.cell (p:=⟨B,0,none⟩) (zae hB) |>.trans hB) (hm.ext hW) ⟨rfl,hp⟩ h0
def BoxP (bx base:Nat) (T:TypeId) (l:List zan) (W:World):Prop :=
 ∃ v,W.cell? ⟨bx,0,none⟩=some v/\W.frozen? ⟨bx,0,none⟩=false/\Own W base T 3 v l.length (l.flatMap zcm)/\∀ b,zad v b->b ≠ bx
theorem BoxP.from (bx base:Nat) (T:TypeId) (B:Nat):OwnFrom B (fun s W=>BoxP bx base T s W):=fun s W W' row ⟨v,h1,h2,h3,h4⟩ hg hr =>
 ⟨v,cell_kept h1 hg (fun r e=>(hr r e).2),(frozen_kept h1 hg (fun r e=>(hr r e).2)).trans h2,h3.kept hg (fun r e=>(hr r e).2),h4⟩
theorem BoxP.grew {bx base:Nat} {T:TypeId} {l':List zan} {W W':World} {v v':Value} (hv1:W.cell? ⟨bx,0,none⟩=some v) (hv2:W.frozen? ⟨bx,0,none⟩=false) (hv4:∀ b,zad v b->b ≠ bx)
  (hgr:Grew W W' v v') (hown:Own W' base T 3 v' l'.length (l'.flatMap zcm)):W'.cell? ⟨bx,0,none⟩=some v/\W'.frozen? ⟨bx,0,none⟩=false/\BoxP bx base T l' (W'.setCell ⟨bx,0,none⟩ v'):=by
 have hb:=zae hv1;have hsame:=hgr.same bx hb (fun h=>hv4 _ h rfl);have e1:W'.cell? ⟨bx,0,none⟩=some v:=(World.cell?_of_block (a:=⟨bx,0,none⟩) hsame).trans hv1
 have e2:W'.frozen? ⟨bx,0,none⟩=false:=by unfold World.frozen? at hv2 ⊢;simp only [] at hv2 ⊢;rw [hsame];exact hv2
 have hblk:∀ b,zad v' b->b ≠ bx:=fun b hb'=>by
  rcases hgr.blk b hb' with h | h
  ·exact hv4 b h
  ·subst h;omega
 refine ⟨e1,e2,v',World.cell?_setCell_same' _ _ _ (by rw [e1];rfl),by rw [World.frozen?_setCell];exact e2,?_,hblk⟩;exact hown.keep fun b hb' _=>Below.heap_setCell W' _ v' b (hblk b hb')
set_option maxRecDepth 100000 in
set_option maxHeartbeats 1000000 in
theorem zox {p B : Nat} {ks : List zan} {w : World} (hB : w.cell? ⟨B, 0, none⟩ = some (.map (some p))) (hm : SetOf zar w p ks) (hL : ks.length <= 1099511627776) :
   Calls Tryz.prog 239 #[.slice none 0 0, .func (.func 231) #[] #[.pointer (some ⟨B, 0, none⟩)]] w fun e w' =>
     ∃ (v' : Value) (ys : List zan), e = .returned v' /\ ys.Perm ks /\ Own w' w.heap.size 220 3 v' ys.length (ys.flatMap zcm) /\ Ext w w' := by
 have hx0 : Ext w (w.alloc (.cells #[.slice none 0 0] 261)) := (Ext.refl w).alloc _
 have hbox := zix w (.slice none 0 0) 261
 have hseq := zsq 8 (by omega) (n₀ := w.heap.size) hx0.size (hx0.cell hB) (hm.ext hx0) hm.lt
 refine (callsIn_wide (n := 9)).1 ?_
 refine callsIn_of_wp_marks Tryz.func239 rfl trivial ?_ rfl
 simp only [Tryz.ntmps239, List.size_toArray, List.length_cons, List.length_nil, Nat.reduceAdd, Nat.reduceSub, Array.replicate_succ, Array.replicate_zero, List.push_toArray, List.append_toArray, List.nil_append, List.cons_append]
 gi_wp2
 generalize w.alloc (.cells #[.slice none 0 0] 261) = W0 at *
 refine wpIn_rangeFunc_ownH rfl (by omega) (gf := 231) (lb := #[.pointer (some ⟨B, 0, none⟩)]) rfl trivial (enters_of Tryz.func231 (by kernel_rfl) rfl)
   hseq (fun h k => ⟨h.1.trans k.1, h.2.trans k.2⟩) (fun W l o o' hl h1 h2 h3 => ⟨KpS.put hx0.size W l o o' hl h1 h2 h3, KeepsWalks.putObj o' h1 h3⟩) (Below.refl _ _) (fun _ => rfl)
   (fun pre W => BoxP w.heap.size w.heap.size 220 pre W /\ Below w.heap.size w W)
   (fun _ _ _ => False)
   (OwnFrom.and (BoxP.from _ _ _ _) (ownFrom_below (Nat.le_refl _) hx0.size))
   (fun _ _ _ _ _ hs _ _ => hs)
   ⟨⟨_, hbox.1, hbox.2, Own.nil _ _ _ _ _, by rintro b ⟨g, n', c', he, hc, rfl⟩; cases he⟩, hx0⟩
   (fun x a' W => ∃ Bx, (W.cell? ⟨Bx, 0, none⟩ = some (St x.1) /\ W.cell? ⟨Bx, 1, none⟩ = some (St x.2.1) /\ W.cell? ⟨Bx, 2, none⟩ = some (U x.2.2)) /\
     a' = { tmps := #[.slice none 0 0, .func (.func 231) #[] #[.pointer (some ⟨B, 0, none⟩)], .pointer (some ⟨w.heap.size, 0, none⟩), undef, .slice none 0 0, .pointer (some ⟨Bx, 0, none⟩), .func (.func 231) #[] #[.pointer (some ⟨B, 0, none⟩)], zar x, undef, undef, undef, undef, undef], defers := [] })
   (fun x a' s W W' row ⟨Bx, ⟨h1, h2, h3⟩, h4⟩ hg hr => ⟨Bx, ⟨cell_kept h1 hg (fun r e => (hr r e).2), cell_kept h2 hg (fun r e => (hr r e).2), cell_kept h3 hg (fun r e => (hr r e).2)⟩, h4⟩)
   ?assign ?body ?done ?stop
 case assign =>
   rintro l pre x W K ⟨⟨v, hv1, hv2, hv3, hv4⟩, hB1⟩ hK
   have hE := (Ext.refl W).alloc (.cells #[St x.1, St x.2.1, U x.2.2] 220)
   dsimp only [zar]
   gi_wp2
   have hn3 := hB1.size
   exact hK _ _ ((KeepsOthers.alloc _ _).from _) ⟨hE.kpS hn3, (KeepsOthers.alloc _ _).walks⟩ ⟨⟨v, hE.cell hv1, (hE.frozen (zae hv1)).trans hv2, hv3.ext hE, hv4⟩, Below.trans hB1 (hE.below hn3)⟩
     ⟨W.heap.size, ⟨by simp [go_sem], by simp [go_sem], by simp [go_sem]⟩, rfl⟩
 case body =>
   rintro l pre x a' W hl - ⟨⟨v, hv1, hv2, hv3, hv4⟩, hB1⟩ ⟨Bx, ⟨p0, p1, p2⟩, rfl⟩ hlt
   have hn3 := hB1.size
   gi_wp2_with (gi_at_builtin; refine zfl rfl (.tmp 8) (.tmp 10) 261 rfl w.heap.size 220 3 40 (.agg #[St [], St [], U 0]) Tryz.underlying261 zud rfl (by omega) v pre.length (pre.flatMap zcm) rfl (hv3.alloc _) _ 1 1 _ rfl (Src.new rfl (by intro u hu; simp at hu; rcases hu with rfl | rfl | rfl <;> rfl)) (by omega) (by omega) (by simp; omega) ?_; intro v' w' hown hgr
                have hE := (Ext.refl W).alloc (.cells #[St x.1, St x.2.1, U x.2.2] 220)
                obtain ⟨e1, e2, hbr⟩ := BoxP.grew (l' := pre ++ [x]) (hE.cell hv1) ((hE.frozen (zae hv1)).trans hv2) hv4 hgr (by simpa [zcm] using hown)
                have hff := hown.form
                obtain ⟨g', cap', rfl, -, -⟩ := hff)
   have hE := (Ext.refl W).alloc (.cells #[St x.1, St x.2.1, U x.2.2] 220)
   have hko := (KeepsOthers.alloc _ _).trans (hgr.keeps (hv3.alloc _))
   have hkp : KpS (fun b => b = p) w.heap.size W w' := (hE.kpS hn3).trans (KpS.grew hgr (Nat.le_trans hn3 hE.size) (fun b h h2 => (hv3.base_le h).1))
   have hBw := Ext.grewOwn (Below.trans hB1 (Below.mono hE hn3)) hgr (hv3.alloc _) (Nat.le_refl _)
   have hk2 := hko.trans (KeepsOthers.setCell w' ⟨w.heap.size, 0, none⟩ (.slice g' (pre.length + 1) cap'))
   exact ⟨hk2.from _, ⟨hkp.trans (KpS.set _ (fun _ => Nat.le_refl _) _), hk2.walks⟩, hbr, Below.setCell hBw (by simp) _⟩
 case done =>
   rintro D ys W hD hys ⟨⟨v, hv1, hv2, hv3, hv4⟩, hB1⟩ hK
   have hff := hv3.form
   obtain ⟨g', cap', rfl, -, -⟩ := hff
   gi_wp2
   refine ⟨by simp, .inl ⟨_, _, rfl, run_takeDeferred hK, ?_⟩⟩
   refine ⟨_, results_tmp rfl _ _ _, .slice g' ys.length cap', ys, rfl, hys, hv3.kept (grownBy_putObj' W D _) (fun r e => by cases e; exact ⟨_, hK, rfl⟩), ?_⟩
   exact Below.trans hB1 (belowK_b (w := w) (Nat.le_refl _) W D _ _ (by have := hx0.size; omega) hK rfl rfl)
 case stop =>
   rintro D c pre W _ _ h _
   exact h.elim
end
theorem zq9 {p B:Nat} {ks:List zan} {w:World} (hB:w.cell? ⟨B,0,none⟩=some (.map (some p))) (hm:SetOf zar w p ks) (hL:ks.length<=1099511627776) :
  Calls Tryz.prog 229 #[.func (.func 231) #[] #[.pointer (some ⟨B,0,none⟩)]] w fun e w'=>∃ (v':Value) (ys:List zan),e=.returned v'/\ys.Perm ks/\Own w' w.heap.size 220 3 v' ys.length (ys.flatMap zcm)/\Ext w w':=by
 have H:=zH (zox hB hm hL);clear hB hm;go_enter Tryz.func229,Tryz.ntmps229;go_wp2_with fail;refine H.out.mono ?_;rintro e w1 ⟨v',ys,rfl,hp,hv,hx⟩;have HV:=zH hv;have HP:=zH hp;clear hv hp;go_wp2_with fail;go_ret;exact⟨_,ys,rfl,HP.out,HV.out,hx⟩
end
end Go.Proofs.YtaabaflgeljbjaaGreat
