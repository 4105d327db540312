/- Laws. -/
import Derived.Test.YtblkikjmocnllaaGreatDoorQz30
import Derived.Test.YtblkikjmocnllaaGreatDoorQz02
import Derived.Test.YtblkikjmocnllaaGreatDoorQz15
import Derived.Test.YtblkikjmocnllaaGreatDoorQz10
import Derived.Test.YtblkikjmocnllaaGreatDoorQz18
set_option linter.unusedVariables false
set_option linter.unusedSimpArgs false
set_option maxRecDepth 100000
set_option maxHeartbeats 40000000
namespace Go.Proofs.YtblkikjmocnllaaGreatDoor
section
open Go.RowKit Go.Shelf
abbrev strC (s:Str):List Value:=[St s]
theorem strC_flat (l:List Str):l.flatMap strC=l.map St:=by
 induction l with
 | nil=>rfl
 | cons a r ih=>simp [strC,ih]
section
attribute [local go_sem] Oper.semAt_some
def KpW (S:Nat->Prop) (n:Nat) (W W':World):Prop:=KpS S n W W'/\KeepsWalks W W'
theorem RangeIs.walk {κ ν:Type} [DecidableEq κ] {K:κ->Value} {V:ν->Value} {w w':World} {b r:Nat} {L rest:List (κ × ν)} (h:RangeIs K V w b r L rest) (hb:w'.heap[b]? = w.heap[b]?) (hk:KeepsWalks w w'):RangeIs K V w' b r L rest:=by
 refine h.keep hb ?_
 obtain⟨es,c,s,h1,h2,h3,h4,h5,h6,h7⟩:=h
 rw [h6]
 exact hk.same r _ h6 rfl
theorem keysS1_inW (n l B p n₀:Nat) {S:Nat->Prop} {L:List (Str × Word)} (J Jx:List Str->World->Prop) (hn:1<=n) (W:World) (hJ:AbidesFrom W.heap.size J) (hn₀:n₀<=W.heap.size)
  (hY:∀ pre x W,J pre W->pre.length < L.length->YieldAt Fence.wide (n - 1) Tryz.prog l #[St x] W fun e W' =>
   (e=.returned (.bool true)/\J (pre++[x]) W'/\KpW S n₀ W W') ∨ (e=.returned (.bool false)/\Jx (pre++[x]) W'))
  (hB:W.cell? ⟨B,0,none⟩=some (.map (some p))) (hm:MapIs St wordV W p L) (hS:S p/\p < n₀) (h0:J [] W) :
  CallsIn Fence.wide n Tryz.prog 173 #[.func (.yield l) #[] #[],.pointer (some ⟨B,0,none⟩)] W fun e W'=>(∃ v,e=.returned v) /\
   ((∃ ys,ys.Perm (L.map Prod.fst)/\J ys W') ∨ (∃ pre,pre.length<=L.length/\Jx pre W')):=by
 obtain⟨W1,hr,hR,hx1,hsz⟩:=run_range_MapIs (P:=Tryz.prog) Tryz.underlying151 hm
 have HR:=Lib.hid hR
 have HJ1:=Lib.hid (hJ [] W W1 none h0 (ext_grownBy hx1) (by simp))
 have hrs:W.heap.size < W1.heap.size:=by omega
 clear hR
 refine callsIn_of_wp Tryz.func173 rfl trivial ?_ rfl
 simp only [Tryz.ntmps173,List.size_toArray,List.length_cons,List.length_nil,Nat.reduceAdd,Nat.reduceSub,Array.replicate_succ,Array.replicate_zero,List.push_toArray,List.append_toArray,List.nil_append,List.cons_append]
 gi_wp2
 gi_loopw [3] (fun u wr=>∃ done rest,(done++rest.map Prod.fst).Perm (L.map Prod.fst)/\RangeIs St wordV wr p W.heap.size L rest/\J done wr/\KpS S n₀ W wr) (fun _ wr=>wr.rangeLeft p W.heap.size)
 case atStart=>exact⟨[],L,.refl _,HR.out,HJ1.out,hx1.kpS hn₀⟩
 case round =>
  obtain⟨done,rest,hperm,hR,hJd,hk⟩:=hrel
  rcases run_next_MapIs (P:=Tryz.prog) 0 hR with ⟨rfl,hrun⟩ | ⟨r1,q,r2,wn,rfl,hrun,hR2,ht,hent⟩
  ·have hnx:∀ ty,(Instr.next (.pointer (some ⟨W.heap.size,0,none⟩)) false ty).run Tryz.prog wr=.ok (.tuple #[.bool false]) wr:=fun ty=>hrun
   have HPM:=Lib.hid hperm
   have HJD:=Lib.hid hJd
   clear hperm hR hrun hJd
   gi_wp2
   go_end0
   exact⟨⟨_,rfl⟩,.inl ⟨done,by simpa using HPM.out,HJD.out⟩⟩
  ·have hnx:∀ ty,(Instr.next (.pointer (some ⟨W.heap.size,0,none⟩)) false ty).run Tryz.prog wr=.ok (.tuple #[.bool true,St q.1,wordV q.2]) wn:=fun ty=>hrun
   have hlen:done.length < L.length:=by
    have:=hperm.length_eq
    simp at this
    omega
   have hJn:J done wn:=hJ done wr wn (some W.heap.size) hJd ⟨ht.os,ht.tape,ht.output,by rw [ht.size];exact Nat.le_refl _,fun j _ hj=>ht.other j (fun e=>hj (by rw [e]))⟩ (fun r e=>by
    cases e
    obtain⟨es,c,s,h1,h2,h3,h4,h5,h6,h7⟩:=hR
    exact⟨Nat.le_refl _,_,h6,rfl⟩)
   have hkn:KpS S n₀ wr wn:=⟨by rw [ht.size];exact Nat.le_refl _,fun j _ hj=>ht.other j (by omega)⟩
   obtain⟨fn,tmps,assign,body,hy,hRd⟩:=hY done q.1 wn hJn hlen
   have HML:=Lib.hid hR.left_eq
   have HR2:=Lib.hid hR2
   have HPM:=Lib.hid hperm
   have HK:=Lib.hid (hk.trans hkn)
   clear hperm hR hrun hR2 hk hkn ht hJn hJd
   gi_wp2
   refine hRd.mono ?_
   rintro e W3 (⟨rfl,hJ3,hk3⟩ | ⟨rfl,hJx3⟩)
   ·have hR3:=HR2.out.walk (hk3.1.2 p hS.1 hS.2) hk3.2
    have HM3:=Lib.hid hR3.left_eq
    have HR3:=Lib.hid hR3
    clear hR3
    gi_wp2
    go_roundw
    case rel=>exact⟨done++[q.1],r1++r2,by
     have h1:=HPM.out
     simp only [List.map_append,List.map_cons] at h1 ⊢
     rw [List.append_assoc]
     exact ((List.perm_middle (l₁:=r1.map Prod.fst) (a:=q.1) (l₂:=r2.map Prod.fst)).symm.append_left done).trans h1,HR3.out,hJ3,HK.out.trans hk3.1⟩
    case measure=>rw [HML.out,HM3.out];simp
   ·gi_wp2
    refine bodyPost_ret (results_none rfl _ _ _) rfl ?_
    exact⟨⟨_,rfl⟩,.inr ⟨done++[q.1],by simp;omega,hJx3⟩⟩
theorem keysS_anyW (p:Nat) (w:World):Calls Tryz.prog 146 #[.map (some p)] w fun e w'=>e=.returned (.func (.func 173) #[] #[.pointer (some ⟨w.heap.size,0,none⟩)])/\w'=w.alloc (.cells #[.map (some p)] 151):=by
 go_enter Tryz.func146,Tryz.ntmps146
 go_wp2
 go_ret
 exact⟨rfl,rfl⟩
theorem keysS_stopsW (n:Nat) (hn:1<=n) {p B n₀:Nat} {L:List (Str × Word)} {w:World} (hn₀:n₀<=w.heap.size) (hB:w.cell? ⟨B,0,none⟩=some (.map (some p))) (hm:MapIs St wordV w p L) (hp:p < n₀) :
  SeqStopsK Fence.wide n Tryz.prog 173 #[.pointer (some ⟨B,0,none⟩)] (fun x=>#[St x]) (KpW (fun b=>b=p) n₀) (fun ys=>ys.Perm (L.map Prod.fst)) (fun pre=>pre.length<=L.length) L.length w :=
 fun l J Jx W hW hJ _ hY h0=>keysS1_inW n l B p n₀ J Jx hn W hJ (Nat.le_trans hn₀ hW.size) hY (hW.cell (p:=⟨B,0,none⟩) (blk_of_cell hB) |>.trans hB) (hm.ext hW) ⟨rfl,hp⟩ h0
def BoxSW (bx base:Nat) (T:TypeId) (l:List Str) (W:World):Prop :=
 ∃ v,W.cell? ⟨bx,0,none⟩=some v/\W.frozen? ⟨bx,0,none⟩=false/\Own W base T 1 v l.length (l.flatMap strC)/\∀ b,ownBlk v b->b ≠ bx
theorem BoxSW.from (bx base:Nat) (T:TypeId) (B:Nat):OwnFrom B (fun s W=>BoxSW bx base T s W):=fun s W W' row ⟨v,h1,h2,h3,h4⟩ hg hr =>
 ⟨v,cell_kept h1 hg (fun r e=>(hr r e).2),(frozen_kept h1 hg (fun r e=>(hr r e).2)).trans h2,h3.kept hg (fun r e=>(hr r e).2),h4⟩
theorem BoxSW.grew {bx base:Nat} {T:TypeId} {l':List Str} {W W':World} {v v':Value} (hv1:W.cell? ⟨bx,0,none⟩=some v) (hv2:W.frozen? ⟨bx,0,none⟩=false) (hv4:∀ b,ownBlk v b->b ≠ bx)
  (hgr:Grew W W' v v') (hown:Own W' base T 1 v' l'.length (l'.flatMap strC)):W'.cell? ⟨bx,0,none⟩=some v/\W'.frozen? ⟨bx,0,none⟩=false/\BoxSW bx base T l' (W'.setCell ⟨bx,0,none⟩ v'):=by
 have hb:=blk_of_cell hv1
 have hsame:=hgr.same bx hb (fun h=>hv4 _ h rfl)
 have e1:W'.cell? ⟨bx,0,none⟩=some v:=(World.cell?_of_block (a:=⟨bx,0,none⟩) hsame).trans hv1
 have e2:W'.frozen? ⟨bx,0,none⟩=false:=by
  unfold World.frozen? at hv2 ⊢
  simp only [] at hv2 ⊢
  rw [hsame]
  exact hv2
 have hblk:∀ b,ownBlk v' b->b ≠ bx:=fun b hb'=>by
  rcases hgr.blk b hb' with h | h
  ·exact hv4 b h
  ·subst h;omega
 refine ⟨e1,e2,v',World.cell?_setCell_same' _ _ _ (by rw [e1];rfl),by rw [World.frozen?_setCell];exact e2,?_,hblk⟩
 exact hown.keep fun b hb' _=>Below.heap_setCell W' _ v' b (hblk b hb')
set_option maxRecDepth 100000 in
set_option maxHeartbeats 1000000 in
theorem appendSeqS_anyW {p B : Nat} {L : List (Str × Word)} {w : World} (hB : w.cell? ⟨B, 0, none⟩ = some (.map (some p))) (hm : MapIs St wordV w p L) (hL : L.length <= 1099511627776) :
   Calls Tryz.prog 167 #[.slice none 0 0, .func (.func 173) #[] #[.pointer (some ⟨B, 0, none⟩)]] w fun e w' =>
     ∃ (v' : Value) (ys : List Str), e = .returned v' /\ ys.Perm (L.map Prod.fst) /\ Own w' w.heap.size 9 1 v' ys.length (ys.flatMap strC) /\ Ext w w' := by
 have hx0 : Ext w (w.alloc (.cells #[.slice none 0 0] 56)) := (Ext.refl w).alloc _
 have hbox := box_new w (.slice none 0 0) 56
 have hseq := keysS_stopsW 8 (by omega) (n₀ := w.heap.size) hx0.size (hx0.cell hB) (hm.ext hx0) hm.lt
 refine (callsIn_wide (n := 9)).1 ?_
 refine callsIn_of_wp_marks Tryz.func167 rfl trivial ?_ rfl
 simp only [Tryz.ntmps167, List.size_toArray, List.length_cons, List.length_nil, Nat.reduceAdd, Nat.reduceSub, Array.replicate_succ, Array.replicate_zero, List.push_toArray, List.append_toArray, List.nil_append, List.cons_append]
 gi_wp2
 generalize w.alloc (.cells #[.slice none 0 0] 56) = W0 at *
 refine wpIn_rangeFunc_ownG rfl (by omega) (gf := 173) (lb := #[.pointer (some ⟨B, 0, none⟩)]) rfl trivial (enters_of Tryz.func173 (by kernel_rfl) rfl)
   hseq (fun h k => ⟨h.1.trans k.1, h.2.trans k.2⟩) (fun W l o o' hl h1 h2 h3 => ⟨KpS.put hx0.size W l o o' hl h1 h2 h3, KeepsWalks.putObj o' h1 h3⟩) (Below.refl _ _) (fun _ => rfl)
   (fun pre W => BoxSW w.heap.size w.heap.size 9 pre W /\ Below w.heap.size w W)
   (fun _ _ _ => False)
   (OwnFrom.and (BoxSW.from _ _ _ _) (ownFrom_below (Nat.le_refl _) hx0.size))
   (fun _ _ _ _ _ hs _ _ => hs)
   ⟨⟨_, hbox.1, hbox.2, Own.nil _ _ _ _ _, by rintro b ⟨g, n', c', he, hc, rfl⟩; cases he⟩, hx0⟩
   (fun x => { tmps := #[.slice none 0 0, .func (.func 173) #[] #[.pointer (some ⟨B, 0, none⟩)], .pointer (some ⟨w.heap.size, 0, none⟩), undef, .slice none 0 0, St x, .func (.func 173) #[] #[.pointer (some ⟨B, 0, none⟩)], St x, undef, undef, undef, undef, undef], defers := [] })
   ?assign ?body ?done ?stop
 case assign =>
   intro l x W K hK
   gi_wp2
   exact hK
 case body =>
   rintro l pre x W ⟨⟨v, hv1, hv2, hv3, hv4⟩, hB1⟩ hlt
   have hn3 := hB1.size
   gi_wp2_with (gi_at_builtin; refine wpListIn_append_Own rfl (.tmp 8) (.tmp 10) 56 rfl w.heap.size 9 1 16 (St []) Tryz.underlying56 info_str rfl (by omega) v pre.length (pre.flatMap strC) rfl (hv3.alloc _) _ 1 1 _ rfl (Src.new rfl (by intro u hu; rw [List.mem_singleton.1 hu]; rfl)) (by omega) (by omega) (by simp; omega) ?_; intro v' w' hown hgr
                have hE := (Ext.refl W).alloc (.cells #[St x] 9)
                obtain ⟨e1, e2, hbr⟩ := BoxSW.grew (l' := pre ++ [x]) (hE.cell hv1) ((hE.frozen (blk_of_cell hv1)).trans hv2) hv4 hgr (by simpa [strC] using hown)
                have hff := hown.form
                obtain ⟨g', cap', rfl, -, -⟩ := hff)
   have hE := (Ext.refl W).alloc (.cells #[St x] 9)
   have hko := (KeepsOthers.alloc _ _).trans (hgr.keeps (hv3.alloc _))
   have hkp : KpS (fun b => b = p) w.heap.size W w' := (hE.kpS hn3).trans (KpS.grew hgr (Nat.le_trans hn3 hE.size) (fun b h h2 => (hv3.base_le h).1))
   have hBw := Ext.grewOwn (Below.trans hB1 (Below.mono hE hn3)) hgr (hv3.alloc _) (Nat.le_refl _)
   have hk2 := hko.trans (KeepsOthers.setCell w' ⟨w.heap.size, 0, none⟩ (.slice g' (pre.length + 1) cap'))
   exact ⟨hk2.from _, ⟨hkp.trans (KpS.set _ (fun _ => Nat.le_refl _) _), hk2.walks⟩, hbr, Below.setCell hBw (by simp) _⟩
 case done =>
   rintro D ys W hD hys ⟨⟨v, hv1, hv2, hv3, hv4⟩, hB1⟩ hK
   have hff := hv3.form
   obtain ⟨g', cap', rfl, -, -⟩ := hff
   gi_wp2
   refine ⟨by simp, .inl ⟨_, _, rfl, run_takeDeferred hK, ?_⟩⟩
   refine ⟨_, results_tmp rfl _ _ _, .slice g' ys.length cap', ys, rfl, hys, hv3.kept (grownBy_putObj' W D _) (fun r e => by cases e; exact ⟨_, hK, rfl⟩), ?_⟩
   exact Below.trans hB1 (belowK_b (w := w) (Nat.le_refl _) W D _ _ (by have := hx0.size; omega) hK rfl rfl)
 case stop =>
   rintro D c pre W _ _ h _
   exact h.elim
end
theorem collectS_anyW {p B:Nat} {L:List (Str × Word)} {w:World} (hB:w.cell? ⟨B,0,none⟩=some (.map (some p))) (hm:MapIs St wordV w p L) (hL:L.length<=1099511627776) :
  Calls Tryz.prog 136 #[.func (.func 173) #[] #[.pointer (some ⟨B,0,none⟩)]] w fun e w' =>
   ∃ (v':Value) (ys:List Str),e=.returned v'/\ys.Perm (L.map Prod.fst)/\Own w' w.heap.size 9 1 v' ys.length (ys.flatMap strC)/\Ext w w':=by
 have H:=Lib.hid (appendSeqS_anyW hB hm hL)
 clear hB hm
 go_enter Tryz.func136,Tryz.ntmps136
 go_wp2_with fail
 refine H.out.mono ?_
 rintro e w1 ⟨v',ys,rfl,hp,hv,hx⟩
 have HV:=Lib.hid hv
 have HP:=Lib.hid hp
 clear hv hp
 go_wp2_with fail
 go_ret
 exact⟨_,ys,rfl,HP.out,HV.out,hx⟩
def mpV (e:MP):Value:=mbrV e.1 e.2.1 e.2.2
section
attribute [local go_sem] Oper.semAt_some
theorem keysS1_inM (n l B p n₀:Nat) {S:Nat->Prop} {L:List (Str × MP)} (J Jx:List Str->World->Prop) (hn:1<=n) (W:World) (hJ:AbidesFrom W.heap.size J) (hn₀:n₀<=W.heap.size)
  (hY:∀ pre x W,J pre W->pre.length < L.length->YieldAt Fence.wide (n - 1) Tryz.prog l #[St x] W fun e W' =>
   (e=.returned (.bool true)/\J (pre++[x]) W'/\KpW S n₀ W W') ∨ (e=.returned (.bool false)/\Jx (pre++[x]) W'))
  (hB:W.cell? ⟨B,0,none⟩=some (.map (some p))) (hm:MapIs St mpV W p L) (hS:S p/\p < n₀) (h0:J [] W) :
  CallsIn Fence.wide n Tryz.prog 138 #[.func (.yield l) #[] #[],.pointer (some ⟨B,0,none⟩)] W fun e W'=>(∃ v,e=.returned v) /\
   ((∃ ys,ys.Perm (L.map Prod.fst)/\J ys W') ∨ (∃ pre,pre.length<=L.length/\Jx pre W')):=by
 obtain⟨W1,hr,hR,hx1,hsz⟩:=run_range_MapIs (P:=Tryz.prog) Tryz.underlying115 hm
 have HR:=Lib.hid hR
 have HJ1:=Lib.hid (hJ [] W W1 none h0 (ext_grownBy hx1) (by simp))
 have hrs:W.heap.size < W1.heap.size:=by omega
 clear hR
 refine callsIn_of_wp Tryz.func138 rfl trivial ?_ rfl
 simp only [Tryz.ntmps138,List.size_toArray,List.length_cons,List.length_nil,Nat.reduceAdd,Nat.reduceSub,Array.replicate_succ,Array.replicate_zero,List.push_toArray,List.append_toArray,List.nil_append,List.cons_append]
 gi_wp2
 gi_loopw [3] (fun u wr=>∃ done rest,(done++rest.map Prod.fst).Perm (L.map Prod.fst)/\RangeIs St mpV wr p W.heap.size L rest/\J done wr/\KpS S n₀ W wr) (fun _ wr=>wr.rangeLeft p W.heap.size)
 case atStart=>exact⟨[],L,.refl _,HR.out,HJ1.out,hx1.kpS hn₀⟩
 case round =>
  obtain⟨done,rest,hperm,hR,hJd,hk⟩:=hrel
  rcases run_next_MapIs (P:=Tryz.prog) 0 hR with ⟨rfl,hrun⟩ | ⟨r1,q,r2,wn,rfl,hrun,hR2,ht,hent⟩
  ·have hnx:∀ ty,(Instr.next (.pointer (some ⟨W.heap.size,0,none⟩)) false ty).run Tryz.prog wr=.ok (.tuple #[.bool false]) wr:=fun ty=>hrun
   have HPM:=Lib.hid hperm
   have HJD:=Lib.hid hJd
   clear hperm hR hrun hJd
   gi_wp2
   go_end0
   exact⟨⟨_,rfl⟩,.inl ⟨done,by simpa using HPM.out,HJD.out⟩⟩
  ·have hnx:∀ ty,(Instr.next (.pointer (some ⟨W.heap.size,0,none⟩)) false ty).run Tryz.prog wr=.ok (.tuple #[.bool true,St q.1,mpV q.2]) wn:=fun ty=>hrun
   have hlen:done.length < L.length:=by
    have:=hperm.length_eq
    simp at this
    omega
   have hJn:J done wn:=hJ done wr wn (some W.heap.size) hJd ⟨ht.os,ht.tape,ht.output,by rw [ht.size];exact Nat.le_refl _,fun j _ hj=>ht.other j (fun e=>hj (by rw [e]))⟩ (fun r e=>by
    cases e
    obtain⟨es,c,s,h1,h2,h3,h4,h5,h6,h7⟩:=hR
    exact⟨Nat.le_refl _,_,h6,rfl⟩)
   have hkn:KpS S n₀ wr wn:=⟨by rw [ht.size];exact Nat.le_refl _,fun j _ hj=>ht.other j (by omega)⟩
   obtain⟨fn,tmps,assign,body,hy,hRd⟩:=hY done q.1 wn hJn hlen
   have HML:=Lib.hid hR.left_eq
   have HR2:=Lib.hid hR2
   have HPM:=Lib.hid hperm
   have HK:=Lib.hid (hk.trans hkn)
   clear hperm hR hrun hR2 hk hkn ht hJn hJd
   gi_wp2
   refine hRd.mono ?_
   rintro e W3 (⟨rfl,hJ3,hk3⟩ | ⟨rfl,hJx3⟩)
   ·have hR3:=HR2.out.walk (hk3.1.2 p hS.1 hS.2) hk3.2
    have HM3:=Lib.hid hR3.left_eq
    have HR3:=Lib.hid hR3
    clear hR3
    gi_wp2
    go_roundw
    case rel=>exact⟨done++[q.1],r1++r2,by
     have h1:=HPM.out
     simp only [List.map_append,List.map_cons] at h1 ⊢
     rw [List.append_assoc]
     exact ((List.perm_middle (l₁:=r1.map Prod.fst) (a:=q.1) (l₂:=r2.map Prod.fst)).symm.append_left done).trans h1,HR3.out,hJ3,HK.out.trans hk3.1⟩
    case measure=>rw [HML.out,HM3.out];simp
   ·gi_wp2
    refine bodyPost_ret (results_none rfl _ _ _) rfl ?_
    exact⟨⟨_,rfl⟩,.inr ⟨done++[q.1],by simp;omega,hJx3⟩⟩
theorem keysS_anyM (p:Nat) (w:World):Calls Tryz.prog 105 #[.map (some p)] w fun e w'=>e=.returned (.func (.func 138) #[] #[.pointer (some ⟨w.heap.size,0,none⟩)])/\w'=w.alloc (.cells #[.map (some p)] 115):=by
 go_enter Tryz.func105,Tryz.ntmps105
 go_wp2
 go_ret
 exact⟨rfl,rfl⟩
theorem keysS_stopsM (n:Nat) (hn:1<=n) {p B n₀:Nat} {L:List (Str × MP)} {w:World} (hn₀:n₀<=w.heap.size) (hB:w.cell? ⟨B,0,none⟩=some (.map (some p))) (hm:MapIs St mpV w p L) (hp:p < n₀) :
  SeqStopsK Fence.wide n Tryz.prog 138 #[.pointer (some ⟨B,0,none⟩)] (fun x=>#[St x]) (KpW (fun b=>b=p) n₀) (fun ys=>ys.Perm (L.map Prod.fst)) (fun pre=>pre.length<=L.length) L.length w :=
 fun l J Jx W hW hJ _ hY h0=>keysS1_inM n l B p n₀ J Jx hn W hJ (Nat.le_trans hn₀ hW.size) hY (hW.cell (p:=⟨B,0,none⟩) (blk_of_cell hB) |>.trans hB) (hm.ext hW) ⟨rfl,hp⟩ h0
def BoxSM (bx base:Nat) (T:TypeId) (l:List Str) (W:World):Prop :=
 ∃ v,W.cell? ⟨bx,0,none⟩=some v/\W.frozen? ⟨bx,0,none⟩=false/\Own W base T 1 v l.length (l.flatMap strC)/\∀ b,ownBlk v b->b ≠ bx
theorem BoxSM.from (bx base:Nat) (T:TypeId) (B:Nat):OwnFrom B (fun s W=>BoxSM bx base T s W):=fun s W W' row ⟨v,h1,h2,h3,h4⟩ hg hr =>
 ⟨v,cell_kept h1 hg (fun r e=>(hr r e).2),(frozen_kept h1 hg (fun r e=>(hr r e).2)).trans h2,h3.kept hg (fun r e=>(hr r e).2),h4⟩
theorem BoxSM.grew {bx base:Nat} {T:TypeId} {l':List Str} {W W':World} {v v':Value} (hv1:W.cell? ⟨bx,0,none⟩=some v) (hv2:W.frozen? ⟨bx,0,none⟩=false) (hv4:∀ b,ownBlk v b->b ≠ bx)
  (hgr:Grew W W' v v') (hown:Own W' base T 1 v' l'.length (l'.flatMap strC)):W'.cell? ⟨bx,0,none⟩=some v/\W'.frozen? ⟨bx,0,none⟩=false/\BoxSM bx base T l' (W'.setCell ⟨bx,0,none⟩ v'):=by
 have hb:=blk_of_cell hv1
 have hsame:=hgr.same bx hb (fun h=>hv4 _ h rfl)
 have e1:W'.cell? ⟨bx,0,none⟩=some v:=(World.cell?_of_block (a:=⟨bx,0,none⟩) hsame).trans hv1
 have e2:W'.frozen? ⟨bx,0,none⟩=false:=by
  unfold World.frozen? at hv2 ⊢
  simp only [] at hv2 ⊢
  rw [hsame]
  exact hv2
 have hblk:∀ b,ownBlk v' b->b ≠ bx:=fun b hb'=>by
  rcases hgr.blk b hb' with h | h
  ·exact hv4 b h
  ·subst h;omega
 refine ⟨e1,e2,v',World.cell?_setCell_same' _ _ _ (by rw [e1];rfl),by rw [World.frozen?_setCell];exact e2,?_,hblk⟩
 exact hown.keep fun b hb' _=>Below.heap_setCell W' _ v' b (hblk b hb')
set_option maxRecDepth 100000 in
set_option maxHeartbeats 1000000 in
theorem appendSeqS_anyM {p B : Nat} {L : List (Str × MP)} {w : World} (hB : w.cell? ⟨B, 0, none⟩ = some (.map (some p))) (hm : MapIs St mpV w p L) (hL : L.length <= 1099511627776) :
   Calls Tryz.prog 167 #[.slice none 0 0, .func (.func 138) #[] #[.pointer (some ⟨B, 0, none⟩)]] w fun e w' =>
     ∃ (v' : Value) (ys : List Str), e = .returned v' /\ ys.Perm (L.map Prod.fst) /\ Own w' w.heap.size 9 1 v' ys.length (ys.flatMap strC) /\ Ext w w' := by
 have hx0 : Ext w (w.alloc (.cells #[.slice none 0 0] 56)) := (Ext.refl w).alloc _
 have hbox := box_new w (.slice none 0 0) 56
 have hseq := keysS_stopsM 8 (by omega) (n₀ := w.heap.size) hx0.size (hx0.cell hB) (hm.ext hx0) hm.lt
 refine (callsIn_wide (n := 9)).1 ?_
 refine callsIn_of_wp_marks Tryz.func167 rfl trivial ?_ rfl
 simp only [Tryz.ntmps167, List.size_toArray, List.length_cons, List.length_nil, Nat.reduceAdd, Nat.reduceSub, Array.replicate_succ, Array.replicate_zero, List.push_toArray, List.append_toArray, List.nil_append, List.cons_append]
 gi_wp2
 generalize w.alloc (.cells #[.slice none 0 0] 56) = W0 at *
 refine wpIn_rangeFunc_ownG rfl (by omega) (gf := 138) (lb := #[.pointer (some ⟨B, 0, none⟩)]) rfl trivial (enters_of Tryz.func138 (by kernel_rfl) rfl)
   hseq (fun h k => ⟨h.1.trans k.1, h.2.trans k.2⟩) (fun W l o o' hl h1 h2 h3 => ⟨KpS.put hx0.size W l o o' hl h1 h2 h3, KeepsWalks.putObj o' h1 h3⟩) (Below.refl _ _) (fun _ => rfl)
   (fun pre W => BoxSM w.heap.size w.heap.size 9 pre W /\ Below w.heap.size w W)
   (fun _ _ _ => False)
   (OwnFrom.and (BoxSM.from _ _ _ _) (ownFrom_below (Nat.le_refl _) hx0.size))
   (fun _ _ _ _ _ hs _ _ => hs)
   ⟨⟨_, hbox.1, hbox.2, Own.nil _ _ _ _ _, by rintro b ⟨g, n', c', he, hc, rfl⟩; cases he⟩, hx0⟩
   (fun x => { tmps := #[.slice none 0 0, .func (.func 138) #[] #[.pointer (some ⟨B, 0, none⟩)], .pointer (some ⟨w.heap.size, 0, none⟩), undef, .slice none 0 0, St x, .func (.func 138) #[] #[.pointer (some ⟨B, 0, none⟩)], St x, undef, undef, undef, undef, undef], defers := [] })
   ?assign ?body ?done ?stop
 case assign =>
   intro l x W K hK
   gi_wp2
   exact hK
 case body =>
   rintro l pre x W ⟨⟨v, hv1, hv2, hv3, hv4⟩, hB1⟩ hlt
   have hn3 := hB1.size
   gi_wp2_with (gi_at_builtin; refine wpListIn_append_Own rfl (.tmp 8) (.tmp 10) 56 rfl w.heap.size 9 1 16 (St []) Tryz.underlying56 info_str rfl (by omega) v pre.length (pre.flatMap strC) rfl (hv3.alloc _) _ 1 1 _ rfl (Src.new rfl (by intro u hu; rw [List.mem_singleton.1 hu]; rfl)) (by omega) (by omega) (by simp; omega) ?_; intro v' w' hown hgr
                have hE := (Ext.refl W).alloc (.cells #[St x] 9)
                obtain ⟨e1, e2, hbr⟩ := BoxSM.grew (l' := pre ++ [x]) (hE.cell hv1) ((hE.frozen (blk_of_cell hv1)).trans hv2) hv4 hgr (by simpa [strC] using hown)
                have hff := hown.form
                obtain ⟨g', cap', rfl, -, -⟩ := hff)
   have hE := (Ext.refl W).alloc (.cells #[St x] 9)
   have hko := (KeepsOthers.alloc _ _).trans (hgr.keeps (hv3.alloc _))
   have hkp : KpS (fun b => b = p) w.heap.size W w' := (hE.kpS hn3).trans (KpS.grew hgr (Nat.le_trans hn3 hE.size) (fun b h h2 => (hv3.base_le h).1))
   have hBw := Ext.grewOwn (Below.trans hB1 (Below.mono hE hn3)) hgr (hv3.alloc _) (Nat.le_refl _)
   have hk2 := hko.trans (KeepsOthers.setCell w' ⟨w.heap.size, 0, none⟩ (.slice g' (pre.length + 1) cap'))
   exact ⟨hk2.from _, ⟨hkp.trans (KpS.set _ (fun _ => Nat.le_refl _) _), hk2.walks⟩, hbr, Below.setCell hBw (by simp) _⟩
 case done =>
   rintro D ys W hD hys ⟨⟨v, hv1, hv2, hv3, hv4⟩, hB1⟩ hK
   have hff := hv3.form
   obtain ⟨g', cap', rfl, -, -⟩ := hff
   gi_wp2
   refine ⟨by simp, .inl ⟨_, _, rfl, run_takeDeferred hK, ?_⟩⟩
   refine ⟨_, results_tmp rfl _ _ _, .slice g' ys.length cap', ys, rfl, hys, hv3.kept (grownBy_putObj' W D _) (fun r e => by cases e; exact ⟨_, hK, rfl⟩), ?_⟩
   exact Below.trans hB1 (belowK_b (w := w) (Nat.le_refl _) W D _ _ (by have := hx0.size; omega) hK rfl rfl)
 case stop =>
   rintro D c pre W _ _ h _
   exact h.elim
end
theorem collectS_anyM {p B:Nat} {L:List (Str × MP)} {w:World} (hB:w.cell? ⟨B,0,none⟩=some (.map (some p))) (hm:MapIs St mpV w p L) (hL:L.length<=1099511627776) :
  Calls Tryz.prog 136 #[.func (.func 138) #[] #[.pointer (some ⟨B,0,none⟩)]] w fun e w' =>
   ∃ (v':Value) (ys:List Str),e=.returned v'/\ys.Perm (L.map Prod.fst)/\Own w' w.heap.size 9 1 v' ys.length (ys.flatMap strC)/\Ext w w':=by
 have H:=Lib.hid (appendSeqS_anyM hB hm hL)
 clear hB hm
 go_enter Tryz.func136,Tryz.ntmps136
 go_wp2_with fail
 refine H.out.mono ?_
 rintro e w1 ⟨v',ys,rfl,hp,hv,hx⟩
 have HV:=Lib.hid hv
 have HP:=Lib.hid hp
 clear hv hp
 go_wp2_with fail
 go_ret
 exact⟨_,ys,rfl,HP.out,HV.out,hx⟩
end
end Go.Proofs.YtblkikjmocnllaaGreatDoor
