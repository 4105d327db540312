/- Laws. -/
import Derived.Test.YtblkikjmocnllaaGreatDoorQz29
import Derived.Test.YtblkikjmocnllaaGreatDoorQz33
import Derived.Test.YtblkikjmocnllaaGreatDoorQz18
import Derived.Test.YtblkikjmocnllaaGreatDoorQz34
import Derived.Test.YtblkikjmocnllaaGreatDoorQz20
import Derived.Test.YtblkikjmocnllaaGreatDoorQz31
set_option linter.unusedVariables false
set_option linter.unusedSimpArgs false
set_option maxRecDepth 100000
set_option maxHeartbeats 40000000
namespace Go.Proofs.YtblkikjmocnllaaGreatDoor
section
open Go.RowKit Go.Shelf
theorem sl_twoM {α:Type} {T:Shape α} {hk:0 < T.k} {w:World} {S S':Nat->Prop} {v v':Value} {l l':List α} (t:TypeId) (h:Sl T w S v l) (h':Sl T w S' v' l') :
  Sl (slT T hk) (w.alloc (.cells #[v,v'] t)) (fun _=>True) (.slice (some ⟨w.heap.size,0,none⟩) 2 2) [l,l'] :=
 ⟨_,2,rfl,Nat.le_refl _,by omega,fun pre x post hl=>by
  cases pre with
  | nil =>
   simp at hl
   obtain⟨rfl,-⟩:=hl
   exact⟨_,0,[v],rfl,trivial,⟨v,rfl,(h.ext hk ((Ext.refl w).alloc _)).mono hk (fun b _ hb=>trivial)⟩,fun j u hj=>by
    rw [cell_of_row _ w.heap.size _ #[v,v'] t (0,0) (Go.heap_alloc_new w _)]
    cases j with
    | zero=>simpa using hj
    | succ j=>simp at hj⟩
  | cons a r =>
   cases r with
   | nil =>
    simp at hl
    obtain⟨rfl,rfl,-⟩:=hl
    exact⟨_,0,[v'],rfl,trivial,⟨v',rfl,(h'.ext hk ((Ext.refl w).alloc _)).mono hk (fun b _ hb=>trivial)⟩,fun j u hj=>by
     rw [cell_of_row _ w.heap.size _ #[v,v'] t (0,0) (Go.heap_alloc_new w _)]
     cases j with
     | zero=>simpa [slT] using hj
     | succ j=>simp at hj⟩
   | cons b r=>simp at hl⟩
theorem spans_stops (n:Nat) (hn:1<=n) {S:Nat->Prop} {tb n₀ c base:Nat} {A:Option Addr} {d:List Span} {w:World} (hd:d.length<=1099511627776) (hn₀:n₀<=w.heap.size) (htb:S tb) (htn:tb < n₀) (hbl:∀ b,ownBlk (.slice A d.length c) b->S b/\b < n₀)
  (h1:w.cell? ⟨tb,0,none⟩=some (.slice A d.length c)) (h2:Own w base 76 2 (.slice A d.length c) d.length (d.flatMap spanC)) :
  SeqStopsK Fence.wide n Tryz.prog 144 #[.pointer (some ⟨tb,0,none⟩)] (fun x:Span=>#[.agg #[I x.1,I x.2]]) (KpS S n₀) (fun ys=>ys=mrg d) (fun pre=>pre <+: mrg d) (mrg d).length w :=
 fun l J Jx W hW hJ _ hY h0=>spans3_in n l tb n₀ hd J Jx hn W hJ (Nat.le_trans hn₀ hW.size) htb htn hbl hY (hW.cell (p:=⟨tb,0,none⟩) (blk_of_cell h1) |>.trans h1) (h2.ext hW) h0
def BoxSp (bx base:Nat) (T:TypeId) (l:List Span) (W:World):Prop :=
 ∃ v,W.cell? ⟨bx,0,none⟩=some v/\W.frozen? ⟨bx,0,none⟩=false/\Own W base T 2 v l.length (l.flatMap spanC)/\∀ b,ownBlk v b->b ≠ bx
theorem BoxSp.from (bx base:Nat) (T:TypeId) (B:Nat):OwnFrom B (fun s W=>BoxSp bx base T s W):=fun s W W' row ⟨v,h1,h2,h3,h4⟩ hg hr =>
 ⟨v,cell_kept h1 hg (fun r e=>(hr r e).2),(frozen_kept h1 hg (fun r e=>(hr r e).2)).trans h2,h3.kept hg (fun r e=>(hr r e).2),h4⟩
theorem BoxSp.grew {bx base:Nat} {T:TypeId} {l':List Span} {W W':World} {v v':Value} (hv1:W.cell? ⟨bx,0,none⟩=some v) (hv2:W.frozen? ⟨bx,0,none⟩=false) (hv4:∀ b,ownBlk v b->b ≠ bx)
  (hgr:Grew W W' v v') (hown:Own W' base T 2 v' l'.length (l'.flatMap spanC)):W'.cell? ⟨bx,0,none⟩=some v/\W'.frozen? ⟨bx,0,none⟩=false/\BoxSp bx base T l' (W'.setCell ⟨bx,0,none⟩ v'):=by
 have hb:=blk_of_cell hv1
 have hsame:=hgr.same bx hb (fun h=>hv4 _ h rfl)
 have e1:W'.cell? ⟨bx,0,none⟩=some v:=(World.cell?_of_block (a:=⟨bx,0,none⟩) hsame).trans hv1
 have e2:W'.frozen? ⟨bx,0,none⟩=false:=by
  unfold World.frozen? at hv2 ⊢
  simp only [] at hv2 ⊢
  rw [hsame]
  exact hv2
 have hblk:∀ b,ownBlk v' b->b ≠ bx:=fun b hb'=>by
  rcases hgr.blk b hb' with h | h
  ·exact hv4 b h
  ·subst h;omega
 refine ⟨e1,e2,v',World.cell?_setCell_same' _ _ _ (by rw [e1];rfl),by rw [World.frozen?_setCell];exact e2,?_,hblk⟩
 exact hown.keep fun b hb' _=>Below.heap_setCell W' _ v' b (hblk b hb')
structure OldK (n g:Nat) (W W':World):Prop where
 os:W'.os=W.os
 tape:W'.tape=W.tape
 output:W'.output=W.output
 size:n<=W'.heap.size
 same:∀ b,b < n->b ≠ g->W'.heap[b]? = W.heap[b]?
theorem OldK.refl {n g:Nat} {W:World} (h:n<=W.heap.size):OldK n g W W:=⟨rfl,rfl,rfl,h,fun _ _ _=>rfl⟩
theorem OldK.ext {n g:Nat} {W W' W'':World} (h:OldK n g W W') (he:Ext W' W''):OldK n g W W'' :=
 ⟨he.os.trans h.os,he.tape.trans h.tape,he.output.trans h.output,Nat.le_trans h.size he.size,fun b hb hg=>(he.block b (by have:=h.size;omega)).trans (h.same b hb hg)⟩
theorem OldK.set {n g j:Nat} {W W':World} (h:OldK n g W W') (v:Value):OldK n g W (W'.setCell ⟨g,j,none⟩ v) :=
 ⟨h.os,h.tape,h.output,by simpa using h.size,fun b hb hg=>(Below.heap_setCell _ _ _ _ hg).trans (h.same b hb hg)⟩
theorem OldK.grew {n g:Nat} {W W' W'':World} {v v':Value} (h:OldK n g W W') (k:Grew W' W'' v v') (hv:∀ b,ownBlk v b->n<=b):OldK n g W W'' :=
 ⟨k.os.trans h.os,k.tape.trans h.tape,k.output.trans h.output,Nat.le_trans h.size k.size,fun b hb hg=>(k.same b (by have:=h.size;omega) (fun ho=>by have:=hv b ho;omega)).trans (h.same b hb hg)⟩
theorem OldK.below {n g:Nat} {w W W':World} (h:OldK n g W W') (he:Ext w W) (hn:w.heap.size<=n) (hg:w.heap.size<=g):Ext w W' :=
 ⟨h.os.trans he.os,h.tape.trans he.tape,h.output.trans he.output,Nat.le_trans hn h.size,fun b hb=>(h.same b (by omega) (by omega)).trans (he.block b hb)⟩
theorem OldK.from (n g:Nat) (W0:World) {β:Type} (B:Nat) (hB:n<=B):OwnFrom B (fun (_:β) W=>OldK n g W0 W):=fun s W W' row h hg hr =>
 ⟨hg.os.trans h.os,hg.tape.trans h.tape,hg.output.trans h.output,Nat.le_trans h.size hg.size,fun b hb hne=>(hg.block b (by have:=h.size;omega) (fun e=>by have:=(hr b e.symm).1;omega)).trans (h.same b hb hne)⟩
theorem mrgF_len:∀ (r:List Span) (s:Span),(mrgF s r).length<=r.length+1
 | [],s=>by simp [mrgF]
 | t :: r,s=>by
  rw [mrgF]
  split
  ·exact Nat.le_trans (mrgF_len r _) (by simp)
  ·simpa using mrgF_len r t
theorem mrg_len (l:List Span):(mrg l).length<=l.length:=by
 cases l with
 | nil=>simp [mrg]
 | cons s r=>exact mrgF_len r s
def joinedM (x y:Mbr):Mbr:={ path:=x.path,status:=max x.status y.status,kids:=max x.kids y.kids,cut:=lesserM x.cut y.cut,last:=max x.last y.last,gone:=spansM x.gone y.gone,plan:=laterM x.plan y.plan,words:=mergeL Word.of saidM x.words y.words }
section
attribute [local go_sem] Oper.semAt_some
set_option maxRecDepth 100000 in
set_option maxHeartbeats 4000000 in
theorem joined_any {S S' : Nat -> Prop} {x y : Mbr} {v1 v2 u1 u2 : Value} {w : World} (hx1 : Sl spanT w S v1 x.gone) (hx2 : Sl wordT w S v2 x.words) (hy1 : Sl spanT w S' u1 y.gone) (hy2 : Sl wordT w S' u2 y.words)
   (hkx : x.plan.keeper.length < 4611686018427387904) (hky : y.plan.keeper.length < 4611686018427387904) (hwk : ∀ z, z ∈ x.words ∨ z ∈ y.words -> z.of.length < 4294967296 /\ z.keeper.length < 4611686018427387904)
   (hlg : x.gone.length + y.gone.length <= 1099511627776) (hlw : x.words.length + y.words.length <= 1099511627776) :
   Calls Tryz.prog 44 #[mbrV x v1 v2, mbrV y u1 u2] w fun e w' => ∃ g ws, e = .returned (mbrV (joinedM x y) g ws) /\ Own w' w.heap.size 76 2 g (joinedM x y).gone.length ((joinedM x y).gone.flatMap spanC) /\
     Own w' w.heap.size 71 7 ws (joinedM x y).words.length ((joinedM x y).words.flatMap wordC) /\ Ext w w' := by
 obtain ⟨A1, a1, rfl, -, -⟩ := hx1.form
 obtain ⟨A2, a2, rfl, -, -⟩ := hx2.form
 obtain ⟨B1, b1, rfl, -, -⟩ := hy1.form
 obtain ⟨B2, b2, rfl, -, -⟩ := hy2.form
 have rA := rowNew w 48 [St x.path, U8 x.status, I x.kids, I x.cut, U x.last, .slice A1 x.gone.length a1, St x.plan.keeper, U x.plan.round, St x.plan.live, St x.plan.by_, U x.plan.cap, St x.plan.owner, U x.plan.base, .bool x.plan.done, .slice A2 x.words.length a2]
 have xA := (Ext.refl w).alloc (.cells #[St x.path, U8 x.status, I x.kids, I x.cut, U x.last, .slice A1 x.gone.length a1, St x.plan.keeper, U x.plan.round, St x.plan.live, St x.plan.by_, U x.plan.cap, St x.plan.owner, U x.plan.base, .bool x.plan.done, .slice A2 x.words.length a2] 48)
 have rB := rowNew (w.alloc (.cells #[St x.path, U8 x.status, I x.kids, I x.cut, U x.last, .slice A1 x.gone.length a1, St x.plan.keeper, U x.plan.round, St x.plan.live, St x.plan.by_, U x.plan.cap, St x.plan.owner, U x.plan.base, .bool x.plan.done, .slice A2 x.words.length a2] 48)) 48 [St y.path, U8 y.status, I y.kids, I y.cut, U y.last, .slice B1 y.gone.length b1, St y.plan.keeper, U y.plan.round, St y.plan.live, St y.plan.by_, U y.plan.cap, St y.plan.owner, U y.plan.base, .bool y.plan.done, .slice B2 y.words.length b2]
 have xB := xA.alloc (.cells #[St y.path, U8 y.status, I y.kids, I y.cut, U y.last, .slice B1 y.gone.length b1, St y.plan.keeper, U y.plan.round, St y.plan.live, St y.plan.by_, U y.plan.cap, St y.plan.owner, U y.plan.base, .bool y.plan.done, .slice B2 y.words.length b2] 48)
 obtain ⟨W0, hW0⟩ : ∃ X, Hid (((((w.alloc (.cells #[St x.path, U8 x.status, I x.kids, I x.cut, U x.last, .slice A1 x.gone.length a1, St x.plan.keeper, U x.plan.round, St x.plan.live, St x.plan.by_, U x.plan.cap, St x.plan.owner, U x.plan.base, .bool x.plan.done, .slice A2 x.words.length a2] 48)).alloc (.cells #[St y.path, U8 y.status, I y.kids, I y.cut, U y.last, .slice B1 y.gone.length b1, St y.plan.keeper, U y.plan.round, St y.plan.live, St y.plan.by_, U y.plan.cap, St y.plan.owner, U y.plan.base, .bool y.plan.done, .slice B2 y.words.length b2] 48)).alloc (.cells #[.string ⟨#[]⟩, .int .u8 0, .int .i64 0, .int .i64 0, .int .u64 0, .slice none 0 0, .string ⟨#[]⟩, .int .u64 0, .string ⟨#[]⟩, .string ⟨#[]⟩, .int .u64 0, .string ⟨#[]⟩, .int .u64 0, .bool false, .slice none 0 0] 48)).alloc (.cells #[.slice none 0 0] 41)) = X) := ⟨_, Lib.hid rfl⟩
 have h0 : RowIs W0 (w.heap.size) 48 [St x.path, U8 x.status, I x.kids, I x.cut, U x.last, .slice A1 x.gone.length a1, St x.plan.keeper, U x.plan.round, St x.plan.live, St x.plan.by_, U x.plan.cap, St x.plan.owner, U x.plan.base, .bool x.plan.done, .slice A2 x.words.length a2] [] /\ RowIs W0 (w.heap.size + 1) 48 [St y.path, U8 y.status, I y.kids, I y.cut, U y.last, .slice B1 y.gone.length b1, St y.plan.keeper, U y.plan.round, St y.plan.live, St y.plan.by_, U y.plan.cap, St y.plan.owner, U y.plan.base, .bool y.plan.done, .slice B2 y.words.length b2] [] /\ RowIs W0 (w.heap.size + 1 + 1) 48 [.string ⟨#[]⟩, .int .u8 0, .int .i64 0, .int .i64 0, .int .u64 0, .slice none 0 0, .string ⟨#[]⟩, .int .u64 0, .string ⟨#[]⟩, .string ⟨#[]⟩, .int .u64 0, .string ⟨#[]⟩, .int .u64 0, .bool false, .slice none 0 0] [] /\ (W0.cell? ⟨w.heap.size + 1 + 1 + 1, 0, none⟩ = some (.slice none 0 0) /\ W0.frozen? ⟨w.heap.size + 1 + 1 + 1, 0, none⟩ = false) /\ Ext w W0 /\ W0.heap.size = w.heap.size + 1 + 1 + 1 + 1 := by
   rw [<- hW0.out]
   have rC := rowNew ((w.alloc (.cells #[St x.path, U8 x.status, I x.kids, I x.cut, U x.last, .slice A1 x.gone.length a1, St x.plan.keeper, U x.plan.round, St x.plan.live, St x.plan.by_, U x.plan.cap, St x.plan.owner, U x.plan.base, .bool x.plan.done, .slice A2 x.words.length a2] 48)).alloc (.cells #[St y.path, U8 y.status, I y.kids, I y.cut, U y.last, .slice B1 y.gone.length b1, St y.plan.keeper, U y.plan.round, St y.plan.live, St y.plan.by_, U y.plan.cap, St y.plan.owner, U y.plan.base, .bool y.plan.done, .slice B2 y.words.length b2] 48)) 48 [.string ⟨#[]⟩, .int .u8 0, .int .i64 0, .int .i64 0, .int .u64 0, .slice none 0 0, .string ⟨#[]⟩, .int .u64 0, .string ⟨#[]⟩, .string ⟨#[]⟩, .int .u64 0, .string ⟨#[]⟩, .int .u64 0, .bool false, .slice none 0 0]
   have rD := box_new (((w.alloc (.cells #[St x.path, U8 x.status, I x.kids, I x.cut, U x.last, .slice A1 x.gone.length a1, St x.plan.keeper, U x.plan.round, St x.plan.live, St x.plan.by_, U x.plan.cap, St x.plan.owner, U x.plan.base, .bool x.plan.done, .slice A2 x.words.length a2] 48)).alloc (.cells #[St y.path, U8 y.status, I y.kids, I y.cut, U y.last, .slice B1 y.gone.length b1, St y.plan.keeper, U y.plan.round, St y.plan.live, St y.plan.by_, U y.plan.cap, St y.plan.owner, U y.plan.base, .bool y.plan.done, .slice B2 y.words.length b2] 48)).alloc (.cells #[.string ⟨#[]⟩, .int .u8 0, .int .i64 0, .int .i64 0, .int .u64 0, .slice none 0 0, .string ⟨#[]⟩, .int .u64 0, .string ⟨#[]⟩, .string ⟨#[]⟩, .int .u64 0, .string ⟨#[]⟩, .int .u64 0, .bool false, .slice none 0 0] 48)) (.slice none 0 0) 41
   simp only [World.size_alloc] at rB rC rD
   exact ⟨((rA.alloc _).alloc _).alloc _, (rB.alloc _).alloc _, rC.alloc _, rD, (xB.alloc _).alloc _, by simp⟩
 have xP := (Ext.refl W0).alloc (.cells #[.slice A1 x.gone.length a1, .slice B1 y.gone.length b1] 41)
 have HSP := spans_any (sl_twoM (hk := by decide) 41 (hx1.ext (by decide) h0.2.2.2.2.1) (hy1.ext (by decide) h0.2.2.2.2.1)) hlg
 rw [h0.2.2.2.2.2] at HSP
 have HSP := Lib.hid HSP
 have H0 := Lib.hid h0
 have HXP := Lib.hid xP
 have HSX := Lib.hid (And.intro hx1 (And.intro hx2 (And.intro hy1 hy2)))
 have HBD := Lib.hid (And.intro hkx (And.intro hky (And.intro hwk (And.intro hlg hlw))))
 clear rA rB xA xB h0 hx1 hx2 hy1 hy2 hkx hky hwk hlg hlw xP
 refine (callsIn_wide (n := 9)).1 ?_
 refine callsIn_of_wp_marks Tryz.func44 rfl trivial ?_ rfl
 simp only [Tryz.ntmps44, List.size_toArray, List.length_cons, List.length_nil, Nat.reduceAdd, Nat.reduceSub, Array.replicate_succ, Array.replicate_zero, List.push_toArray, List.append_toArray, List.nil_append, List.cons_append]
 refine wpIn_wide.2 ?_
 unfold mbrV
 go_wp2_with fail
 rw [hW0.out]
 clear hW0
 refine HSP.out.mono ?_
 rintro e W2 ⟨tb, d, vd, rfl, htc, how, hperm, hsrt, htb, hx2⟩
 obtain ⟨Ad, cd, rfl, -, -⟩ := how.form
 have hsz1 : (W0.alloc (.cells #[.slice A1 x.gone.length a1, .slice B1 y.gone.length b1] 41)).heap.size = w.heap.size + 1 + 1 + 1 + 1 + 1 := by rw [World.size_alloc, H0.out.2.2.2.2.2]
 have HX2 := Lib.hid (HXP.out.trans hx2)
 have hm : mrg d = spansM x.gone y.gone := mrg_any hperm hsrt
 have HM := Lib.hid hm
 have hdl : d.length <= 1099511627776 := by
   have h1 := hperm.length_eq
   have h2 := List.length_filter_le sp (x.gone ++ y.gone)
   have h3 := HBD.out.2.2.2.1
   rw [List.length_append] at h2
   omega
 have hsz2 : W2.heap.size ≥ w.heap.size + 1 + 1 + 1 + 1 + 1 := by have := hx2.size; omega
 have htb2 := blk_of_cell htc
 have htb3 : w.heap.size + 1 + 1 + 1 + 1 + 1 <= tb := by omega
 have HBK := Lib.hid (show ∀ b, ownBlk (.slice Ad d.length cd) b -> b ≠ w.heap.size + 1 + 1 + 1 /\ b < W2.heap.size from fun b hb => by
   have := how.base_le hb
   exact ⟨by omega, this.2⟩)
 have bx1 := HX2.out.cell H0.out.2.2.2.1.1
 have bx2 := (HX2.out.frozen (blk_of_cell H0.out.2.2.2.1.1)).trans H0.out.2.2.2.1.2
 have HTC := Lib.hid htc
 have HOW := Lib.hid how
 have HML := Lib.hid (show (mrg d).length <= 1099511627776 from Nat.le_trans (mrg_len d) hdl)
 clear hperm hsrt htc how hx2 hsz1 hm htb
 go_wp2_with fail
 refine (wpIn_wide (n := 9)).1 ?_
 refine wpIn_rangeFunc_ownH rfl (by omega) (gf := 144) (lb := #[.pointer (some ⟨tb, 0, none⟩)]) rfl trivial (enters_of Tryz.func144 (by kernel_rfl) rfl)
   (spans_stops 8 (by omega) (n₀ := W2.heap.size) (S := fun b => b ≠ w.heap.size + 1 + 1 + 1) hdl (Nat.le_refl _) (by omega) (by omega) HBK.out HTC.out HOW.out)
   (fun h k => h.trans k) (KpS.put (Nat.le_refl _)) (Below.refl _ _) (fun _ => rfl)
   (fun pre W => BoxSp (w.heap.size + 1 + 1 + 1) W2.heap.size 76 pre W /\ OldK W2.heap.size (w.heap.size + 1 + 1 + 1) W2 W)
   (fun _ _ _ => False)
   (OwnFrom.and (BoxSp.from _ _ _ _) (OldK.from _ _ _ _ (Nat.le_refl _)))
   (fun _ _ _ _ _ hs _ _ => hs)
   ⟨⟨_, bx1, bx2, Own.nil _ _ _ _ _, by rintro b ⟨g, n', c', he, hc, rfl⟩; cases he⟩, OldK.refl (Nat.le_refl _)⟩
   (fun s a' W => ∃ Bx, (W.cell? ⟨Bx, 0, none⟩ = some (I s.1) /\ W.cell? ⟨Bx, 1, none⟩ = some (I s.2)) /\ a' = { tmps := #[.agg #[St x.path, U8 x.status, I x.kids, I x.cut, U x.last, .slice A1 x.gone.length a1, St x.plan.keeper, U x.plan.round, St x.plan.live, St x.plan.by_, U x.plan.cap, St x.plan.owner, U x.plan.base, .bool x.plan.done, .slice A2 x.words.length a2], .agg #[St y.path, U8 y.status, I y.kids, I y.cut, U y.last, .slice B1 y.gone.length b1, St y.plan.keeper, U y.plan.round, St y.plan.live, St y.plan.by_, U y.plan.cap, St y.plan.owner, U y.plan.base, .bool y.plan.done, .slice B2 y.words.length b2], .pointer (some ⟨w.heap.size, 0, none⟩), .pointer (some ⟨w.heap.size + 1, 0, none⟩), .pointer (some ⟨w.heap.size + 1 + 1, 0, none⟩), .pointer (some ⟨w.heap.size + 1 + 1 + 1, 0, none⟩), .pointer (some ⟨Bx, 0, none⟩), .pointer (some ⟨w.heap.size, 5, none⟩), .slice A1 x.gone.length a1, .pointer (some ⟨w.heap.size + 1, 5, none⟩), .slice B1 y.gone.length b1, .slice (some ⟨w.heap.size + 1 + 1 + 1 + 1, 0, none⟩) 2 2, .func (.func 144) #[] #[.pointer (some ⟨tb, 0, none⟩)], .agg #[I s.1, I s.2], undef, undef, undef, undef, undef, undef, undef, undef, undef, undef, undef, undef, undef, undef, undef, undef, undef, undef, undef, undef, undef, undef, undef, undef, undef, undef, undef, undef, undef, undef, undef, undef, undef, undef, undef, undef, undef, undef], defers := [] })
   (fun s a' _ W W' row ⟨Bx, ⟨h1, h2⟩, h4⟩ hg hr => ⟨Bx, ⟨cell_kept h1 hg (fun r e => (hr r e).2), cell_kept h2 hg (fun r e => (hr r e).2)⟩, h4⟩)
   ?assign ?body ?done ?stop
 case stop =>
   rintro D c pre W _ _ h _
   exact h.elim
 case assign =>
   rintro l pre s W K ⟨⟨v, hv1, hv2, hv3, hv4⟩, hB1⟩ hK
   have hE := (Ext.refl W).alloc (.cells #[I s.1, I s.2] 76)
   have hn3 := hB1.size
   gi_wp2
   exact hK _ _ ((KeepsOthers.alloc _ _).from _) (hE.kpS hn3) ⟨⟨v, hE.cell hv1, (hE.frozen (blk_of_cell hv1)).trans hv2, hv3.ext hE, hv4⟩, hB1.ext hE⟩
     ⟨W.heap.size, ⟨by simp [go_sem], by simp [go_sem]⟩, rfl⟩
 case body =>
   rintro l pre s a' W hl - ⟨⟨v, hv1, hv2, hv3, hv4⟩, hB1⟩ ⟨Bx, ⟨p0, p1⟩, rfl⟩ hlt
   have hn3 := hB1.size
   have hml := HML.out
   gi_wp2_with (gi_at_builtin; refine wpListIn_append_Own rfl (.tmp 14) (.tmp 16) 41 rfl W2.heap.size 76 2 16 (spanV (0, 0)) Tryz.underlying41 info_span rfl (by omega) v pre.length (pre.flatMap spanC) rfl (hv3.alloc _) _ 1 1 _ rfl (Src.new rfl (by intro u hu; simp at hu; rcases hu with rfl | rfl <;> rfl)) (by omega) (by omega) (by simp; omega) ?_; intro v' w' hown hgr
                have hE := (Ext.refl W).alloc (.cells #[I s.1, I s.2] 76)
                obtain ⟨e1, e2, hbr⟩ := BoxSp.grew (l' := pre ++ [s]) (hE.cell hv1) ((hE.frozen (blk_of_cell hv1)).trans hv2) hv4 hgr (by simpa [spanC] using hown)
                have hff := hown.form
                obtain ⟨g', cap', rfl, -, -⟩ := hff)
   have hE := (Ext.refl W).alloc (.cells #[I s.1, I s.2] 76)
   have hko := (KeepsOthers.alloc _ _).trans (hgr.keeps (hv3.alloc _))
   have hkp : KpS (fun b => b ≠ w.heap.size + 1 + 1 + 1) W2.heap.size W w' := (hE.kpS hn3).trans (KpS.grew hgr (Nat.le_trans hn3 hE.size) (fun b h h2 => (hv3.base_le h).1))
   have hO : OldK W2.heap.size (w.heap.size + 1 + 1 + 1) W2 w' := (hB1.ext hE).grew hgr (fun b h => (hv3.base_le h).1)
   have hk2 := hko.trans (KeepsOthers.setCell w' ⟨w.heap.size + 1 + 1 + 1, 0, none⟩ (.slice g' (pre.length + 1) cap'))
   exact ⟨hk2.from _, hkp.trans (KpS.set _ (fun h => absurd rfl h) _), hbr, hO.set _⟩
 case done =>
   rintro D ys W hD rfl ⟨⟨v, hv1, hv2, hv3, hv4⟩, hO⟩ hK
   obtain ⟨Ag, cg, rfl, -, -⟩ := hv3.form
   have hOs := hO.size
   have hwx := H0.out.2.2.2.2.1.trans HX2.out
   have hXw : Ext w W := hO.below hwx (by omega) (by omega)
   have rA := (H0.out.1.ext HX2.out).keep (hO.same (w.heap.size) (by omega) (by omega))
   have rB := (H0.out.2.1.ext HX2.out).keep (hO.same (w.heap.size + 1) (by omega) (by omega))
   have rC := (H0.out.2.2.1.ext HX2.out).keep (hO.same (w.heap.size + 1 + 1) (by omega) (by omega))
   have HRW := Lib.hid (show _ /\ _ /\ _ /\ _ /\ _ /\ _ from ⟨rA, rB, rC, hv1, hv3, hXw⟩)
   have HMG := Lib.hid (fun (W' : World) (he : Ext W W') => (mergeW_any (HSX.out.2.1.ext (by decide) (hXw.trans he)) (HSX.out.2.2.2.ext (by decide) (hXw.trans he)) HBD.out.2.2.1 HBD.out.2.2.2.2).mono (R' := fun e w' => ∃ v', e = .returned v' /\ Own w' W.heap.size 71 7 v' (mergeL Word.of saidM x.words y.words).length ((mergeL Word.of saidM x.words y.words).flatMap wordC) /\ Ext W' w') (by
     rintro e w' ⟨v', rfl, h1, h2⟩
     exact ⟨v', rfl, h1.lower he.size, h2⟩))
   have HKD := Lib.hid hK
   clear hK hO hv1 hv2 hv3 hv4 hwx hXw rA rB rC
   dsimp only [Exit.inBlock, Exit.then]
   go_wp2_with fail
   refine wp_region_facts [fun v _ => v = .pointer (some ⟨w.heap.size, 0, none⟩), fun v _ => v = St x.path, fun v _ => v = .pointer (some ⟨w.heap.size, 1, none⟩), fun v _ => v = U8 x.status, fun v _ => v = .pointer (some ⟨w.heap.size + 1, 1, none⟩), fun v _ => v = U8 y.status, fun v _ => v = U8 (max x.status y.status), fun v _ => v = .pointer (some ⟨w.heap.size, 2, none⟩), fun v _ => v = I x.kids, fun v _ => v = .pointer (some ⟨w.heap.size + 1, 2, none⟩), fun v _ => v = I y.kids, fun v _ => v = I (max x.kids y.kids), fun v _ => v = .pointer (some ⟨w.heap.size, 3, none⟩), fun v _ => v = I x.cut, fun v _ => v = .pointer (some ⟨w.heap.size + 1, 3, none⟩), fun v _ => v = I y.cut, fun v _ => v = I (lesserM x.cut y.cut), fun v _ => v = .pointer (some ⟨w.heap.size, 4, none⟩), fun v _ => v = U x.last, fun v _ => v = .pointer (some ⟨w.heap.size + 1, 4, none⟩), fun v _ => v = U y.last, fun v _ => v = U (max x.last y.last), fun v _ => v = .slice Ag (mrg d).length cg, fun v _ => v = .pointer (some ⟨w.heap.size, 6, none⟩), fun v _ => v = planV x.plan, fun v _ => v = .pointer (some ⟨w.heap.size + 1, 6, none⟩), fun v _ => v = planV y.plan, fun v _ => v = planV (laterM x.plan y.plan), fun v _ => v = .pointer (some ⟨w.heap.size, 14, none⟩), fun v _ => v = .slice A2 x.words.length a2, fun v _ => v = .pointer (some ⟨w.heap.size + 1, 14, none⟩), fun v _ => v = .slice B2 y.words.length b2, fun v V => Own V W.heap.size 71 7 v (mergeL Word.of saidM x.words y.words).length ((mergeL Word.of saidM x.words y.words).flatMap wordC)] rfl (by kernel_rfl) ?hR ?hstep ?hend
   case hR =>
     simp only [List.mem_cons, List.not_mem_nil, or_false, forall_eq_or_imp, forall_eq]
     exact ⟨fun v _ _ h _ => h, fun v _ _ h _ => h, fun v _ _ h _ => h, fun v _ _ h _ => h, fun v _ _ h _ => h, fun v _ _ h _ => h, fun v _ _ h _ => h, fun v _ _ h _ => h, fun v _ _ h _ => h, fun v _ _ h _ => h, fun v _ _ h _ => h, fun v _ _ h _ => h, fun v _ _ h _ => h, fun v _ _ h _ => h, fun v _ _ h _ => h, fun v _ _ h _ => h, fun v _ _ h _ => h, fun v _ _ h _ => h, fun v _ _ h _ => h, fun v _ _ h _ => h, fun v _ _ h _ => h, fun v _ _ h _ => h, fun v _ _ h _ => h, fun v _ _ h _ => h, fun v _ _ h _ => h, fun v _ _ h _ => h, fun v _ _ h _ => h, fun v _ _ h _ => h, fun v _ _ h _ => h, fun v _ _ h _ => h, fun v _ _ h _ => h, fun v _ _ h _ => h, fun v _ _ h he => h.ext he⟩
   case hstep =>
     simp only [List.length_cons, List.length_nil, Nat.reduceAdd, List.take_succ_cons, List.take_zero, stepsAll, and_true]
     refine ⟨?_, ?_, ?_, ?_, ?_, ?_, ?_, ?_, ?_, ?_, ?_, ?_, ?_, ?_, ?_, ?_, ?_, ?_, ?_, ?_, ?_, ?_, ?_, ?_, ?_, ?_, ?_, ?_, ?_, ?_, ?_, ?_, ?_⟩
     · intro z V he f
       have h : z 2 = .pointer (some ⟨w.heap.size, 0, none⟩) := f.1
       go_wp
       exact stepQ_ok rfl (Ext.refl _)
     · intro z V he f
       have h : z 18 = .pointer (some ⟨w.heap.size, 0, none⟩) := f.1
       have c0 := (HRW.out.1.ext he).cell (j := 0) rfl
       go_wp
       exact stepQ_ok rfl (Ext.refl _)
     · intro z V he f
       have h : z 2 = .pointer (some ⟨w.heap.size, 0, none⟩) := f.1
       go_wp
       exact stepQ_ok rfl (Ext.refl _)
     · intro z V he f
       have h : z 20 = .pointer (some ⟨w.heap.size, 1, none⟩) := f.1
       have c1 := (HRW.out.1.ext he).cell (j := 1) rfl
       go_wp
       exact stepQ_ok rfl (Ext.refl _)
     · intro z V he f
       have h : z 3 = .pointer (some ⟨w.heap.size + 1, 0, none⟩) := f.1
       go_wp
       exact stepQ_ok rfl (Ext.refl _)
     · intro z V he f
       have h : z 22 = .pointer (some ⟨w.heap.size + 1, 1, none⟩) := f.1
       have c1 := (HRW.out.2.1.ext he).cell (j := 1) rfl
       go_wp
       exact stepQ_ok rfl (Ext.refl _)
     · intro z V he f
       have h : z 21 = U8 x.status := f.1
       have h' : z 23 = U8 y.status := f.2.1
       go_wp
       exact stepQ_ok (congrArg (Value.int .u8) (by omega)) (Ext.refl _)
     · intro z V he f
       have h : z 2 = .pointer (some ⟨w.heap.size, 0, none⟩) := f.1
       go_wp
       exact stepQ_ok rfl (Ext.refl _)
     · intro z V he f
       have h : z 25 = .pointer (some ⟨w.heap.size, 2, none⟩) := f.1
       have c2 := (HRW.out.1.ext he).cell (j := 2) rfl
       go_wp
       exact stepQ_ok rfl (Ext.refl _)
     · intro z V he f
       have h : z 3 = .pointer (some ⟨w.heap.size + 1, 0, none⟩) := f.1
       go_wp
       exact stepQ_ok rfl (Ext.refl _)
     · intro z V he f
       have h : z 27 = .pointer (some ⟨w.heap.size + 1, 2, none⟩) := f.1
       have c2 := (HRW.out.2.1.ext he).cell (j := 2) rfl
       go_wp
       exact stepQ_ok rfl (Ext.refl _)
     · intro z V he f
       have h : z 26 = I x.kids := f.1
       have h' : z 28 = I y.kids := f.2.1
       go_wp
       exact stepQ_ok (congrArg (Value.int .i64) (by omega)) (Ext.refl _)
     · intro z V he f
       have h : z 2 = .pointer (some ⟨w.heap.size, 0, none⟩) := f.1
       go_wp
       exact stepQ_ok rfl (Ext.refl _)
     · intro z V he f
       have h : z 30 = .pointer (some ⟨w.heap.size, 3, none⟩) := f.1
       have c3 := (HRW.out.1.ext he).cell (j := 3) rfl
       go_wp
       exact stepQ_ok rfl (Ext.refl _)
     · intro z V he f
       have h : z 3 = .pointer (some ⟨w.heap.size + 1, 0, none⟩) := f.1
       go_wp
       exact stepQ_ok rfl (Ext.refl _)
     · intro z V he f
       have h : z 32 = .pointer (some ⟨w.heap.size + 1, 3, none⟩) := f.1
       have c3 := (HRW.out.2.1.ext he).cell (j := 3) rfl
       go_wp
       exact stepQ_ok rfl (Ext.refl _)
     · intro z V he f
       have h : z 31 = I x.cut := f.1
       have h' : z 33 = I y.cut := f.2.1
       go_wp
       refine (lesser_any x.cut y.cut V).mono ?_
       rintro e w1 ⟨rfl, rfl⟩
       dsimp only
       go_wp
       exact stepQ_ok rfl (Ext.refl _)
     · intro z V he f
       have h : z 2 = .pointer (some ⟨w.heap.size, 0, none⟩) := f.1
       go_wp
       exact stepQ_ok rfl (Ext.refl _)
     · intro z V he f
       have h : z 35 = .pointer (some ⟨w.heap.size, 4, none⟩) := f.1
       have c4 := (HRW.out.1.ext he).cell (j := 4) rfl
       go_wp
       exact stepQ_ok rfl (Ext.refl _)
     · intro z V he f
       have h : z 3 = .pointer (some ⟨w.heap.size + 1, 0, none⟩) := f.1
       go_wp
       exact stepQ_ok rfl (Ext.refl _)
     · intro z V he f
       have h : z 37 = .pointer (some ⟨w.heap.size + 1, 4, none⟩) := f.1
       have c4 := (HRW.out.2.1.ext he).cell (j := 4) rfl
       go_wp
       exact stepQ_ok rfl (Ext.refl _)
     · intro z V he f
       have h : z 36 = U x.last := f.1
       have h' : z 38 = U y.last := f.2.1
       go_wp
       exact stepQ_ok (congrArg (Value.int .u64) (by omega)) (Ext.refl _)
     · intro z V he f
       have h : z 5 = .pointer (some ⟨w.heap.size + 1 + 1 + 1, 0, none⟩) := f.1
       have c0 := he.cell HRW.out.2.2.2.1
       go_wp
       exact stepQ_ok rfl (Ext.refl _)
     · intro z V he f
       have h : z 2 = .pointer (some ⟨w.heap.size, 0, none⟩) := f.1
       go_wp
       exact stepQ_ok rfl (Ext.refl _)
     · intro z V he f
       have h : z 41 = .pointer (some ⟨w.heap.size, 6, none⟩) := f.1
       have c6 := (HRW.out.1.ext he).cell (j := 6) rfl
       have c7 := (HRW.out.1.ext he).cell (j := 7) rfl
       have c8 := (HRW.out.1.ext he).cell (j := 8) rfl
       have c9 := (HRW.out.1.ext he).cell (j := 9) rfl
       have c10 := (HRW.out.1.ext he).cell (j := 10) rfl
       have c11 := (HRW.out.1.ext he).cell (j := 11) rfl
       have c12 := (HRW.out.1.ext he).cell (j := 12) rfl
       have c13 := (HRW.out.1.ext he).cell (j := 13) rfl
       go_wp
       exact stepQ_ok rfl (Ext.refl _)
     · intro z V he f
       have h : z 3 = .pointer (some ⟨w.heap.size + 1, 0, none⟩) := f.1
       go_wp
       exact stepQ_ok rfl (Ext.refl _)
     · intro z V he f
       have h : z 43 = .pointer (some ⟨w.heap.size + 1, 6, none⟩) := f.1
       have c6 := (HRW.out.2.1.ext he).cell (j := 6) rfl
       have c7 := (HRW.out.2.1.ext he).cell (j := 7) rfl
       have c8 := (HRW.out.2.1.ext he).cell (j := 8) rfl
       have c9 := (HRW.out.2.1.ext he).cell (j := 9) rfl
       have c10 := (HRW.out.2.1.ext he).cell (j := 10) rfl
       have c11 := (HRW.out.2.1.ext he).cell (j := 11) rfl
       have c12 := (HRW.out.2.1.ext he).cell (j := 12) rfl
       have c13 := (HRW.out.2.1.ext he).cell (j := 13) rfl
       go_wp
       exact stepQ_ok rfl (Ext.refl _)
     · intro z V he f
       have h : z 42 = planV x.plan := f.1
       have h' : z 44 = planV y.plan := f.2.1
       go_wp
       refine (later_any x.plan y.plan HBD.out.1 HBD.out.2.1 V).mono ?_
       rintro e w1 ⟨rfl, hx1⟩
       dsimp only
       go_wp
       exact stepQ_ok rfl hx1
     · intro z V he f
       have h : z 2 = .pointer (some ⟨w.heap.size, 0, none⟩) := f.1
       go_wp
       exact stepQ_ok rfl (Ext.refl _)
     · intro z V he f
       have h : z 46 = .pointer (some ⟨w.heap.size, 14, none⟩) := f.1
       have c14 := (HRW.out.1.ext he).cell (j := 14) rfl
       go_wp
       exact stepQ_ok rfl (Ext.refl _)
     · intro z V he f
       have h : z 3 = .pointer (some ⟨w.heap.size + 1, 0, none⟩) := f.1
       go_wp
       exact stepQ_ok rfl (Ext.refl _)
     · intro z V he f
       have h : z 48 = .pointer (some ⟨w.heap.size + 1, 14, none⟩) := f.1
       have c14 := (HRW.out.2.1.ext he).cell (j := 14) rfl
       go_wp
       exact stepQ_ok rfl (Ext.refl _)
     · intro z V he f
       have h : z 47 = .slice A2 x.words.length a2 := f.1
       have h' : z 49 = .slice B2 y.words.length b2 := f.2.1
       go_wp
       refine (HMG.out V he).mono ?_
       rintro e w1 ⟨vm, rfl, hm, hx1⟩
       dsimp only
       go_wp
       exact stepQ_ok hm hx1
   case hend =>
     intro z V he f
     have h19 : z 19 = St x.path := f.2.1
     have h24 : z 24 = U8 (max x.status y.status) := f.2.2.2.2.2.2.1
     have h29 : z 29 = I (max x.kids y.kids) := f.2.2.2.2.2.2.2.2.2.2.2.1
     have h34 : z 34 = I (lesserM x.cut y.cut) := f.2.2.2.2.2.2.2.2.2.2.2.2.2.2.2.2.1
     have h39 : z 39 = U (max x.last y.last) := f.2.2.2.2.2.2.2.2.2.2.2.2.2.2.2.2.2.2.2.2.2.1
     have h40 : z 40 = .slice Ag (mrg d).length cg := f.2.2.2.2.2.2.2.2.2.2.2.2.2.2.2.2.2.2.2.2.2.2.1
     have h45 : z 45 = planV (laterM x.plan y.plan) := f.2.2.2.2.2.2.2.2.2.2.2.2.2.2.2.2.2.2.2.2.2.2.2.2.2.2.2.1
     have h50 : Own V W.heap.size 71 7 (z 50) (mergeL Word.of saidM x.words y.words).length ((mergeL Word.of saidM x.words y.words).flatMap wordC) := f.2.2.2.2.2.2.2.2.2.2.2.2.2.2.2.2.2.2.2.2.2.2.2.2.2.2.2.2.2.2.2.2.1
     obtain ⟨Am, cm, hz50, -, -⟩ := h50.form
     rw [hz50] at h50
     obtain ⟨pl, hpl⟩ : ∃ pl, laterM x.plan y.plan = pl := ⟨_, rfl⟩
     rw [hpl] at h45
     unfold planV at h45
     have HPL := Lib.hid hpl
     have HO := Lib.hid (And.intro h50 (And.intro (HRW.out.2.2.2.2.1.ext he) (HRW.out.2.2.2.2.2.trans he)))
     have HD := Lib.hid (show D < W.heap.size /\ V.heap[D]? = some (.deferred (some [])) from by
       have h1 : D < W.heap.size := (Array.getElem?_eq_some_iff.1 HKD.out).1
       exact ⟨h1, (he.block D h1).trans HKD.out⟩)
     have rC := HRW.out.2.2.1.ext he
     obtain ⟨k0, k1, k2, k3, k4, k5, k6, k7, k8, k9, k10, k11, k12, k13, k14⟩ := rC.c15
     obtain ⟨f0, f1, f2, f3, f4, f5, f6, f7, f8, f9, f10, f11, f12, f13, f14⟩ := rC.f15
     have HRC := Lib.hid rC
     have HES := Lib.hid he.size
     simp only [List.length_cons, List.length_nil, Nat.reduceAdd, List.take_succ_cons, List.take_zero, List.filterMap_cons, List.filterMap_nil, List.drop_succ_cons, List.drop_zero, putAll, Act.put, List.setIfInBounds_toArray, List.set_cons_succ, List.set_cons_zero, h19, h24, h29, h34, h39, h40, h45, hz50]
     clear h19 h24 h29 h34 h39 h40 h45 hz50 f he rC hpl h50
     go_wp2_with fail
     clear k0 k1 k2 k3 k4 k5 k6 k7 k8 k9 k10 k11 k12 k13 k14 f0 f1 f2 f3 f4 f5 f6 f7 f8 f9 f10 f11 f12 f13 f14
     have hb1 : ∀ b, ownBlk (.slice Am (mergeL Word.of saidM x.words y.words).length cm) b -> b ≠ w.heap.size + 1 + 1 := fun b hb => by have h1 := (HO.out.1.base_le hb).1; omega
     have hb2 : ∀ b, ownBlk (.slice Ag (mrg d).length cg) b -> b ≠ w.heap.size + 1 + 1 := fun b hb => by have h1 := (HO.out.2.1.base_le hb).1; omega
     have hkp : ∀ b, b ≠ w.heap.size + 1 + 1 -> (put15z V (w.heap.size + 1 + 1) (St x.path) (U8 (max x.status y.status)) (I (max x.kids y.kids)) (I (lesserM x.cut y.cut)) (U (max x.last y.last)) (.slice Ag (mrg d).length cg) (St pl.keeper) (U pl.round) (St pl.live) (St pl.by_) (U pl.cap) (St pl.owner) (U pl.base) (.bool pl.done) (.slice Am (mergeL Word.of saidM x.words y.words).length cm)).heap[b]? = V.heap[b]? := fun b hb => by rw [put15z_eq]; exact put15_heap hb
     have hK2 : (put15z V (w.heap.size + 1 + 1) (St x.path) (U8 (max x.status y.status)) (I (max x.kids y.kids)) (I (lesserM x.cut y.cut)) (U (max x.last y.last)) (.slice Ag (mrg d).length cg) (St pl.keeper) (U pl.round) (St pl.live) (St pl.by_) (U pl.cap) (St pl.owner) (U pl.base) (.bool pl.done) (.slice Am (mergeL Word.of saidM x.words y.words).length cm)).heap[D]? = some (.deferred (some [])) := (hkp D (by omega)).trans HD.out.2
     have hxP : Ext w (put15z V (w.heap.size + 1 + 1) (St x.path) (U8 (max x.status y.status)) (I (max x.kids y.kids)) (I (lesserM x.cut y.cut)) (U (max x.last y.last)) (.slice Ag (mrg d).length cg) (St pl.keeper) (U pl.round) (St pl.live) (St pl.by_) (U pl.cap) (St pl.owner) (U pl.base) (.bool pl.done) (.slice Am (mergeL Word.of saidM x.words y.words).length cm)) := by rw [put15z_eq]; exact put15_below HO.out.2.2 (by omega)
     have rRP : RowIs (put15z V (w.heap.size + 1 + 1) (St x.path) (U8 (max x.status y.status)) (I (max x.kids y.kids)) (I (lesserM x.cut y.cut)) (U (max x.last y.last)) (.slice Ag (mrg d).length cg) (St pl.keeper) (U pl.round) (St pl.live) (St pl.by_) (U pl.cap) (St pl.owner) (U pl.base) (.bool pl.done) (.slice Am (mergeL Word.of saidM x.words y.words).length cm)) (w.heap.size + 1 + 1) 48 [St x.path, U8 (max x.status y.status), I (max x.kids y.kids), I (lesserM x.cut y.cut), U (max x.last y.last), .slice Ag (mrg d).length cg, St pl.keeper, U pl.round, St pl.live, St pl.by_, U pl.cap, St pl.owner, U pl.base, .bool pl.done, .slice Am (mergeL Word.of saidM x.words y.words).length cm] [] := by
       rw [put15z_eq]
       have r := put15_mid (W := V) (g := w.heap.size + 1 + 1) [] [] HRC.out (a0 := St x.path) (a1 := U8 (max x.status y.status)) (a2 := I (max x.kids y.kids)) (a3 := I (lesserM x.cut y.cut)) (a4 := U (max x.last y.last)) (a5 := .slice Ag (mrg d).length cg) (a6 := St pl.keeper) (a7 := U pl.round) (a8 := St pl.live) (a9 := St pl.by_) (a10 := U pl.cap) (a11 := St pl.owner) (a12 := U pl.base) (a13 := .bool pl.done) (a14 := .slice Am (mergeL Word.of saidM x.words y.words).length cm)
       simpa only [List.nil_append, List.append_nil, List.length_nil] using r
     have hg := grownBy_putObj' (put15z V (w.heap.size + 1 + 1) (St x.path) (U8 (max x.status y.status)) (I (max x.kids y.kids)) (I (lesserM x.cut y.cut)) (U (max x.last y.last)) (.slice Ag (mrg d).length cg) (St pl.keeper) (U pl.round) (St pl.live) (St pl.by_) (U pl.cap) (St pl.owner) (U pl.base) (.bool pl.done) (.slice Am (mergeL Word.of saidM x.words y.words).length cm)) D (.deferred none)
     have hr : ∀ r, (some D : Option Nat) = some r -> ∃ o : Obj, (put15z V (w.heap.size + 1 + 1) (St x.path) (U8 (max x.status y.status)) (I (max x.kids y.kids)) (I (lesserM x.cut y.cut)) (U (max x.last y.last)) (.slice Ag (mrg d).length cg) (St pl.keeper) (U pl.round) (St pl.live) (St pl.by_) (U pl.cap) (St pl.owner) (U pl.base) (.bool pl.done) (.slice Am (mergeL Word.of saidM x.words y.words).length cm)).heap[r]? = some o /\ o.isCells = false := fun r e => by cases e; exact ⟨_, hK2, rfl⟩
     have rRF := rRP.kept hg hr
     have o1 := (HO.out.2.1.keep (w' := (put15z V (w.heap.size + 1 + 1) (St x.path) (U8 (max x.status y.status)) (I (max x.kids y.kids)) (I (lesserM x.cut y.cut)) (U (max x.last y.last)) (.slice Ag (mrg d).length cg) (St pl.keeper) (U pl.round) (St pl.live) (St pl.by_) (U pl.cap) (St pl.owner) (U pl.base) (.bool pl.done) (.slice Am (mergeL Word.of saidM x.words y.words).length cm))) (fun b hb _ => hkp b (hb2 b hb))).kept hg hr
     have o2 := (HO.out.1.keep (w' := (put15z V (w.heap.size + 1 + 1) (St x.path) (U8 (max x.status y.status)) (I (max x.kids y.kids)) (I (lesserM x.cut y.cut)) (U (max x.last y.last)) (.slice Ag (mrg d).length cg) (St pl.keeper) (U pl.round) (St pl.live) (St pl.by_) (U pl.cap) (St pl.owner) (U pl.base) (.bool pl.done) (.slice Am (mergeL Word.of saidM x.words y.words).length cm))) (fun b hb _ => hkp b (hb1 b hb))).kept hg hr
     have o4 : Ext w ((put15z V (w.heap.size + 1 + 1) (St x.path) (U8 (max x.status y.status)) (I (max x.kids y.kids)) (I (lesserM x.cut y.cut)) (U (max x.last y.last)) (.slice Ag (mrg d).length cg) (St pl.keeper) (U pl.round) (St pl.live) (St pl.by_) (U pl.cap) (St pl.owner) (U pl.base) (.bool pl.done) (.slice Am (mergeL Word.of saidM x.words y.words).length cm)).putObj D (.deferred none)) := Below.trans hxP (belowK_b (w := w) (Nat.le_refl _) _ D _ _ (by omega) hK2 rfl rfl)
     obtain ⟨k0, k1, k2, k3, k4, k5, k6, k7, k8, k9, k10, k11, k12, k13, k14⟩ := rRF.c15
     clear hkp hxP rRP hg hr rRF
     refine ⟨by simp, .inl ⟨_, ((put15z V (w.heap.size + 1 + 1) (St x.path) (U8 (max x.status y.status)) (I (max x.kids y.kids)) (I (lesserM x.cut y.cut)) (U (max x.last y.last)) (.slice Ag (mrg d).length cg) (St pl.keeper) (U pl.round) (St pl.live) (St pl.by_) (U pl.cap) (St pl.owner) (U pl.base) (.bool pl.done) (.slice Am (mergeL Word.of saidM x.words y.words).length cm)).putObj D (.deferred none)), rfl, run_takeDeferred hK2, ?_⟩⟩
     generalize ((put15z V (w.heap.size + 1 + 1) (St x.path) (U8 (max x.status y.status)) (I (max x.kids y.kids)) (I (lesserM x.cut y.cut)) (U (max x.last y.last)) (.slice Ag (mrg d).length cg) (St pl.keeper) (U pl.round) (St pl.live) (St pl.by_) (U pl.cap) (St pl.owner) (U pl.base) (.bool pl.done) (.slice Am (mergeL Word.of saidM x.words y.words).length cm)).putObj D (.deferred none)) = WF at *
     refine ⟨mbrV (joinedM x y) (.slice Ag (mrg d).length cg) (.slice Am (mergeL Word.of saidM x.words y.words).length cm), ?_, _, _, rfl, ?_, ?_, o4⟩
     · have hp := HPL.out
       simp [results, Tryz.f44, go_sem, k0, k1, k2, k3, k4, k5, k6, k7, k8, k9, k10, k11, k12, k13, k14, mbrV, joinedM, hp]
     · show Own _ _ _ _ _ (spansM x.gone y.gone).length ((spansM x.gone y.gone).flatMap spanC)
       rw [<- HM.out]
       exact o1.lower (by omega)
     · exact o2.lower (by omega)
end
theorem mps_of {w:World} {S:Nat->Prop} {A:Option Addr} {n c:Nat} {l:List Mbr} (h:Sl mbrT w S (.slice A n c) l) :
  ∃ lp:List MP,lp.map Prod.fst=l/\(∀ e ∈ lp,FormMP e/\RdMP w S e) /\
   ∀ pre e post,lp=pre++e :: post->∃ b o,A=some ⟨b,o,none⟩/\S b/\∀ (j:Nat) u,(mpC e)[j]? = some u->w.cell? ⟨b,o+pre.length * 15+j,none⟩=some u:=by
 have hch:∀ i:Fin l.length,∃ q:Value × Value,FormMP (l[i],q)/\RdMP w S (l[i],q)/\∃ b o,A=some ⟨b,o,none⟩/\S b/\∀ (j:Nat) u,(mpC (l[i],q))[j]? = some u->w.cell? ⟨b,o+i.1 * 15+j,none⟩=some u:=by
  intro i
  obtain⟨b,o,A1,c1,A2,c2,hA,hS,h1,h2,hc⟩:=mbr_at (wr:=w) h (fun _ _ _=>rfl) (show l=l.take i.1++l[i] :: l.drop (i.1+1) by simp)
  refine ⟨(.slice A1 (l[i]).gone.length c1,.slice A2 (l[i]).words.length c2),⟨_,_,_,_,_,_,_,rfl⟩,⟨h1,h2⟩,b,o,hA,hS,fun j u hj=>?_⟩
  have:=hc j u hj
  rwa [List.length_take,Nat.min_eq_left (Nat.le_of_lt i.2)] at this
 obtain⟨f,hf⟩:=Classical.axiomOfChoice hch
 have hg:∀ (pre:List MP) e post,(List.ofFn fun i:Fin l.length=>((l[i],f i):MP))=pre++e :: post->∃ i:Fin l.length,i.1=pre.length/\e=(l[i],f i):=by
  intro pre e post hl
  have hlen:=congrArg List.length hl
  simp only [List.length_ofFn,List.length_append,List.length_cons] at hlen
  have hlt:pre.length < l.length:=by omega
  refine ⟨⟨pre.length,hlt⟩,rfl,?_⟩
  have h1:(List.ofFn fun i:Fin l.length=>((l[i],f i):MP))[pre.length]? = some e:=by rw [hl];simp
  rw [List.getElem?_ofFn] at h1
  simp only [hlt,dite_true,Option.some.injEq] at h1
  exact h1.symm
 refine ⟨List.ofFn fun i:Fin l.length=>((l[i],f i):MP),?_,?_,?_⟩
 ·refine List.ext_getElem (by simp) fun i h1 h2=>?_
  simp
 ·intro e he
  obtain⟨pre,post,hl⟩:=List.append_of_mem he
  obtain⟨i,-,rfl⟩:=hg pre e post hl
  exact⟨(hf i).1,(hf i).2.1⟩
 ·intro pre e post hl
  obtain⟨i,hi,rfl⟩:=hg pre e post hl
  rw [<- hi]
  exact (hf i).2.2
def prL (L:List (Str × MP)):List (Str × Mbr):=L.map fun q=>(q.1,q.2.1)
theorem prL_keys (L:List (Str × MP)):(prL L).map Prod.fst=L.map Prod.fst:=by unfold prL;rw [List.map_map];rfl
theorem prL_look (L:List (Str × MP)) (k:Str):(prL L).lookup k=(L.lookup k).map Prod.fst:=by
 induction L with
 | nil=>rfl
 | cons q L ih =>
  obtain⟨a,e⟩:=q
  have ih:List.lookup k (L.map fun q:Str × MP=>(q.1,q.2.1))=(L.lookup k).map Prod.fst:=ih
  unfold prL
  rw [List.map_cons,List.lookup_cons,List.lookup_cons]
  cases k == a <;> simp [ih]
theorem prL_put (L:List (Str × MP)) (k:Str) (e:MP):prL (putL L k e)=putL (prL L) k e.1:=by
 unfold putL
 rw [prL_keys]
 split
 ·unfold prL
  rw [List.map_map,List.map_map]
  refine List.map_congr_left fun q _=>?_
  simp only [Function.comp]
  split <;> rfl
 ·simp [prL]
theorem prL_append (A B:List (Str × MP)):prL (A++B)=prL A++prL B:=by simp [prL]
theorem prL_firsts (l:List MP):prL (firstsL (fun e:MP=>e.1.path) l)=firstsL Mbr.path (l.map Prod.fst):=by
 have:∀ (l:List MP) (L:List (Str × MP)),prL (l.foldl (firstS (fun e:MP=>e.1.path)) L)=(l.map Prod.fst).foldl (firstS Mbr.path) (prL L):=by
  intro l
  induction l with
  | nil=>intro L;rfl
  | cons e l ih =>
   intro L
   rw [List.foldl_cons,ih,List.map_cons,List.foldl_cons]
   congr 1
   unfold firstS
   rw [prL_keys]
   split
   ·rfl
   ·exact prL_put _ _ _
 exact this l []
abbrev nmM (e:MP):Str:=e.1.path
def mp0:MP:=(mbr0,.slice none 0 0,.slice none 0 0)
abbrev nmG:Value:=.func (.func 43) #[] #[]
theorem look_in {ν:Type} {L:List (Str × ν)} {k:Str} {v:ν} (h:L.lookup k=some v):(k,v) ∈ L:=by
 induction L with
 | nil=>cases h
 | cons q L ih =>
  obtain⟨a,b⟩:=q
  rw [List.lookup_cons] at h
  split at h
  ·rename_i he
   injection h with h
   subst h
   have:k=a:=by simpa using he
   rw [this]
   exact List.mem_cons_self
  ·exact List.mem_cons_of_mem _ (ih h)
theorem form_get {L:List (Str × MP)} (h:∀ q ∈ L,FormMP q.2) (k:Str):FormMP (getL mp0 L k):=by
 rw [lookS]
 cases hl:L.lookup k with
 | none=>exact⟨_,_,_,_,_,_,_,rfl⟩
 | some v=>exact h _ (look_in hl)
theorem mname_any (e:MP) (w:World) (h:FormMP e):Calls Tryz.prog 43 #[mpV e] w fun r w'=>r=.returned (St e.1.path)/\Ext w w':=by
 obtain⟨x,A1,y1,c1,A2,y2,c2,rfl⟩:=h
 have hx:=(Ext.refl w).alloc (.cells #[St x.path,U8 x.status,I x.kids,I x.cut,U x.last,.slice A1 y1 c1,St x.plan.keeper,U x.plan.round,St x.plan.live,St x.plan.by_,U x.plan.cap,St x.plan.owner,U x.plan.base,.bool x.plan.done,.slice A2 y2 c2] 48)
 have k0:=(rowNew w 48 [St x.path,U8 x.status,I x.kids,I x.cut,U x.last,.slice A1 y1 c1,St x.plan.keeper,U x.plan.round,St x.plan.live,St x.plan.by_,U x.plan.cap,St x.plan.owner,U x.plan.base,.bool x.plan.done,.slice A2 y2 c2]).cell (j:=0) rfl
 unfold mpV mbrV
 go_enter Tryz.func43,Tryz.ntmps43
 go_wp2_with fail
 go_ret
 exact⟨rfl,hx⟩
theorem firstM_any {A:Option Addr} {c:Nat} {l:List MP} {w:World} {tb:Nat} (hF:∀ e ∈ l,FormMP e) (hc1:l.length<=c) (hc2:c<=9223372036854775807) (hA:∀ pre e post,l=pre++e :: post->∃ b o,A=some ⟨b,o,none⟩/\∀ (j:Nat) u,(mpC e)[j]? = some u->w.cell? ⟨b,o+pre.length * 15+j,none⟩=some u) (hb:w.cell? ⟨tb,0,none⟩=some nmG) :
  Calls Tryz.prog 103 #[.slice A l.length c,.pointer (some ⟨tb,0,none⟩)] w fun e w'=>∃ p,e=.returned (.map (some p))/\w.heap.size<=p/\MapIs St mpV w' p (firstsL nmM l)/\Ext w w':=by
 have HAT:=Lib.hid hA
 have HFM:=Lib.hid hF
 have hmm:=run_makeMap_hint Tryz.underlying115
 have HZ:=Lib.hid (show ∀ w,(zeroValue 48).run Tryz.prog w=.ok (mpV mp0) w from Tryz.zeroValue48)
 have eg:∀ args w,(callFunc 43 args).run Tryz.prog w=.ok (.enter 43 args) w:=enters_of Tryz.func43 (by kernel_rfl) rfl
 have HN:=Lib.hid mname_any
 have HB:=Lib.hid hb
 clear hA hF hb
 go_enter Tryz.func103,Tryz.ntmps103
 go_wp2_with fail
 go_loopw [14] (fun i wr=>∃ pre post,l=pre++post/\i=I pre.length/\MapIs St mpV wr w.heap.size (firstsL nmM pre)/\Ext w wr) (fun i _=>l.length - (intOf i).toNat)
 case atStart=>exact⟨[],l,rfl,rfl,MapIs.new w,(Ext.refl w).alloc _⟩
 case round =>
  obtain⟨pre,post,hl,rfl,hS,hx⟩:=hrel
  cases post with
  | cons e post =>
   obtain⟨b,o,rfl,hc⟩:=HAT.out pre e post hl
   obtain⟨x,A1,y1,c1,A2,y2,c2,rfl⟩:=HFM.out e (by rw [hl];simp)
   have k0:=hx.cell (hc 0 _ rfl)
   have k1:=hx.cell (hc 1 _ rfl)
   have k2:=hx.cell (hc 2 _ rfl)
   have k3:=hx.cell (hc 3 _ rfl)
   have k4:=hx.cell (hc 4 _ rfl)
   have k5:=hx.cell (hc 5 _ rfl)
   have k6:=hx.cell (hc 6 _ rfl)
   have k7:=hx.cell (hc 7 _ rfl)
   have k8:=hx.cell (hc 8 _ rfl)
   have k9:=hx.cell (hc 9 _ rfl)
   have k10:=hx.cell (hc 10 _ rfl)
   have k11:=hx.cell (hc 11 _ rfl)
   have k12:=hx.cell (hc 12 _ rfl)
   have k13:=hx.cell (hc 13 _ rfl)
   have k14:=hx.cell (hc 14 _ rfl)
   simp only [Nat.add_zero] at k0
   clear hc
   have hlt:pre.length < l.length:=by rw [hl];simp
   have HL:=Lib.hid hl
   have hx1:=(Ext.refl wr).alloc (.cells #[St x.path,U8 x.status,I x.kids,I x.cut,U x.last,.slice A1 y1 c1,St x.plan.keeper,U x.plan.round,St x.plan.live,St x.plan.by_,U x.plan.cap,St x.plan.owner,U x.plan.base,.bool x.plan.done,.slice A2 y2 c2] 48)
   have R1:=Lib.hid (rowNew wr 48 [St x.path,U8 x.status,I x.kids,I x.cut,U x.last,.slice A1 y1 c1,St x.plan.keeper,U x.plan.round,St x.plan.live,St x.plan.by_,U x.plan.cap,St x.plan.owner,U x.plan.base,.bool x.plan.done,.slice A2 y2 c2])
   have hnm:=(hx.trans hx1).cell HB.out
   have HS:=Lib.hid (hS.ext hx1)
   have HX:=Lib.hid (hx.trans hx1)
   have HSZ:=Lib.hid hx.size
   have htb:=blk_of_cell HB.out
   clear hl hS hx hx1
   go_wp2_with fail
   have r1:=R1.out
   generalize hW1:wr.alloc (.cells #[St x.path,U8 x.status,I x.kids,I x.cut,U x.last,.slice A1 y1 c1,St x.plan.keeper,U x.plan.round,St x.plan.live,St x.plan.by_,U x.plan.cap,St x.plan.owner,U x.plan.base,.bool x.plan.done,.slice A2 y2 c2] 48)=W1 at *
   generalize wr.heap.size=n1 at *
   refine (HN.out (x,.slice A1 y1 c1,.slice A2 y2 c2) W1 ⟨_,_,_,_,_,_,_,rfl⟩).mono ?_
   rintro e w2 ⟨rfl,hx2⟩
   have HX2:=Lib.hid (HX.out.trans hx2)
   have hnm2:=hx2.cell hnm
   have hS2:=HS.out.ext hx2
   obtain⟨-,hlk⟩:=run_lookup_MapIs (P:=Tryz.prog) Tryz.underlying115 keyStr HZ.out hS2 x.path
   have hzf:FormMP (getL mp0 (firstsL nmM pre) x.path):=form_get (fun q hq=>HFM.out q.2 (by rw [HL.out];exact List.mem_append_left _ (firstsL_in nmM hq).1)) _
   generalize hG:getL mp0 (firstsL nmM pre) x.path=ze at hlk hzf
   obtain⟨z,Z1,m1,d1,Z2,m2,d2,rfl⟩:=hzf
   have R2:=Lib.hid (r1.ext hx2)
   have HS2:=Lib.hid hS2
   clear hG hW1 hS2 hx2 hnm r1 R1 HS HX k0 k1 k2 k3 k4 k5 k6 k7 k8 k9 k10 k11 k12 k13 k14
   unfold mpV mbrV at hlk
   by_cases hin:x.path ∈ (firstsL nmM pre).map Prod.fst
   ·simp only [hin,decide_true] at hlk
    have HF:=Lib.hid (show firstsL nmM (pre++[(x,.slice A1 y1 c1,.slice A2 y2 c2)])=firstsL nmM pre by rw [firstsL_snoc,if_pos hin])
    clear hin
    go_wp2_with fail
    go_roundw
    case rel=>exact⟨pre++[(x,.slice A1 y1 c1,.slice A2 y2 c2)],post,by rw [HL.out];simp,by simp,by rw [HF.out];exact HS2.out.ext ((Ext.refl _).alloc _),HX2.out.alloc _⟩
    case measure=>simp [intOf];omega
   ·simp only [hin,decide_false] at hlk
    have HF:=Lib.hid (show firstsL nmM (pre++[(x,.slice A1 y1 c1,.slice A2 y2 c2)])=putL (firstsL nmM pre) x.path (x,.slice A1 y1 c1,.slice A2 y2 c2) by rw [firstsL_snoc,if_neg hin])
    clear hin
    go_wp2_with fail
    have HX3:=Lib.hid (HX2.out.alloc (.cells #[St z.path,U8 z.status,I z.kids,I z.cut,U z.last,.slice Z1 m1 d1,St z.plan.keeper,U z.plan.round,St z.plan.live,St z.plan.by_,U z.plan.cap,St z.plan.owner,U z.plan.base,.bool z.plan.done,.slice Z2 m2 d2] 48))
    have HS3:=Lib.hid (HS2.out.ext ((Ext.refl w2).alloc (.cells #[St z.path,U8 z.status,I z.kids,I z.cut,U z.last,.slice Z1 m1 d1,St z.plan.keeper,U z.plan.round,St z.plan.live,St z.plan.by_,U z.plan.cap,St z.plan.owner,U z.plan.base,.bool z.plan.done,.slice Z2 m2 d2] 48)))
    have R3:=Lib.hid (R2.out.ext ((Ext.refl w2).alloc (.cells #[St z.path,U8 z.status,I z.kids,I z.cut,U z.last,.slice Z1 m1 d1,St z.plan.keeper,U z.plan.round,St z.plan.live,St z.plan.by_,U z.plan.cap,St z.plan.owner,U z.plan.base,.bool z.plan.done,.slice Z2 m2 d2] 48)))
    have hnm3:=((Ext.refl w2).alloc (.cells #[St z.path,U8 z.status,I z.kids,I z.cut,U z.last,.slice Z1 m1 d1,St z.plan.keeper,U z.plan.round,St z.plan.live,St z.plan.by_,U z.plan.cap,St z.plan.owner,U z.plan.base,.bool z.plan.done,.slice Z2 m2 d2] 48)).cell hnm2
    generalize w2.alloc (.cells #[St z.path,U8 z.status,I z.kids,I z.cut,U z.last,.slice Z1 m1 d1,St z.plan.keeper,U z.plan.round,St z.plan.live,St z.plan.by_,U z.plan.cap,St z.plan.owner,U z.plan.base,.bool z.plan.done,.slice Z2 m2 d2] 48)=W3 at *
    have hr3:=R3.out
    have HRC:=Lib.hid (fun (W:World) (he:Ext W3 W)=>RowIs.c15 (hr3.ext he))
    clear hr3 R3 R2
    refine wp_region_facts [fun v _=>v=.map (some w.heap.size),fun v _=>v=nmG,fun v _=>v=mpV (x,.slice A1 y1 c1,.slice A2 y2 c2),fun v _=>v=St x.path,fun v _=>v=mpV (x,.slice A1 y1 c1,.slice A2 y2 c2)] rfl (by kernel_rfl) ?hR ?hstep ?hend
    case hR =>
     simp only [List.mem_cons,List.not_mem_nil,or_false,forall_eq_or_imp,forall_eq]
     exact⟨fun v _ _ h _=>h,fun v _ _ h _=>h,fun v _ _ h _=>h,fun v _ _ h _=>h,fun v _ _ h _=>h⟩
    case hstep =>
     simp only [List.length_cons,List.length_nil,Nat.reduceAdd,List.take_succ_cons,List.take_zero,stepsAll,and_true]
     refine ⟨?_,?_,?_,?_,?_⟩
     ·intro y W he f
      have h:y 4=.map (some w.heap.size):=f.1
      go_wp
      exact stepQ_ok rfl (Ext.refl _)
     ·intro y W he f
      have h:y 1=.pointer (some ⟨tb,0,none⟩):=f.1
      have hc:=he.cell hnm3
      go_wp
      exact stepQ_ok rfl (Ext.refl _)
     ·intro y W he f
      have h:y 6=.pointer (some ⟨n1,0,none⟩):=f.1
      obtain⟨q0,q1,q2,q3,q4,q5,q6,q7,q8,q9,q10,q11,q12,q13,q14⟩:=HRC.out W he
      go_wp
      exact stepQ_ok rfl (Ext.refl _)
     ·intro y W he f
      have h:y 29=.func (.func 43) #[] #[]:=f.1
      have h':y 30=mpV (x,.slice A1 y1 c1,.slice A2 y2 c2):=f.2.1
      go_wp
      refine (HN.out (x,.slice A1 y1 c1,.slice A2 y2 c2) W ⟨_,_,_,_,_,_,_,rfl⟩).mono ?_
      rintro e w1 ⟨rfl,hx1⟩
      dsimp only
      go_wp
      exact stepQ_ok rfl hx1
     ·intro y W he f
      have h:y 6=.pointer (some ⟨n1,0,none⟩):=f.1
      obtain⟨q0,q1,q2,q3,q4,q5,q6,q7,q8,q9,q10,q11,q12,q13,q14⟩:=HRC.out W he
      go_wp
      exact stepQ_ok rfl (Ext.refl _)
    case hend =>
     intro y W he f
     have h28:y 28=.map (some w.heap.size):=f.1
     have h31:y 31=St x.path:=f.2.2.2.1
     have h32:y 32=mpV (x,.slice A1 y1 c1,.slice A2 y2 c2):=f.2.2.2.2.1
     simp only [List.length_cons,List.length_nil,Nat.reduceAdd,List.take_succ_cons,List.take_zero,List.filterMap_cons,List.filterMap_nil,List.drop_succ_cons,List.drop_zero,putAll,Act.put,List.setIfInBounds_toArray,List.set_cons_succ,List.set_cons_zero,h28,h31,h32]
     obtain⟨wn,hup,hsn,htn⟩:=run_update_MapIs (P:=Tryz.prog) Tryz.underlying115 keyStr (HS3.out.ext he) x.path (x,.slice A1 y1 c1,.slice A2 y2 c2)
     have HE:=Lib.hid (And.intro hsn ((HX3.out.trans he).turned htn (Nat.le_refl _)))
     clear h28 h31 h32 f hsn htn he
     go_wp2
     go_roundw
     case rel=>exact⟨pre++[(x,.slice A1 y1 c1,.slice A2 y2 c2)],post,by rw [HL.out];simp,by simp,by rw [HF.out];exact HE.out.1,HE.out.2⟩
     case measure=>simp [intOf];omega
  | nil =>
   rw [List.append_nil] at hl
   subst hl
   have HF:=Lib.hid (And.intro hS hx)
   clear hS hx
   go_wp2_with fail
   go_ret
   exact⟨_,rfl,Nat.le_refl _,HF.out.1,HF.out.2⟩
theorem mget_fst (L:List (Str × MP)) (k:Str):(getL mp0 L k).1=getL mbr0 (prL L) k:=by
 rw [lookS,lookS,prL_look]
 cases L.lookup k <;> rfl
theorem putL_in {ν:Type} {L:List (Str × ν)} {k:Str} {v:ν} {q:Str × ν} (h:q ∈ putL L k v):q ∈ L ∨ q=(k,v):=by
 unfold putL at h
 split at h
 ·obtain⟨p,hp,rfl⟩:=List.mem_map.1 h
  split
  ·exact .inr rfl
  ·exact .inl hp
 ·rcases List.mem_append.1 h with h | h
  ·exact .inl h
  ·exact .inr (List.mem_singleton.1 h)
theorem mmerge_val {La done L:List (Str × MP)} {k:Str} (hd:k ∉ done.map Prod.fst) (hl:∀ j,(prL L).lookup j=mrgO joinedM ((prL La).lookup j) ((prL done).lookup j)) (hin:k ∈ L.map Prod.fst) :
  (prL La).lookup k=some (getL mp0 L k).1/\(k,getL mp0 L k) ∈ L:=by
 obtain⟨e,he⟩:=Option.isSome_iff_exists.1 (memS.1 hin)
 have h2:=merge_at joinedM (by rw [prL_keys];exact hd) hl
 have hg:getL mp0 L k=e:=by rw [lookS,he];rfl
 rw [hg,<- h2,prL_look,he]
 exact⟨rfl,look_in he⟩
theorem mmerge_none {La done L:List (Str × MP)} {k:Str} (hd:k ∉ done.map Prod.fst) (hl:∀ j,(prL L).lookup j=mrgO joinedM ((prL La).lookup j) ((prL done).lookup j)) (hin:k ∉ L.map Prod.fst):(prL La).lookup k=none:=by
 rw [<- merge_at joinedM (by rw [prL_keys];exact hd) hl,prL_look,lookS_none hin]
 rfl
theorem mmerge_step {La done L:List (Str × MP)} {k:Str} {y e:MP} (hd:k ∉ done.map Prod.fst) (hl:∀ j,(prL L).lookup j=mrgO joinedM ((prL La).lookup j) ((prL done).lookup j)) (hv:e.1=match (prL La).lookup k with | some x=>joinedM x y.1 | none=>y.1) :
  ∀ j,(prL (putL L k e)).lookup j=mrgO joinedM ((prL La).lookup j) ((prL (done++[(k,y)])).lookup j):=by
 intro j
 rw [prL_put,prL_append]
 exact merge_step joinedM (k:=k) (y:=y.1) (La:=prL La) (done:=prL done) (by rw [prL_keys];exact hd) hl e.1 (by rw [hv];cases (prL La).lookup k <;> rfl) j
theorem mmerge_row {a b:List Mbr} {L:List (Str × MP)} (hn:(L.map Prod.fst).Nodup) (hl:∀ k,(prL L).lookup k=mrgO joinedM (a.find? fun x=>decide (x.path=k)) (b.find? fun x=>decide (x.path=k))) :
  (((isort ltP (L.map Prod.fst)).map (getL mp0 L)).map Prod.fst)=mergeL Mbr.path joinedM a b:=by
 have h:=merge_is Mbr.path joinedM mbr0 (by rw [prL_keys];exact hn) hl
 rw [<- h,List.map_map,prL_keys]
 exact List.map_congr_left fun k _=>mget_fst L k
theorem RdMP.ext {w w':World} {S:Nat->Prop} {e:MP} (h:RdMP w S e) (he:Ext w w'):RdMP w' S e:=⟨h.1.ext (by decide) he,h.2.ext (by decide) he⟩
theorem RdMP.mono {w:World} {S S':Nat->Prop} {e:MP} (h:RdMP w S e) (hs:∀ b,S b->S' b):RdMP w S' e:=⟨h.1.mono (by decide) fun b _ hb=>hs b hb,h.2.mono (by decide) fun b _ hb=>hs b hb⟩
theorem RdMP.monoL {w:World} {S S':Nat->Prop} {e:MP} (h:RdMP w S e) (hs:∀ b,b < w.heap.size->S b->S' b):RdMP w S' e:=⟨h.1.mono (by decide) hs,h.2.mono (by decide) hs⟩
theorem RdMP.keep {w w':World} {S:Nat->Prop} {e:MP} (h:RdMP w S e) (hs:∀ b,S b->b < w.heap.size->w'.heap[b]? = w.heap[b]?):RdMP w' S e:=⟨h.1.keep (by decide) hs,h.2.keep (by decide) hs⟩
theorem nmg_here (w:World):(w.alloc (.cells #[nmG] 84)).cell? ⟨w.heap.size,0,none⟩=some nmG:=by simp [go_sem]
theorem mergeM_any {S S':Nat->Prop} {A B:Option Addr} {ca cb:Nat} {a b:List MP} {w:World} (hca:a.length<=ca) (hca':ca<=9223372036854775807) (hcb:b.length<=cb) (hcb':cb<=9223372036854775807) (hFa:∀ e ∈ a,FormMP e/\RdMP w S e) (hFb:∀ e ∈ b,FormMP e/\RdMP w S' e)
  (ha:∀ pre e post,a=pre++e :: post->∃ b o,A=some ⟨b,o,none⟩/\∀ (j:Nat) u,(mpC e)[j]? = some u->w.cell? ⟨b,o+pre.length * 15+j,none⟩=some u)
  (hb:∀ pre e post,b=pre++e :: post->∃ b o,B=some ⟨b,o,none⟩/\∀ (j:Nat) u,(mpC e)[j]? = some u->w.cell? ⟨b,o+pre.length * 15+j,none⟩=some u)
  (hk:∀ e,e ∈ a ∨ e ∈ b->e.1.path.length < 4294967296/\e.1.plan.keeper.length < 4611686018427387904/\(∀ z ∈ e.1.words,z.of.length < 4294967296/\z.keeper.length < 4611686018427387904)/\e.1.gone.length<=549755813888/\e.1.words.length<=549755813888) (hl:a.length+b.length<=8589934592) :
  Calls Tryz.prog 42 #[.slice A a.length ca,.slice B b.length cb,nmG,.func (.func 44) #[] #[]] w fun e w'=>∃ (v':Value) (L:List MP),e=.returned v'/\Own w' w.heap.size 48 15 v' L.length (L.flatMap mpC)/\L.map Prod.fst=mergeL Mbr.path joinedM (a.map Prod.fst) (b.map Prod.fst)/\(∀ e ∈ L,RdMP w' (fun b=>S b ∨ S' b ∨ w.heap.size<=b) e)/\Ext w w':=by
 have hx0:=(Ext.refl w).alloc (.cells #[nmG] 84)
 have HF1:=Lib.hid (firstM_any (A:=A) (c:=ca) (fun e he=>(hFa e he).1) hca hca' (fun pre e post h=>by
  obtain⟨b,o,h1,h2⟩:=ha pre e post h
  exact⟨b,o,h1,fun j u hj=>hx0.cell (h2 j u hj)⟩) (nmg_here w))
 have HF2:=Lib.hid (fun W (h:Ext (w.alloc (.cells #[nmG] 84)) W)=>firstM_any (A:=B) (c:=cb) (fun e he=>(hFb e he).1) hcb hcb' (fun pre e post h'=>by
  obtain⟨b,o,h1,h2⟩:=hb pre e post h'
  exact⟨b,o,h1,fun j u hj=>(hx0.trans h).cell (h2 j u hj)⟩) (h.cell (nmg_here w)))
 have eg1:∀ args w,(callFunc 103 args).run Tryz.prog w=.ok (.enter 103 args) w:=enters_of Tryz.func103 (by kernel_rfl) rfl
 have eg2:∀ args w,(callFunc 44 args).run Tryz.prog w=.ok (.enter 44 args) w:=enters_of Tryz.func44 (by kernel_rfl) rfl
 have HZ:=Lib.hid (show ∀ w,(zeroValue 48).run Tryz.prog w=.ok (mpV mp0) w from Tryz.zeroValue48)
 have HK:=Lib.hid hk
 have HX0:=Lib.hid hx0
 have HRD:=Lib.hid (And.intro hFa hFb)
 have hs0:(w.alloc (.cells #[nmG] 84)).heap.size=w.heap.size+1:=by simp
 have HS0:=Lib.hid hs0
 clear ha hb hk hx0 hs0 hFa hFb
 go_enter Tryz.func42,Tryz.ntmps42
 go_wp2_with fail
 generalize w.alloc (.cells #[nmG] 84)=W0 at *
 refine HF1.out.mono ?_
 rintro e w1 ⟨p1,rfl,hp1,hm1,hx1⟩
 have HP1:=Lib.hid (And.intro hp1 (And.intro hm1 hx1))
 clear hp1 hm1 hx1
 go_wp2_with fail
 refine (HF2.out w1 HP1.out.2.2).mono ?_
 rintro e w2 ⟨p2,rfl,hp2,hm2,hx2⟩
 have hm1:=HP1.out.2.1
 have HM1:=Lib.hid (hm1.ext hx2)
 obtain⟨W3,hr,hR,hx3,hsz⟩:=run_range_MapIs (P:=Tryz.prog) Tryz.underlying115 hm2
 have HN2:=Lib.hid hm2.nodup
 have HR:=Lib.hid hR
 have HM3:=Lib.hid (HM1.out.ext hx3)
 have HX3:=Lib.hid ((HX0.out.trans (HP1.out.2.2.trans hx2)).trans hx3)
 have hl1:=hm1.lt
 have hl2:=hm2.lt
 have HNE:=Lib.hid (show p1 ≠ p2/\p1 ≠ w2.heap.size/\w.heap.size<=p1/\p1 < w2.heap.size/\w.heap.size<=w2.heap.size from by
  have h1:=HP1.out.1
  have h2:=hx2.size
  have h3:=HS0.out
  have h4:=HP1.out.2.2.size
  omega)
 clear hm1 hm2 hx2 hR hx3 hp2 HP1 HM1 hl1 hl2
 go_wp2_with fail
 go_loopw [28] (fun u wr=>∃ done rest L,(done++rest).Perm (firstsL nmM b)/\RangeIs St mpV wr p2 w2.heap.size (firstsL nmM b) rest/\Hid (MapIs St mpV wr p1 L/\(∀ j,(prL L).lookup j=mrgO joinedM ((prL (firstsL nmM a)).lookup j) ((prL done).lookup j))/\∀ q ∈ L,FormMP q.2/\RdMP wr (fun b=>(S b/\b < w.heap.size) ∨ (S' b/\b < w.heap.size) ∨ (w.heap.size<=b/\b ≠ p1/\b ≠ w2.heap.size)) q.2)/\Ext w wr) (fun _ wr=>wr.rangeLeft p2 w2.heap.size)
 case atStart=>exact⟨[],_,firstsL nmM a,.refl _,HR.out,Lib.hid ⟨HM3.out,fun j=>by cases (prL (firstsL nmM a)).lookup j <;> rfl,fun q hq=>⟨(HRD.out.1 q.2 (firstsL_in nmM hq).1).1,((HRD.out.1 q.2 (firstsL_in nmM hq).1).2.monoL fun b hb h=>.inl ⟨h,hb⟩).ext HX3.out⟩⟩,HX3.out⟩
 case round =>
  obtain⟨done,rest,L,hperm,hR,hML,hx⟩:=hrel
  rcases run_next_MapIs (P:=Tryz.prog) 0 hR with ⟨rfl,hrun⟩ | ⟨r1,q,r2,wn,rfl,hrun,hR2,ht,hent⟩
  ·have hnx:∀ ty,(Instr.next (.pointer (some ⟨w2.heap.size,0,none⟩)) false ty).run Tryz.prog wr=.ok (.tuple #[.bool false]) wr:=fun ty=>hrun
   have hd:done.Perm (firstsL nmM b):=by simpa using hperm
   have hlo:∀ j,(prL L).lookup j=mrgO joinedM ((a.map Prod.fst).find? fun x=>decide (x.path=j)) ((b.map Prod.fst).find? fun x=>decide (x.path=j)):=fun j=>by
    rw [hML.out.2.1 j,prL_look done,perm_lookS ((hd.map Prod.fst).nodup_iff.2 HN2.out) hd,<- prL_look,prL_firsts,prL_firsts,firstsL_look,firstsL_look]
   have hm:=hML.out.1
   have HRES:=Lib.hid (mmerge_row hm.nodup hlo)
   have HKL:=Lib.hid (show ∀ k ∈ L.map Prod.fst,k.length < 4294967296 from fun k hk'=>by
    rw [<- prL_keys] at hk'
    rcases (merge_keys Mbr.path joinedM hlo k).1 hk' with h | h
    ·obtain⟨x,hx,rfl⟩:=List.mem_map.1 h
     obtain⟨e,he,rfl⟩:=List.mem_map.1 hx
     exact (HK.out e (.inl he)).1
    ·obtain⟨x,hx,rfl⟩:=List.mem_map.1 h
     obtain⟨e,he,rfl⟩:=List.mem_map.1 hx
     exact (HK.out e (.inr he)).1)
   have HLEN:=Lib.hid (show L.length<=8589934592 from by
    have h:=merge_len Mbr.path joinedM (L:=prL L) (by rw [prL_keys];exact hm.nodup) hlo
    simp only [prL,List.length_map] at h
    omega)
   have HM:=Lib.hid hm
   have HX:=Lib.hid hx
   have HRL2:=Lib.hid hML.out.2.2
   clear hrun hd hlo hm hML hx hperm hR hl
   go_wp2_with fail
   refine (keysS_anyM p1 wr).mono ?_
   rintro e w4 ⟨rfl,rfl⟩
   have hxb:=(Ext.refl wr).alloc (.cells #[.map (some p1)] 115)
   have HSRT:=Lib.hid (sortedM_any (p:=p1) (B:=wr.heap.size) (show (wr.alloc (.cells #[.map (some p1)] 115)).cell? ⟨wr.heap.size,0,none⟩=some (.map (some p1)) by simp [go_sem]) (HM.out.ext hxb) HKL.out (Nat.le_trans HLEN.out (by decide)))
   have HM4:=Lib.hid (HM.out.ext hxb)
   have HX4:=Lib.hid (HX.out.trans hxb)
   have HX4E:=Lib.hid hxb
   clear hxb
   go_wp2_with fail
   generalize wr.alloc (.cells #[.map (some p1)] 115)=W4 at *
   generalize wr.heap.size=nb at *
   refine HSRT.out.mono ?_
   rintro e w5 ⟨v',rfl,hv,hx5⟩
   have HM5:=Lib.hid (HM4.out.ext hx5)
   have HX5:=Lib.hid (HX4.out.trans hx5)
   have HYL:=Lib.hid (show (isort ltP (L.map Prod.fst)).length<=8589934592 by rw [(isort_perm (lt:=ltP) _).length_eq,List.length_map];exact HLEN.out)
   have HYK:=Lib.hid (show ∀ k ∈ isort ltP (L.map Prod.fst),k ∈ L.map Prod.fst from fun k hk=>(isort_perm (lt:=ltP) _).subset hk)
   have HX5E:=Lib.hid (HX4E.out.trans hx5)
   generalize isort ltP (L.map Prod.fst)=ys at *
   obtain⟨Av,cv,rfl,-,-⟩:=hv.form
   have HY:=Lib.hid (fun (pre post:List Str) (k:Str) (wr:World) (h:Ext w5 wr) (hl:ys=pre++k :: post)=>(show ∃ g,Av=some ⟨g,0,none⟩/\wr.cell? ⟨g,pre.length,none⟩=some (St k) from by
    obtain⟨g,cap,cur,he,-⟩:=hv.pos (by rw [hl];simp;omega)
    injection he with e1 e2 e3
    subst e1
    refine ⟨g,rfl,h.cell (hv.cell rfl ?_)⟩
    rw [strC_flat,List.getElem?_map,hl,List.getElem?_append_right (Nat.le_refl _),Nat.sub_self]
    rfl))
   clear hv HSRT HM4 HX4 HM HX HKL HLEN hx5 HN2 HR HM3 HX3 HF1 HF2 HK HX0 HS0
   go_wp2_with fail
   go_loopw [16,51] (fun v i wr=>∃ pre post,ys=pre++post/\i=I pre.length/\Own wr w5.heap.size 48 15 v pre.length ((pre.map (getL mp0 L)).flatMap mpC)/\Ext w5 wr) (fun _ i _=>ys.length - (intOf i).toNat)
   case atStart=>exact⟨[],ys,rfl,rfl,Own.nil _ _ _ _ _,Ext.refl _⟩
   case round =>
    obtain⟨pre,post,hl,rfl,hown,hx⟩:=hrel
    cases post with
    | cons k post =>
     obtain⟨g,rfl,hc⟩:=HY.out pre post k wr hx hl
     have hlt:pre.length < ys.length:=by rw [hl];simp
     have hyl:ys.length<=8589934592:=HYL.out
     obtain⟨hlk,-⟩:=run_lookup_MapIs (P:=Tryz.prog) Tryz.underlying115 keyStr HZ.out (HM5.out.ext hx) k
     have HL:=Lib.hid hl
     have HE:=Lib.hid (show ((pre++[k]).map (getL mp0 L)).flatMap mpC=(pre.map (getL mp0 L)).flatMap mpC++mpC (getL mp0 L k) by simp)
     have hzf:=form_get (fun q hq=>(HRL2.out q hq).1) k
     generalize getL mp0 L k=ze at *
     obtain⟨z,Z1,zm1,zd1,Z2,zm2,zd2,rfl⟩:=hzf
     unfold mpV mbrV at hlk
     generalize hcs:(pre.map (getL mp0 L)).flatMap mpC=cs at *
     clear hcs
     have HO:=Lib.hid hown
     have HX:=Lib.hid hx
     have hn3:=hx.size
     have hnz:=Lib.hid ((HX5.out.trans hx).alloc (.cells #[St z.path,U8 z.status,I z.kids,I z.cut,U z.last,.slice Z1 zm1 zd1,St z.plan.keeper,U z.plan.round,St z.plan.live,St z.plan.by_,U z.plan.cap,St z.plan.owner,U z.plan.base,.bool z.plan.done,.slice Z2 zm2 zd2] 48))
     obtain⟨A4,c4,rfl,-,-⟩:=hown.form
     clear hl hx
     go_wp2_with (at_builtin;refine wpList_append_Own rfl (.tmp 55) (.tmp 59) 22 rfl w5.heap.size 48 15 192 zeroMbr Tryz.underlying22 info_mbr rfl (by omega) _ pre.length cs rfl (hown.alloc _) _ 1 1 _ rfl (Src.new rfl (mbrC_one (x:=z) (v1:=.slice Z1 zm1 zd1) (v2:=.slice Z2 zm2 zd2) rfl rfl)) (by omega) (by omega) (by simp;omega) ?_;intro v' w' hown2 hgr;clear hown)
     go_roundw
     case rel=>exact⟨pre++[k],post,by rw [HL.out];simp,by simp,by rw [HE.out,List.length_append];exact hown2,Ext.grewOwn (HX.out.alloc _) hgr (HO.out.alloc _) (Nat.le_refl _)⟩
     case measure=>simp [intOf];omega
    | nil =>
     rw [List.append_nil] at hl
     subst hl
     have HF:=Lib.hid (And.intro hown (HX5.out.trans hx))
     have hx2':=hx
     obtain⟨A4,c4,rfl,-,-⟩:=hown.form
     have HX2Q:=Lib.hid hx2'
     clear hown hx hx2'
     go_wp2_with fail
     have hx2':=HX2Q.out
     go_ret
     refine ⟨_,ys.map (getL mp0 L),rfl,?_,HRES.out,?_,HF.out.2⟩
     ·rw [List.length_map];exact HF.out.1.lower HX5.out.size
     ·intro e he
      obtain⟨k,hk,rfl⟩:=List.mem_map.1 he
      have hin:=HYK.out k hk
      obtain⟨e,he⟩:=Option.isSome_iff_exists.1 (memS.1 hin)
      rw [lookS,he]
      exact ((HRL2.out _ (look_in he)).2.mono (fun b h=>by rcases h with h | h | h;exact .inl h.1;exact .inr (.inl h.1);exact .inr (.inr h.1))).ext (HX5E.out.trans hx2')
  ·have hnx:∀ ty,(Instr.next (.pointer (some ⟨w2.heap.size,0,none⟩)) false ty).run Tryz.prog wr=.ok (.tuple #[.bool true,St q.1,mpV q.2]) wn:=fun ty=>hrun
   have HNO:=Lib.hid (show q.1 ∉ done.map Prod.fst from by
    have h:=(hperm.map Prod.fst).nodup_iff.2 HN2.out
    simp only [List.map_append,List.map_cons] at h
    rw [List.nodup_append] at h
    exact fun hq=>h.2.2 _ hq _ (by simp) rfl)
   have HQB:=Lib.hid (firstsL_in nmM (hperm.subset (by simp:q ∈ done++(r1++q :: r2))))
   have HPM:=Lib.hid (show ((done++[q])++(r1++r2)).Perm (firstsL nmM b) from by
    refine List.Perm.trans ?_ hperm
    rw [List.append_assoc]
    exact (List.perm_middle (l₁:=r1) (a:=q) (l₂:=r2)).symm.append_left done)
   have hxn:Ext w wn:=hx.turned ht (by have:=HNE.out;omega)
   have hMn:=hML.out.1.turned ht HNE.out.2.1
   have HLK:=Lib.hid hML.out.2.1
   have hsame:∀ b,(fun b=>(S b/\b < w.heap.size) ∨ (S' b/\b < w.heap.size) ∨ (w.heap.size<=b/\b ≠ p1/\b ≠ w2.heap.size)) b->b < wr.heap.size->wn.heap[b]? = wr.heap[b]?:=fun b hb _=>ht.other b (by
    have h1:=HNE.out
    have h2:(fun b=>(S b/\b < w.heap.size) ∨ (S' b/\b < w.heap.size) ∨ (w.heap.size<=b/\b ≠ p1/\b ≠ w2.heap.size)) b:=hb
    rcases h2 with h | h | h
    ·omega
    ·omega
    ·exact h.2.2)
   have HRN:=Lib.hid (show ∀ q ∈ L,FormMP q.2/\RdMP wn (fun b=>(S b/\b < w.heap.size) ∨ (S' b/\b < w.heap.size) ∨ (w.heap.size<=b/\b ≠ p1/\b ≠ w2.heap.size)) q.2 from fun q hq=>⟨(hML.out.2.2 q hq).1,(hML.out.2.2 q hq).2.keep hsame⟩)
   have HRL:=Lib.hid hR.left_eq
   clear hperm hR hx hML hrun hsame
   obtain⟨k,ye⟩:=q
   simp only at hent hnx HNO HQB HPM
   have HYR:=Lib.hid (show RdMP wn (fun b=>(S b/\b < w.heap.size) ∨ (S' b/\b < w.heap.size) ∨ (w.heap.size<=b/\b ≠ p1/\b ≠ w2.heap.size)) ye from ((HRD.out.2 ye HQB.out.1).2.monoL (fun b hb h=>.inr (.inl ⟨h,hb⟩))).ext hxn)
   have hyf:=(HRD.out.2 ye HQB.out.1).1
   obtain⟨y,Y1,ym1,yd1,Y2,ym2,yd2,rfl⟩:=hyf
   have hxm:=(Ext.refl wn).alloc (.cells #[St y.path,U8 y.status,I y.kids,I y.cut,U y.last,.slice Y1 ym1 yd1,St y.plan.keeper,U y.plan.round,St y.plan.live,St y.plan.by_,U y.plan.cap,St y.plan.owner,U y.plan.base,.bool y.plan.done,.slice Y2 ym2 yd2] 48)
   obtain⟨-,hlk⟩:=run_lookup_MapIs (P:=Tryz.prog) Tryz.underlying115 keyStr HZ.out (hMn.ext hxm) k
   have hzf:=form_get (fun q hq=>(HRN.out q hq).1) k
   generalize hG:getL mp0 L k=ze at hlk hzf
   obtain⟨z,Z1,zm1,zd1,Z2,zm2,zd2,rfl⟩:=hzf
   have HG:=Lib.hid hG
   have HMN:=Lib.hid hMn
   have HXN:=Lib.hid hxn
   have HR2:=Lib.hid hR2
   clear hG hMn hxn hR2 ht hxm
   unfold mpV mbrV at hlk hent hnx
   by_cases hin:k ∈ L.map Prod.fst
   ·simp only [hin,decide_true] at hlk
    obtain⟨hz1,hz2⟩:=mmerge_val HNO.out HLK.out hin
    rw [HG.out] at hz1 hz2
    have HZR:=Lib.hid (HRN.out _ hz2).2
    have hzk:z.path.length < 4294967296/\z.plan.keeper.length < 4611686018427387904/\(∀ s ∈ z.words,s.of.length < 4294967296/\s.keeper.length < 4611686018427387904)/\z.gone.length<=549755813888/\z.words.length<=549755813888:=by
     rw [prL_look] at hz1
     obtain⟨e,he1,he2⟩:=Option.map_eq_some_iff.1 hz1
     have h3:=HK.out e (.inl (firstsL_in nmM (look_in he1)).1)
     rw [he2] at h3
     exact h3
    have hyk:=HK.out _ (.inr HQB.out.1)
    have HSA:=Lib.hid (fun (W:World) (he:Ext wn W)=>show Calls Tryz.prog 44 #[.agg #[St z.path,U8 z.status,I z.kids,I z.cut,U z.last,.slice Z1 zm1 zd1,St z.plan.keeper,U z.plan.round,St z.plan.live,St z.plan.by_,U z.plan.cap,St z.plan.owner,U z.plan.base,.bool z.plan.done,.slice Z2 zm2 zd2],.agg #[St y.path,U8 y.status,I y.kids,I y.cut,U y.last,.slice Y1 ym1 yd1,St y.plan.keeper,U y.plan.round,St y.plan.live,St y.plan.by_,U y.plan.cap,St y.plan.owner,U y.plan.base,.bool y.plan.done,.slice Y2 ym2 yd2]] W _ from joined_any (x:=z) (y:=y) (HZR.out.ext he).1 (HZR.out.ext he).2 (HYR.out.ext he).1 (HYR.out.ext he).2 hzk.2.1 hyk.2.1 (fun s hs=>by rcases hs with hs | hs;exact hzk.2.2.1 s hs;exact hyk.2.2.1 s hs) (by have:=hzk.2.2.2.1;have:=hyk.2.2.2.1;simp only at *;omega) (by have:=hzk.2.2.2.2;have:=hyk.2.2.2.2;simp only at *;omega))
    have HST:=Lib.hid (fun (g ws:Value)=>mmerge_step HNO.out HLK.out (y:=(y,.slice Y1 ym1 yd1,.slice Y2 ym2 yd2)) (e:=(joinedM z y,g,ws)) (by rw [hz1]))
    have R1:=rowNew wn 48 [St y.path,U8 y.status,I y.kids,I y.cut,U y.last,.slice Y1 ym1 yd1,St y.plan.keeper,U y.plan.round,St y.plan.live,St y.plan.by_,U y.plan.cap,St y.plan.owner,U y.plan.base,.bool y.plan.done,.slice Y2 ym2 yd2]
    have hxm:=((Ext.refl wn).alloc (.cells #[St y.path,U8 y.status,I y.kids,I y.cut,U y.last,.slice Y1 ym1 yd1,St y.plan.keeper,U y.plan.round,St y.plan.live,St y.plan.by_,U y.plan.cap,St y.plan.owner,U y.plan.base,.bool y.plan.done,.slice Y2 ym2 yd2] 48)).alloc (.cells #[St z.path,U8 z.status,I z.kids,I z.cut,U z.last,.slice Z1 zm1 zd1,St z.plan.keeper,U z.plan.round,St z.plan.live,St z.plan.by_,U z.plan.cap,St z.plan.owner,U z.plan.base,.bool z.plan.done,.slice Z2 zm2 zd2] 48)
    have hxm1:=(Ext.refl (wn.alloc (.cells #[St y.path,U8 y.status,I y.kids,I y.cut,U y.last,.slice Y1 ym1 yd1,St y.plan.keeper,U y.plan.round,St y.plan.live,St y.plan.by_,U y.plan.cap,St y.plan.owner,U y.plan.base,.bool y.plan.done,.slice Y2 ym2 yd2] 48))).alloc (.cells #[St z.path,U8 z.status,I z.kids,I z.cut,U z.last,.slice Z1 zm1 zd1,St z.plan.keeper,U z.plan.round,St z.plan.live,St z.plan.by_,U z.plan.cap,St z.plan.owner,U z.plan.base,.bool z.plan.done,.slice Z2 zm2 zd2] 48)
    have HE1:=Lib.hid (And.intro (RowIs.ext R1 hxm1) hxm)
    have hsz4:((wn.alloc (.cells #[St y.path,U8 y.status,I y.kids,I y.cut,U y.last,.slice Y1 ym1 yd1,St y.plan.keeper,U y.plan.round,St y.plan.live,St y.plan.by_,U y.plan.cap,St y.plan.owner,U y.plan.base,.bool y.plan.done,.slice Y2 ym2 yd2] 48)).alloc (.cells #[St z.path,U8 z.status,I z.kids,I z.cut,U z.last,.slice Z1 zm1 zd1,St z.plan.keeper,U z.plan.round,St z.plan.live,St z.plan.by_,U z.plan.cap,St z.plan.owner,U z.plan.base,.bool z.plan.done,.slice Z2 zm2 zd2] 48)).heap.size=wn.heap.size+2:=by simp
    have HS4:=Lib.hid hsz4
    have hlt1:=HMN.out.lt
    have hlt2:=HR2.out.lt
    have HLT:=Lib.hid (And.intro hlt1 hlt2)
    clear hin hz1 hz2 hzk hyk HG HNO HLK R1 hxm hxm1 hsz4 hlt1 hlt2
    go_wp2_with fail
    obtain⟨r1',hxm⟩:=HE1.out
    generalize (wn.alloc (.cells #[St y.path,U8 y.status,I y.kids,I y.cut,U y.last,.slice Y1 ym1 yd1,St y.plan.keeper,U y.plan.round,St y.plan.live,St y.plan.by_,U y.plan.cap,St y.plan.owner,U y.plan.base,.bool y.plan.done,.slice Y2 ym2 yd2] 48)).alloc (.cells #[St z.path,U8 z.status,I z.kids,I z.cut,U z.last,.slice Z1 zm1 zd1,St z.plan.keeper,U z.plan.round,St z.plan.live,St z.plan.by_,U z.plan.cap,St z.plan.owner,U z.plan.base,.bool z.plan.done,.slice Z2 zm2 zd2] 48)=W4 at *
    refine (HSA.out W4 hxm).mono ?_
    rintro e w5 ⟨gv,wv,rfl,ho1,ho2,hx5⟩
    obtain⟨Ag,cg,rfl,-,-⟩:=ho1.form
    obtain⟨Aw,cw,rfl,-,-⟩:=ho2.form
    have HSTR:=Lib.hid (HST.out (.slice Ag (joinedM z y).gone.length cg) (.slice Aw (joinedM z y).words.length cw))
    have hrd:RdMP w5 (fun b=>wn.heap.size+2<=b) (joinedM z y,.slice Ag (joinedM z y).gone.length cg,.slice Aw (joinedM z y).words.length cw):=by
     rw [<- HS4.out]
     exact⟨own_slSpan ho1,own_slWord ho2⟩
    have HRD5:=Lib.hid hrd
    clear ho1 ho2 HST hrd
    generalize joinedM z y=r at *
    replace r1':=RowIs.ext r1' hx5
    have h15:=hxm.trans hx5
    have hxc:Ext wn (put15z w5 wn.heap.size (St r.path) (U8 r.status) (I r.kids) (I r.cut) (U r.last) (.slice Ag r.gone.length cg) (St r.plan.keeper) (U r.plan.round) (St r.plan.live) (St r.plan.by_) (U r.plan.cap) (St r.plan.owner) (U r.plan.base) (.bool r.plan.done) (.slice Aw r.words.length cw)):=by
     rw [put15z_eq]
     exact put15_below h15 (Nat.le_refl _)
    have HKP:=Lib.hid (show ∀ b,b ≠ wn.heap.size->(put15z w5 wn.heap.size (St r.path) (U8 r.status) (I r.kids) (I r.cut) (U r.last) (.slice Ag r.gone.length cg) (St r.plan.keeper) (U r.plan.round) (St r.plan.live) (St r.plan.by_) (U r.plan.cap) (St r.plan.owner) (U r.plan.base) (.bool r.plan.done) (.slice Aw r.words.length cw)).heap[b]? = w5.heap[b]? from fun b hb=>by
     rw [put15z_eq]
     exact put15_heap hb)
    obtain⟨wu,hup,hsu,htu⟩:=run_update_MapIs (P:=Tryz.prog) Tryz.underlying115 keyStr (HMN.out.ext hxc) k (r,.slice Ag r.gone.length cg,.slice Aw r.words.length cw)
    have HU:=Lib.hid (show _/\_/\_ from ⟨hsu,(HXN.out.trans hxc).turned htu HNE.out.2.2.1,(HR2.out.ext hxc).keep (htu.other _ HNE.out.1.symm) (htu.other _ HNE.out.2.1.symm)⟩)
    have HRU:=Lib.hid (show ∀ q ∈ putL L k (r,.slice Ag r.gone.length cg,.slice Aw r.words.length cw),FormMP q.2/\RdMP wu (fun b=>(S b/\b < w.heap.size) ∨ (S' b/\b < w.heap.size) ∨ (w.heap.size<=b/\b ≠ p1/\b ≠ w2.heap.size)) q.2 from fun q hq=>by
     have hne:=HNE.out
     have hlt:=HLT.out
     rcases putL_in hq with hq | rfl
     ·refine ⟨(HRN.out q hq).1,((HRN.out q hq).2.ext hxc).keep fun b hb _=>htu.other b ?_⟩
      have h2:(fun b=>(S b/\b < w.heap.size) ∨ (S' b/\b < w.heap.size) ∨ (w.heap.size<=b/\b ≠ p1/\b ≠ w2.heap.size)) b:=hb
      rcases h2 with h | h | h
      ·omega
      ·omega
      ·exact h.2.1
     ·refine ⟨⟨_,_,_,_,_,_,_,rfl⟩,?_⟩
      have h1:RdMP (put15z w5 wn.heap.size (St r.path) (U8 r.status) (I r.kids) (I r.cut) (U r.last) (.slice Ag r.gone.length cg) (St r.plan.keeper) (U r.plan.round) (St r.plan.live) (St r.plan.by_) (U r.plan.cap) (St r.plan.owner) (U r.plan.base) (.bool r.plan.done) (.slice Aw r.words.length cw)) (fun b=>wn.heap.size+2<=b) (r,.slice Ag r.gone.length cg,.slice Aw r.words.length cw):=HRD5.out.keep fun b hb _=>HKP.out b (by omega)
      have h2:RdMP wu (fun b=>wn.heap.size+2<=b) (r,.slice Ag r.gone.length cg,.slice Aw r.words.length cw):=h1.keep fun b hb _=>htu.other b (by omega)
      exact h2.mono fun b hb=>.inr (.inr ⟨by omega,by omega,by omega⟩))
    unfold mpV mbrV put15z at hup
    obtain⟨c0,c1,c2,c3,c4,c5,c6,c7,c8,c9,c10,c11,c12,c13,c14⟩:=RowIs.c15 r1'
    obtain⟨f0,f1,f2,f3,f4,f5,f6,f7,f8,f9,f10,f11,f12,f13,f14⟩:=RowIs.f15 r1'
    unfold mbrV
    clear hxm HE1 HSA hx5 h15 hxc hsu htu r1'
    generalize wn.heap.size=nn at *
    go_wp2_with fail
    have HM2:=HU.out.2.2.left_eq
    go_roundw
    case rel=>exact⟨done++[(k,(y,.slice Y1 ym1 yd1,.slice Y2 ym2 yd2))],r1++r2,_,HPM.out,HU.out.2.2,Lib.hid ⟨HU.out.1,HSTR.out,HRU.out⟩,HU.out.2.1⟩
    case measure=>rw [HRL.out,HM2];simp
   ·simp only [hin,decide_false] at hlk
    have HST:=Lib.hid (mmerge_step HNO.out HLK.out (y:=(y,.slice Y1 ym1 yd1,.slice Y2 ym2 yd2)) (e:=(y,.slice Y1 ym1 yd1,.slice Y2 ym2 yd2)) (by rw [mmerge_none HNO.out HLK.out hin]))
    have R1:=rowNew wn 48 [St y.path,U8 y.status,I y.kids,I y.cut,U y.last,.slice Y1 ym1 yd1,St y.plan.keeper,U y.plan.round,St y.plan.live,St y.plan.by_,U y.plan.cap,St y.plan.owner,U y.plan.base,.bool y.plan.done,.slice Y2 ym2 yd2]
    have hxc:=((Ext.refl wn).alloc (.cells #[St y.path,U8 y.status,I y.kids,I y.cut,U y.last,.slice Y1 ym1 yd1,St y.plan.keeper,U y.plan.round,St y.plan.live,St y.plan.by_,U y.plan.cap,St y.plan.owner,U y.plan.base,.bool y.plan.done,.slice Y2 ym2 yd2] 48)).alloc (.cells #[St z.path,U8 z.status,I z.kids,I z.cut,U z.last,.slice Z1 zm1 zd1,St z.plan.keeper,U z.plan.round,St z.plan.live,St z.plan.by_,U z.plan.cap,St z.plan.owner,U z.plan.base,.bool z.plan.done,.slice Z2 zm2 zd2] 48)
    have hxm1:=(Ext.refl (wn.alloc (.cells #[St y.path,U8 y.status,I y.kids,I y.cut,U y.last,.slice Y1 ym1 yd1,St y.plan.keeper,U y.plan.round,St y.plan.live,St y.plan.by_,U y.plan.cap,St y.plan.owner,U y.plan.base,.bool y.plan.done,.slice Y2 ym2 yd2] 48))).alloc (.cells #[St z.path,U8 z.status,I z.kids,I z.cut,U z.last,.slice Z1 zm1 zd1,St z.plan.keeper,U z.plan.round,St z.plan.live,St z.plan.by_,U z.plan.cap,St z.plan.owner,U z.plan.base,.bool z.plan.done,.slice Z2 zm2 zd2] 48)
    replace R1:=RowIs.ext R1 hxm1
    obtain⟨c0,c1,c2,c3,c4,c5,c6,c7,c8,c9,c10,c11,c12,c13,c14⟩:=RowIs.c15 R1
    obtain⟨wu,hup,hsu,htu⟩:=run_update_MapIs (P:=Tryz.prog) Tryz.underlying115 keyStr (HMN.out.ext hxc) k (y,.slice Y1 ym1 yd1,.slice Y2 ym2 yd2)
    have HU:=Lib.hid (show _/\_/\_ from ⟨hsu,(HXN.out.trans hxc).turned htu HNE.out.2.2.1,(HR2.out.ext hxc).keep (htu.other _ HNE.out.1.symm) (htu.other _ HNE.out.2.1.symm)⟩)
    have HRU:=Lib.hid (show ∀ q ∈ putL L k (y,.slice Y1 ym1 yd1,.slice Y2 ym2 yd2),FormMP q.2/\RdMP wu (fun b=>(S b/\b < w.heap.size) ∨ (S' b/\b < w.heap.size) ∨ (w.heap.size<=b/\b ≠ p1/\b ≠ w2.heap.size)) q.2 from fun q hq=>by
     have hne:=HNE.out
     have hk:∀ {e:MP},RdMP wn (fun b=>(S b/\b < w.heap.size) ∨ (S' b/\b < w.heap.size) ∨ (w.heap.size<=b/\b ≠ p1/\b ≠ w2.heap.size)) e->RdMP wu (fun b=>(S b/\b < w.heap.size) ∨ (S' b/\b < w.heap.size) ∨ (w.heap.size<=b/\b ≠ p1/\b ≠ w2.heap.size)) e:=fun he=>(he.ext hxc).keep fun b hb _=>htu.other b (by
      have h2:(fun b=>(S b/\b < w.heap.size) ∨ (S' b/\b < w.heap.size) ∨ (w.heap.size<=b/\b ≠ p1/\b ≠ w2.heap.size)) b:=hb
      rcases h2 with h | h | h
      ·omega
      ·omega
      ·exact h.2.1)
     rcases putL_in hq with hq | rfl
     ·exact⟨(HRN.out q hq).1,hk (HRN.out q hq).2⟩
     ·exact⟨⟨_,_,_,_,_,_,_,rfl⟩,hk HYR.out⟩)
    unfold mpV mbrV at hup
    clear hin HG HNO HLK R1 hxm1 hxc hsu htu
    go_wp2_with fail
    have HM2:=HU.out.2.2.left_eq
    go_roundw
    case rel=>exact⟨done++[(k,(y,.slice Y1 ym1 yd1,.slice Y2 ym2 yd2))],r1++r2,_,HPM.out,HU.out.2.2,Lib.hid ⟨HU.out.1,HST.out,HRU.out⟩,HU.out.2.1⟩
    case measure=>rw [HRL.out,HM2];simp
end
end Go.Proofs.YtblkikjmocnllaaGreatDoor
