/- path.split: a path's numbers, in an array of eight. -/
import Derived.Test.YtblkikjmocnllaaGreatDoorQz06
import Derived.Test.YtblkikjmocnllaaGreatDoorQz02
import Derived.Test.YtblkikjmocnllaaGreatDoorRows
set_option linter.unusedVariables false
set_option linter.unusedSimpArgs false
set_option maxRecDepth 100000
set_option maxHeartbeats 40000000
namespace Go.Proofs.YtblkikjmocnllaaGreatDoor
section
open Go.RowKit Go.Shelf
theorem numsY_len:∀ l:List Str,(numsY l).length<=l.length
 | []=>Nat.le_refl _
 | f :: fs=>by
  unfold numsY
  split
  ·simp
  ·have:=numsY_len fs;simp;omega
theorem numsY_zero:∀ l:List Str,0 ∈ numsY l->∃ f ∈ l,numS f=0
 | [],h=>by cases h
 | f :: fs,h=>by
  unfold numsY at h
  split at h
  ·rename_i hf;exact⟨f,by simp,hf⟩
  ·rename_i hf
   rcases List.mem_cons.1 h with h | h
   ·exact absurd h.symm hf
   ·obtain⟨g,hg,e⟩:=numsY_zero fs h
    exact⟨g,by simp [hg],e⟩
theorem numsY_all:∀ l:List Str,(∀ x ∈ numsY l,x ≠ 0)->numsY l=l.map numS
 | [],_=>rfl
 | f :: fs,h=>by
  unfold numsY at h ⊢
  split
  ·rename_i hf
   rw [if_pos hf] at h
   exact absurd rfl (h 0 (by simp))
  ·rename_i hf
   rw [if_neg hf] at h
   rw [List.map_cons,numsY_all fs fun x hx=>h x (by simp [hx])]
theorem splitP_stop {p:Str} {pre:List Nat} (h:pre <+: numsY (splitC 46 p)) (h2:0 ∈ pre ∨ 8 < pre.length):splitP p = []:=by
 unfold splitP
 rcases h2 with h2 | h2
 ·obtain⟨f,hf,e⟩:=numsY_zero _ (h.subset h2)
  have:((splitC 46 p).map numS).all (· != 0)=false:=by
   rw [List.all_eq_false]
   exact⟨0,List.mem_map.2 ⟨f,hf,e⟩,by simp⟩
  simp [this]
 ·have h3:=h.length_le
  have h4:=numsY_len (splitC 46 p)
  have:¬ ((splitC 46 p).map numS).length<=8:=by rw [List.length_map];omega
  simp only [this,decide_false,Bool.and_false,Bool.false_and,Bool.false_eq_true,if_false]
theorem splitP_done {p:Str} {l:List Nat} (h:l=numsY (splitC 46 p)) (h1:∀ x ∈ l,x ≠ 0) (h2:l.length<=8):splitP p=if l.head? = some 1 then l else []:=by
 subst h
 have e:=numsY_all _ h1
 unfold splitP
 simp only [<- e]
 have a:(numsY (splitC 46 p)).all (· != 0)=true:=by rw [List.all_eq_true];intro x hx;simpa using h1 x hx
 simp only [a,h2,decide_true,Bool.true_and,beq_iff_eq]
theorem splitP_len (p:Str):(splitP p).length<=8:=by
 unfold splitP
 simp only []
 split
 ·rename_i h
  simp only [Bool.and_eq_true,decide_eq_true_eq] at h
  exact h.1.2
 ·simp
theorem splitP_head {p:Str} (h:splitP p ≠ []):(splitP p).head? = some 1:=by
 unfold splitP at h ⊢
 simp only [] at h ⊢
 split at h
 ·rename_i h'
  rw [if_pos h']
  simp only [Bool.and_eq_true,beq_iff_eq] at h'
  exact h'.2
 ·exact absurd rfl h
def arrC (l:List Nat):List Value:=(l++List.replicate (8 - l.length) 0).map fun (n:Nat)=>I n
def arrV (l:List Nat):Value:=.agg (arrC l).toArray
theorem arrC_len {l:List Nat} (h:l.length<=8):(arrC l).length=8:=by simp [arrC];omega
theorem arrC_snoc {l:List Nat} (h:l.length < 8) (n:Nat):(arrC l).set l.length (I n)=arrC (l++[n]):=by
 unfold arrC
 obtain⟨k,hk⟩:∃ k,8 - l.length=k+1:=⟨7 - l.length,by omega⟩
 have hk':8 - (l++[n]).length=k:=by simp;omega
 rw [hk,hk',List.replicate_succ]
 simp [List.set_append]
theorem arr8 {l:List Nat} (h:l.length<=8):∃ n0 n1 n2 n3 n4 n5 n6 n7:Nat,n0=l.head?.getD 0/\arrC l = [I n0,I n1,I n2,I n3,I n4,I n5,I n6,I n7]:=by
 have h1:(l++List.replicate (8 - l.length) 0).length=8:=by simp;omega
 unfold arrC
 cases l with
 | nil=>exact⟨0,0,0,0,0,0,0,0,rfl,rfl⟩
 | cons a r =>
  generalize hq:a :: r++List.replicate (8 - (a :: r).length) 0=q at *
  match q,h1 with
  | [n0,n1,n2,n3,n4,n5,n6,n7],_ =>
   simp only [List.cons_append,List.cons.injEq] at hq
   exact⟨n0,n1,n2,n3,n4,n5,n6,n7,by rw [<- hq.1];rfl,rfl⟩
def SpAt (g:Nat) (l:List Nat) (W:World):Prop:=RowIs W g 129 (arrC l) []/\RowIs W (g+1) 3 [I l.length] []/\RowIs W (g+2) 129 (arrC []) []
theorem SpAt.keep {g:Nat} {l:List Nat} {W W':World} (h:SpAt g l W) (hs:∀ b,b < W.heap.size->W'.heap[b]? = W.heap[b]?):SpAt g l W' :=
 ⟨h.1.keep (hs _ h.1.lt),h.2.1.keep (hs _ h.2.1.lt),h.2.2.keep (hs _ h.2.2.lt)⟩
theorem SpAt.from (g B:Nat):OwnFrom B (fun l W=>SpAt g l W):=fun l W W' row h hg hr =>
 ⟨h.1.kept hg fun r e=>(hr r e).2,h.2.1.kept hg fun r e=>(hr r e).2,h.2.2.kept hg fun r e=>(hr r e).2⟩
def put9 (W:World) (g:Nat) (a0 a1 a2 a3 a4 a5 a6 a7 v:Value):World:=((((((((W.setCell ⟨g,0,none⟩ a0).setCell ⟨g,1,none⟩ a1).setCell ⟨g,2,none⟩ a2).setCell ⟨g,3,none⟩ a3).setCell ⟨g,4,none⟩ a4).setCell ⟨g,5,none⟩ a5).setCell ⟨g,6,none⟩ a6).setCell ⟨g,7,none⟩ a7).setCell ⟨g+1,0,none⟩ v
theorem SpAt.drew {g:Nat} {l:List Nat} {W:World} (h:SpAt g l W):SpAt g l W.drew:=h
section
variable {W w:World} {g b T:Nat} {a0 a1 a2 a3 a4 a5 a6 a7 v:Value}
theorem le_setCell {n:Nat} {p:Addr} (h:n<=W.drawn):n<=(W.setCell p v).drawn:=h
theorem put9_le {n:Nat} (h:n<=W.drawn):n<=(put9 W g a0 a1 a2 a3 a4 a5 a6 a7 v).drawn:=by
 unfold put9
 exact le_setCell (le_setCell (le_setCell (le_setCell (le_setCell (le_setCell (le_setCell (le_setCell (le_setCell h))))))))
theorem put9_keeps:KeepsOthers W (put9 W g a0 a1 a2 a3 a4 a5 a6 a7 v) :=
 ((((((((KeepsOthers.setCell W ⟨g,0,none⟩ a0).trans (KeepsOthers.setCell _ _ _)).trans (KeepsOthers.setCell _ _ _)).trans (KeepsOthers.setCell _ _ _)).trans (KeepsOthers.setCell _ _ _)).trans (KeepsOthers.setCell _ _ _)).trans (KeepsOthers.setCell _ _ _)).trans (KeepsOthers.setCell _ _ _)).trans (KeepsOthers.setCell _ _ _)
theorem put9_below (h:Below w.heap.size w W):Below w.heap.size w (put9 W w.heap.size a0 a1 a2 a3 a4 a5 a6 a7 v) :=
 Below.setCell (Below.setCell (Below.setCell (Below.setCell (Below.setCell (Below.setCell (Below.setCell (Below.setCell (Below.setCell h (by simp) _) (by simp) _) (by simp) _) (by simp) _) (by simp) _) (by simp) _) (by simp) _) (by simp) _) (by simp) _
theorem put9_heap (h1:b ≠ g) (h2:b ≠ g+1):(put9 W g a0 a1 a2 a3 a4 a5 a6 a7 v).heap[b]? = W.heap[b]? :=
 ((((((((Below.heap_setCell _ ⟨g+1,0,none⟩ _ b h2).trans (Below.heap_setCell _ ⟨g,7,none⟩ _ b h1)).trans (Below.heap_setCell _ ⟨g,6,none⟩ _ b h1)).trans (Below.heap_setCell _ ⟨g,5,none⟩ _ b h1)).trans (Below.heap_setCell _ ⟨g,4,none⟩ _ b h1)).trans (Below.heap_setCell _ ⟨g,3,none⟩ _ b h1)).trans (Below.heap_setCell _ ⟨g,2,none⟩ _ b h1)).trans (Below.heap_setCell _ ⟨g,1,none⟩ _ b h1)).trans (Below.heap_setCell _ ⟨g,0,none⟩ _ b h1)
theorem put9_row {b0 b1 b2 b3 b4 b5 b6 b7:Value} (h:RowIs W g T [b0,b1,b2,b3,b4,b5,b6,b7] []):RowIs (put9 W g a0 a1 a2 a3 a4 a5 a6 a7 v) g T [a0,a1,a2,a3,a4,a5,a6,a7] [] :=
 ((((((((h.set (j:=0) (by simp) a0).set (j:=1) (by simp) a1).set (j:=2) (by simp) a2).set (j:=3) (by simp) a3).set (j:=4) (by simp) a4).set (j:=5) (by simp) a5).set (j:=6) (by simp) a6).set (j:=7) (by simp) a7).other (p:=⟨g+1,0,none⟩) (by simp) _
theorem put9_two {a:Value} (h:RowIs W (g+1) T [a] []):RowIs (put9 W g a0 a1 a2 a3 a4 a5 a6 a7 v) (g+1) T [v] [] :=
 ((((((((h.other (p:=⟨g,0,none⟩) (by simp) _).other (p:=⟨g,1,none⟩) (by simp) _).other (p:=⟨g,2,none⟩) (by simp) _).other (p:=⟨g,3,none⟩) (by simp) _).other (p:=⟨g,4,none⟩) (by simp) _).other (p:=⟨g,5,none⟩) (by simp) _).other (p:=⟨g,6,none⟩) (by simp) _).other (p:=⟨g,7,none⟩) (by simp) _).set (j:=0) (by simp) v
end
theorem SpAt.put {W:World} {g:Nat} {l l':List Nat} (h:SpAt g l W) (hl:l.length<=8) {n0 n1 n2 n3 n4 n5 n6 n7:Nat} {v:Value} (e:arrC l' = [I n0,I n1,I n2,I n3,I n4,I n5,I n6,I n7]) (hv:v=I l'.length) :
  SpAt g l' (put9 W g (I n0) (I n1) (I n2) (I n3) (I n4) (I n5) (I n6) (I n7) v):=by
 obtain⟨m0,m1,m2,m3,m4,m5,m6,m7,-,he⟩:=arr8 hl
 obtain⟨h1,h2,h3⟩:=h
 rw [he] at h1
 subst hv
 exact⟨by rw [e];exact put9_row h1,put9_two h2,h3.keep (put9_heap (by omega) (by omega))⟩
section
attribute [local go_sem] Oper.semAt_some
theorem split_end {w W:World} {D:Nat} {l:List Nat} {p:Str} {x0 x1 x4 x5 x6 x7 x8 x9 x10 x11 x12 x13 x14 x15 x16 x17 x18 x19 x20 x21 x22 x23 x24 x25 x26:Value}
  (hl:l.length<=8) (hp:splitP p=l) (hS:SpAt w.heap.size l W) (hB:Below w.heap.size w W) (hdr:w.drawn<=W.drawn) (hD:w.heap.size<=D) (hK:W.heap[D]? = some (.deferred (some []))) :
  bodyPostM Fence.wide 9 Tryz.prog Tryz.f116 (fun e w'=>e=.returned (.tuple #[arrV (splitP p),I (splitP p).length])/\Ext w w'/\w.drawn<=w'.drawn) Exit.ret { tmps:=#[x0,x1,.pointer (some ⟨w.heap.size,0,none⟩),.pointer (some ⟨w.heap.size+1,0,none⟩),x4,x5,x6,x7,x8,x9,x10,x11,x12,x13,x14,x15,x16,x17,x18,x19,x20,x21,x22,x23,x24,x25,x26],defers:=[{ target:=.collected D,args:=#[] }] } W:=by
 subst hp
 obtain⟨n0,n1,n2,n3,n4,n5,n6,n7,-,he⟩:=arr8 hl
 have hg:=grownBy_putObj' W D (.deferred none)
 have hr:∀ r,some D=some r->∃ o:Obj,W.heap[r]? = some o/\o.isCells=false:=fun r e=>by cases e;exact⟨_,hK,rfl⟩
 have r1:=hS.1.kept hg hr
 have r2:=hS.2.1.kept hg hr
 have c:=r2.cell (j:=0) rfl
 obtain⟨⟨e0,e1,e2,e3⟩,e4,e5,e6,e7⟩:=r1.p8 he
 refine ⟨by simp,.inl ⟨_,_,rfl,run_takeDeferred hK,?_⟩⟩
 refine ⟨.tuple #[arrV (splitP p),I (splitP p).length],?_,rfl,Below.trans hB (belowK_b (w:=w) (Nat.le_refl _) W D _ _ hD hK rfl rfl),hdr⟩
 simp [results,Tryz.f116,go_sem,e0,e1,e2,e3,e4,e5,e6,e7,c,arrV,he]
theorem numbers_stops (n:Nat) (hn:1<=n) {p:Str} (hp:p.length < 4611686018427387904) {B:Nat} {w:World} (hB:w.cell? ⟨B,0,none⟩=some (St p)) :
  SeqD n Tryz.prog 174 #[.pointer (some ⟨B,0,none⟩)] (fun x:Nat=>#[I x]) (fun ys=>ys=numsY (splitC 46 p)) (fun pre=>pre <+: numsY (splitC 46 p)) (numsY (splitC 46 p)).length w :=
 fun l J Jx W hW hJ hY h0=>numbers1_in n l B 0 hp J Jx hn W hJ (Nat.zero_le _) hY (hW.cell (p:=⟨B,0,none⟩) (blk_of_cell hB) |>.trans hB) h0
theorem numbers_any (p:Str) (w:World):Calls Tryz.prog 155 #[St p] w fun e w'=>e=.returned (.func (.func 174) #[] #[.pointer (some ⟨w.heap.size,0,none⟩)])/\w'=w.alloc (.cells #[St p] 9):=by
 go_enter Tryz.func155,Tryz.ntmps155
 go_wp2
 go_ret
 exact⟨rfl,rfl⟩
theorem split_anyD (p:Str) (hp:p.length < 4611686018427387904) (w:World):Calls Tryz.prog 116 #[St p] w fun e w'=>e=.returned (.tuple #[arrV (splitP p),I (splitP p).length])/\Ext w w'/\w.drawn<=w'.drawn:=by
 have HN:=Lib.hid (numbers_any p)
 refine (callsIn_wide (n:=9)).1 ?_
 refine callsIn_of_wp_marks Tryz.func116 rfl trivial ?_ rfl
 simp only [Tryz.ntmps116,List.size_toArray,List.length_cons,List.length_nil,Nat.reduceAdd,Nat.reduceSub,Array.replicate_succ,Array.replicate_zero,List.push_toArray,List.append_toArray,List.nil_append,List.cons_append]
 gi_wp2
 obtain⟨W0,hW0⟩:∃ W0,((w.alloc (.cells #[I 0,I 0,I 0,I 0,I 0,I 0,I 0,I 0] 129)).alloc (.cells #[I 0] 3)).alloc (.cells #[I 0,I 0,I 0,I 0,I 0,I 0,I 0,I 0] 129)=W0:=⟨_,rfl⟩
 have hx:Ext w W0:=by rw [<- hW0];exact (((Ext.refl w).alloc _).alloc _).alloc _
 have hd0:w.drawn<=W0.drawn:=by rw [<- hW0];exact Nat.le_refl _
 have hsp:SpAt w.heap.size [] W0:=by
  rw [<- hW0]
  have h1:=rowNew w 129 (arrC [])
  have h2:=rowNew (w.alloc (.cells (arrC []).toArray 129)) 3 [I 0]
  have h3:=rowNew ((w.alloc (.cells (arrC []).toArray 129)).alloc (.cells #[I 0] 3)) 129 (arrC [])
  simp only [World.size_alloc] at h2 h3
  exact⟨(h1.alloc _).alloc _,h2.alloc _,h3⟩
 have hz:W0.heap.size=w.heap.size+3:=by rw [<- hW0];simp
 rw [hW0]
 clear hW0
 refine ⟨trivial,callsIn_wide.2 ((HN.out W0).mono ?_)⟩
 rintro e w1 ⟨rfl,rfl⟩
 have hxb:=(Ext.refl W0).alloc (.cells #[St p] 9)
 have hspb:SpAt w.heap.size [] (W0.alloc (.cells #[St p] 9)):=hsp.keep fun b hb=>hxb.block b hb
 have hB:(W0.alloc (.cells #[St p] 9)).cell? ⟨W0.heap.size,0,none⟩=some (St p):=by simp [go_sem]
 have hxx:=hx.trans hxb
 have hdd:w.drawn<=(W0.alloc (.cells #[St p] 9)).drawn:=hd0
 have hzz:w.heap.size+3 < (W0.alloc (.cells #[St p] 9)).heap.size:=by simp;omega
 obtain⟨W1,hW1⟩:∃ W1,W0.alloc (.cells #[St p] 9)=W1:=⟨_,rfl⟩
 rw [hW1] at hspb hB hxx hzz hdd ⊢
 clear hW1 hsp hx hxb hd0
 generalize W0.heap.size=B at *
 clear hz
 have hseq:=numbers_stops 8 (by omega) hp hB
 gi_wp2
 refine rangeFunc_drawn (by omega) (gf:=174) (lb:=#[.pointer (some ⟨B,0,none⟩)]) rfl (enters_of Tryz.func174 (by kernel_rfl) rfl)
  hseq (fun _=>rfl)
  (fun pre W=>(SpAt w.heap.size pre W/\Below w.heap.size w W/\w.drawn<=W.drawn)/\(∀ x ∈ pre,x ≠ 0)/\pre.length<=8)
  (fun c pre W=>c=.ret/\(SpAt w.heap.size [] W/\Below w.heap.size w W/\w.drawn<=W.drawn)/\(0 ∈ pre ∨ 8 < pre.length))
  ?own ?ownx ⟨⟨hspb,hxx,hdd⟩,by simp,by simp⟩
  (fun x=>{ tmps:=#[St p,undef,.pointer (some ⟨w.heap.size,0,none⟩),.pointer (some ⟨w.heap.size+1,0,none⟩),.pointer (some ⟨w.heap.size+1+1,0,none⟩),I x,St p,.func (.func 174) #[] #[.pointer (some ⟨B,0,none⟩)],I x,undef,undef,undef,undef,undef,undef,undef,undef,undef,undef,undef,undef,undef,undef,undef,undef,undef,undef],defers:=[] })
  ?assign ?body ?done ?stop
 case own =>
  intro pre W W' row h hg hd hr
  exact⟨⟨SpAt.from _ _ _ _ _ _ h.1.1 hg hr,ownFrom_below (β:=Unit) (Nat.le_refl _) hxx.size () _ _ _ h.1.2.1 hg hr,Nat.le_trans h.1.2.2 hd⟩,h.2⟩
 case ownx =>
  intro c pre W W' row h hg hd hr
  exact⟨h.1,⟨SpAt.from _ _ _ _ _ _ h.2.1.1 hg hr,ownFrom_below (β:=Unit) (Nat.le_refl _) hxx.size () _ _ _ h.2.1.2.1 hg hr,Nat.le_trans h.2.1.2.2 hd⟩,h.2.2⟩
 case assign =>
  intro l x W K hK
  gi_wp2
  exact hK
 case body =>
  rintro l pre x W ⟨⟨hS,hB1,hd1⟩,hnz,h8⟩ hlt
  obtain⟨hr1,hr2,hr3⟩:=hS
  have c2:=hr2.cell (j:=0) rfl
  have d2:=hr2.frozen 0
  have hn3:=hB1.size
  obtain⟨⟨d0,d1,d2',d3⟩,d4,d5,d6,d7⟩:=hr1.f8
  obtain⟨y0,y1,y2,y3,y4,y5,y6,y7,he⟩:∃ y0 y1 y2 y3 y4 y5 y6 y7:Value,arrC pre = [y0,y1,y2,y3,y4,y5,y6,y7]:=by
   have:=arrC_len h8
   match arrC pre,this with
   | [y0,y1,y2,y3,y4,y5,y6,y7],_=>exact⟨_,_,_,_,_,_,_,_,rfl⟩
  obtain⟨⟨e0,e1,e2,e3⟩,e4,e5,e6,e7⟩:=hr1.p8 he
  by_cases hst:x=0 ∨ pre.length=8
  ·have ht:((x:Int) == 0)=true ∨ (((x:Int) == 0)=false/\((pre.length:Int) == 8)=true):=by
    by_cases h:x=0
    ·exact .inl (by rw [beq_iff_eq];omega)
    ·exact .inr ⟨by rw [beq_eq_false_iff_ne];omega,by rw [beq_iff_eq];omega⟩
   obtain⟨⟨z0,z1,z2,z3⟩,z4,z5,z6,z7⟩:=hr3.p8 (show arrC [] = [I 0,I 0,I 0,I 0,I 0,I 0,I 0,I 0] from rfl)
   have hko:KeepsOthers W (put9 W w.heap.size (I 0) (I 0) (I 0) (I 0) (I 0) (I 0) (I 0) (I 0) (I 0)):=put9_keeps
   have q1:SpAt w.heap.size [] (put9 W w.heap.size (I 0) (I 0) (I 0) (I 0) (I 0) (I 0) (I 0) (I 0) (I 0)):=SpAt.put (n0:=0) (n1:=0) (n2:=0) (n3:=0) (n4:=0) (n5:=0) (n6:=0) (n7:=0) ⟨hr1,hr2,hr3⟩ h8 rfl rfl
   have hB2:=put9_below (a0:=I 0) (a1:=I 0) (a2:=I 0) (a3:=I 0) (a4:=I 0) (a5:=I 0) (a6:=I 0) (a7:=I 0) (v:=I 0) hB1
   have hd9:=put9_le (g:=w.heap.size) (a0:=I 0) (a1:=I 0) (a2:=I 0) (a3:=I 0) (a4:=I 0) (a5:=I 0) (a6:=I 0) (a7:=I 0) (v:=I 0) hd1
   have hpre:0 ∈ pre++[x] ∨ 8 < (pre++[x]).length:=by
    rcases hst with h | h
    ·exact .inl (by simp [h])
    ·exact .inr (by simp;omega)
   rcases ht with t1 | ⟨t1,t2⟩
   ·gi_wp2
    exact⟨hko.from _,rfl,⟨q1,hB2,hd9⟩,hpre⟩
   ·gi_wp2
    exact⟨hko.from _,rfl,⟨q1,hB2,hd9⟩,hpre⟩
  ·have hx0:x ≠ 0:=fun h=>hst (.inl h)
   have h8':pre.length < 8:=by
    rcases Nat.lt_or_ge pre.length 8 with h | h
    ·exact h
    ·exact absurd (.inr (by omega)) hst
   have t1:((x:Int) == 0)=false:=by rw [beq_eq_false_iff_ne];omega
   have t2:((pre.length:Int) == 8)=false:=by rw [beq_eq_false_iff_ne];omega
   have f1:=hr1.frozen pre.length
   have hl8:=arrC_len h8
   obtain⟨y,hy⟩:∃ y,(arrC pre)[pre.length]? = some y:=⟨_,List.getElem?_eq_getElem (by omega)⟩
   have c1:=hr1.cell hy
   have hi:(pre.length:Int) < 8:=by omega
   have hs1:=Lib.hid (arrC_snoc h8' x ▸ hr1.set (j:=pre.length) (by omega) (I x))
   have HR:=Lib.hid (And.intro hr2 hr3)
   have HZ:=Lib.hid hnz
   clear he e0 e1 e2 e3 e4 e5 e6 e7 d0 d1 d2' d3 d4 d5 d6 d7 hst hr1 hr2 hr3 hnz hlt h8 hl8 hy hspb hseq hB HN
   gi_wp2
   obtain⟨hr2,hr3⟩:=HR.out
   have k1:=KeepsOthers.setCell W ⟨w.heap.size,pre.length,none⟩ (I x)
   have k2:=k1.trans (KeepsOthers.setCell _ ⟨w.heap.size+1,0,none⟩ (.int .i64 (pre.length+1)))
   refine ⟨k2.from _,⟨?_,fun _ h=>h.elim⟩,⟨⟨hs1.out.other (by simp) _,?_,(hr3.other (by simp) _).other (by simp) _⟩,Below.setCell (Below.setCell hB1 (by simp) _) (by simp) _,le_setCell (le_setCell hd1)⟩,?_,by simp;omega⟩
   ·simp
   ·have:=(hr2.other (p:=⟨w.heap.size,pre.length,none⟩) (by simp) (I x)).set (j:=0) (by simp) (.int .i64 (pre.length+1))
    simpa using this
   ·intro z hz
    rcases List.mem_append.1 hz with hz | hz
    ·exact HZ.out z hz
    ·rw [List.mem_singleton.1 hz];exact hx0
 case done =>
  rintro D ys W hD hys ⟨⟨hS,hB1,hd1⟩,hnz,h8⟩ hK
  have hdn:=splitP_done hys hnz h8
  have HS:=Lib.hid hS
  have hD':=Nat.le_trans hxx.size hD
  obtain⟨hr1,hr2,hr3⟩:=hS
  have c2:=hr2.cell (j:=0) rfl
  have d2:=hr2.frozen 0
  obtain⟨⟨d0,d1,d2',d3⟩,d4,d5,d6,d7⟩:=hr1.f8
  obtain⟨n0,n1,n2,n3,n4,n5,n6,n7,hN,he⟩:=arr8 h8
  obtain⟨⟨e0,e1,e2,e3⟩,e4,e5,e6,e7⟩:=hr1.p8 he
  by_cases h1:ys.head? = some 1
  ·rw [if_pos h1] at hdn
   have HD:=Lib.hid hdn
   have HE:=Lib.hid he
   have hn0:((n0:Int) != 1)=false:=by rw [hN,h1];rfl
   clear hdn he hr1 hr2 hr3 hN hys
   gi_wp2
   gi_region
   gi_wp2
   have q1:=HS.out.put (v:=I ys.length) h8 HE.out rfl
   have q2:=put9_below (a0:=I n0) (a1:=I n1) (a2:=I n2) (a3:=I n3) (a4:=I n4) (a5:=I n5) (a6:=I n6) (a7:=I n7) (v:=I ys.length) hB1
   have q3:=(put9_heap (W:=W) (a0:=I n0) (a1:=I n1) (a2:=I n2) (a3:=I n3) (a4:=I n4) (a5:=I n5) (a6:=I n6) (a7:=I n7) (v:=I ys.length) (show D ≠ w.heap.size by omega) (show D ≠ w.heap.size+1 by omega)).trans hK
   clear HN hseq c2 d2 d0 d1 d2' d3 d4 d5 d6 d7 e0 e1 e2 e3 e4 e5 e6 e7
   change bodyPostM Fence.wide 9 Tryz.prog Tryz.f116 _ Exit.ret _ (put9 W w.heap.size (I n0) (I n1) (I n2) (I n3) (I n4) (I n5) (I n6) (I n7) (I ys.length)).drew
   have q4:w.drawn<=(put9 W w.heap.size (I n0) (I n1) (I n2) (I n3) (I n4) (I n5) (I n6) (I n7) (I ys.length)).drawn:=put9_le hd1
   generalize put9 W w.heap.size (I n0) (I n1) (I n2) (I n3) (I n4) (I n5) (I n6) (I n7) (I ys.length)=WW at *
   exact split_end h8 HD.out q1.drew (Below.drew q2) (Nat.le_succ_of_le q4) hD' q3
  ·rw [if_neg h1] at hdn
   have HD:=Lib.hid hdn
   have hS2:SpAt w.heap.size [] (put9 W w.heap.size (I 0) (I 0) (I 0) (I 0) (I 0) (I 0) (I 0) (I 0) (I 0)):=HS.out.put (n0:=0) (n1:=0) (n2:=0) (n3:=0) (n4:=0) (n5:=0) (n6:=0) (n7:=0) h8 rfl rfl
   have HS2:=Lib.hid hS2
   obtain⟨⟨z0,z1,z2,z3⟩,z4,z5,z6,z7⟩:=hr3.p8 (show arrC [] = [I 0,I 0,I 0,I 0,I 0,I 0,I 0,I 0] from rfl)
   have hn0:((n0:Int) != 1)=true:=by
    rw [bne_iff_ne,hN]
    intro e
    apply h1
    cases hh:ys.head? with
    | none=>rw [hh] at e;simp at e
    | some k=>rw [hh] at e;simp at e;rw [show k=1 by omega]
   clear hdn he hr1 hr2 hr3 hN hys h1 hS2
   gi_wp2
   have q2:=put9_below (a0:=I 0) (a1:=I 0) (a2:=I 0) (a3:=I 0) (a4:=I 0) (a5:=I 0) (a6:=I 0) (a7:=I 0) (v:=I 0) hB1
   have q3:=(put9_heap (W:=W) (a0:=I 0) (a1:=I 0) (a2:=I 0) (a3:=I 0) (a4:=I 0) (a5:=I 0) (a6:=I 0) (a7:=I 0) (v:=I 0) (show D ≠ w.heap.size by omega) (show D ≠ w.heap.size+1 by omega)).trans hK
   replace HS2:=HS2.out
   clear HN hseq c2 d2 d0 d1 d2' d3 d4 d5 d6 d7 e0 e1 e2 e3 e4 e5 e6 e7 z0 z1 z2 z3 z4 z5 z6 z7
   change bodyPostM Fence.wide 9 Tryz.prog Tryz.f116 _ Exit.ret _ (put9 W w.heap.size (I 0) (I 0) (I 0) (I 0) (I 0) (I 0) (I 0) (I 0) (I 0))
   have q4:w.drawn<=(put9 W w.heap.size (I 0) (I 0) (I 0) (I 0) (I 0) (I 0) (I 0) (I 0) (I 0)).drawn:=put9_le hd1
   generalize put9 W w.heap.size (I 0) (I 0) (I 0) (I 0) (I 0) (I 0) (I 0) (I 0) (I 0)=WW at *
   exact split_end (by simp) HD.out HS2 q2 q4 hD' q3
 case stop =>
  rintro D c pre W hD hpre ⟨rfl,⟨hS,hB1,hd1⟩,h⟩ hK
  have HS:=Lib.hid hS
  have hD':=Nat.le_trans hxx.size hD
  have HD:=Lib.hid (splitP_stop hpre h)
  clear hS hpre h
  gi_wp2
  exact split_end (by simp) HD.out HS.out hB1 hd1 hD' hK
theorem split_any (p:Str) (hp:p.length < 4611686018427387904) (w:World):Calls Tryz.prog 116 #[St p] w fun e w'=>e=.returned (.tuple #[arrV (splitP p),I (splitP p).length])/\Ext w w' :=
 (split_anyD p hp w).mono fun _ _ h=>⟨h.1,h.2.1⟩
end
end
end Go.Proofs.YtblkikjmocnllaaGreatDoor
