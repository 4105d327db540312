/- Laws. -/
import Derived.Test.YtblkikjmocnllaaGreatDoorQz01
import Derived.RangeFuncNested
import Derived.RangeFuncBound
import Derived.RangeFuncCalls
import Derived.RangeFuncLeaves
import Derived.Shelf.Abstract
import Derived.Shelf.RegionOpen
import Derived.OwnWalkIn
import Derived.TacticsInMore
import Derived.LoopNIn
import Derived.LoopIn
set_option linter.unusedVariables false
set_option linter.unusedSimpArgs false
set_option maxRecDepth 100000
set_option maxHeartbeats 40000000
namespace Go.Proofs.YtblkikjmocnllaaGreatDoor
section
open Go.RowKit Go.Shelf
def KpS (S:Nat->Prop) (n:Nat) (W W':World):Prop:=W.heap.size<=W'.heap.size/\∀ b,S b->b < n->W'.heap[b]? = W.heap[b]?
theorem KpS.trans {S:Nat->Prop} {n:Nat} {A B C:World} (h:KpS S n A B) (k:KpS S n B C):KpS S n A C:=⟨Nat.le_trans h.1 k.1,fun b hb hn=>(k.2 b hb hn).trans (h.2 b hb hn)⟩
theorem KpS.put {S:Nat->Prop} {n:Nat} {w:World} (hn:n<=w.heap.size) (W:World) (l:Nat) (o o':Obj) (hl:w.heap.size<=l) (_:W.heap[l]? = some o) (_:o.isCells=false) (_:o.isWalk=false):KpS S n W (W.putObj l o') :=
 have h:=grownBy_putObj' W l o'
 ⟨h.size,fun b _ hb=>h.block b (by have:=(Array.getElem?_eq_some_iff.1 ‹W.heap[l]? = some o›).1;omega) (fun e=>by cases e;omega)⟩
theorem Ext.kpS {S:Nat->Prop} {n:Nat} {W W':World} (h:Ext W W') (hn:n<=W.heap.size):KpS S n W W':=⟨h.size,fun b _ hb=>h.block b (by omega)⟩
theorem KpS.grew {S:Nat->Prop} {n:Nat} {W W':World} {v v':Value} (h:Grew W W' v v') (hn:n<=W.heap.size) (hv:∀ b,ownBlk v b->S b->n<=b):KpS S n W W' :=
 ⟨h.size,fun b hb hbn=>h.same b (by omega) (fun ho=>by have:=hv b ho hb;omega)⟩
theorem KpS.set {S:Nat->Prop} {n:Nat} (W:World) {p:Addr} (hp:S p.block->n<=p.block) (v:Value):KpS S n W (W.setCell p v) :=
 ⟨by simp,fun b hb hbn=>Below.heap_setCell W p v b (fun e=>by subst e;have:=hp hb;omega)⟩
theorem ext_grownBy {W W':World} (h:Ext W W'):W.grownBy W' none:=by
 refine ⟨?_,?_,?_,?_,?_⟩
 all_goals first | exact h.os | exact h.tape | exact h.output | exact h.size | exact fun k hk _=>h.block k hk
theorem box_new (w:World) (v:Value) (t:TypeId):(w.alloc (.cells #[v] t)).cell? ⟨w.heap.size,0,none⟩=some v/\(w.alloc (.cells #[v] t)).frozen? ⟨w.heap.size,0,none⟩=false :=
 ⟨by simp [go_sem],by unfold World.frozen?;rw [World.alloc_heap_new];rfl⟩
theorem Own.kept {w w':World} {base T k n:Nat} {v:Value} {xs:List Value} {row:Option Nat} (h:Own w base T k v n xs) (hg:w.grownBy w' row) (hr:∀ r,row=some r->∃ o:Obj,w.heap[r]? = some o/\o.isCells=false):Own w' base T k v n xs :=
 h.keep fun b hb hlt=>hg.block b hlt fun e=>by
  obtain⟨o,ho,hc⟩:=hr b e.symm
  obtain⟨g,n',c,rfl,hc0,rfl⟩:=hb
  rcases h.2 with ⟨A,hv,-⟩ | ⟨g',cap,cur,hv,-,hg',-⟩
  ·injection hv with e1 e2 e3;omega
  ·cases hv
   rw [hg'] at ho
   cases ho
   cases hc
theorem Grew.keeps {W W':World} {v v':Value} {base T k n:Nat} {xs:List Value} (h:Grew W W' v v') (ho:Own W base T k v n xs):KeepsOthers W W' :=
 ⟨h.size,fun b o hb hc=>(h.same b (Array.getElem?_eq_some_iff.1 hb).1 (fun hob=>by
  obtain⟨g,n',c,rfl,hc0,rfl⟩:=hob
  rcases ho.2 with ⟨A,hv,-⟩ | ⟨g',cap,cur,hv,-,hg',-⟩
  ·injection hv with e1 e2 e3;omega
  ·cases hv
   rw [hg'] at hb
   cases hb
   cases hc)).trans hb⟩
theorem wpListIn_append_Own {F:Fence} {nF:Nat} {P:Program} {w:World} {ops:Array Oper} {rest:List Oper} {o:Oper} {a:Act} {Q:Exit->Act->World->Prop} (hgd:o.guard=none) (s x:Operand) (t:TypeId)
  (ho:o.op=.call { callee:=.builtin .append,args:=#[s,x],argTypes:=#[t,t] })
  (base e size bytes:Nat) (z:Value) (ht:P.underlying t=some (.slice e)) (hinfo:(P.info? e).map (fun i=>(i.zero,i.size,i.bytes))=some (some z,size,bytes)) (hzs:z.cells.size=size) (hsz:0 < size)
  (v:Value) (n:Nat) (xs:List Value) (hs:a.eval s=v) (hown:Own w base e size v n xs)
  (A:Option Addr) (m c:Nat) (news:List Value) (hx:a.eval x=.slice A m c) (hsrc:Src w size A m news)
  (hbytes:(n+m) * bytes<=140737488355328) (h63:n+m<=9223372036854775807) (hbase:base<=w.heap.size)
  (h:∀ v' w',Own w' base e size v' (n+m) (xs++news)->Grew w w' v v'->wpListIn F nF P ops Q rest (a.put o.dst v') w'):wpListIn F nF P ops Q (o :: rest) a w:=by
 obtain⟨i,hi,hz,hsize,hby⟩:=info_parts hinfo
 obtain⟨v',w',hrun,h2,g1,g2,g3,g4,g5,g6⟩:=run_append_Own (P:=P) w base t o.type e i z size bytes ht hi hz hsize hby hzs hsz v n xs hown A m c news hsrc hbytes h63 hbase
 refine wpListIn_plain hgd fun K hK'=>?_
 unfold Oper.wpIn
 refine ⟨?_,?_⟩
 ·simp [Oper.about,ho,resolve,Target.leads,Sem.run_pure]
 ·rw [Oper.semAt_plain F _ _ (by rw [ho];intro c hc';cases hc')]
  simp [execOp,ho,resolve,invoke,builtin,hs,hx,hrun,Result.andThen]
  exact hK' _ _ (h v' w' h2 ⟨g1,g2,g3,g4,g5,g6⟩)
theorem rowNew (w:World) (T:Nat) (xs:List Value):RowIs (w.alloc (.cells xs.toArray T)) w.heap.size T xs []:=by
 unfold RowIs
 rw [List.append_nil]
 exact Go.heap_alloc_new w _
theorem RowIs.kept {w w':World} {g T:Nat} {xs tail:List Value} {row:Option Nat} (h:RowIs w g T xs tail) (hg:w.grownBy w' row) (hr:∀ r,row=some r->∃ o:Obj,w.heap[r]? = some o/\o.isCells=false):RowIs w' g T xs tail :=
 h.keep (hg.block g h.lt fun e=>by
  obtain⟨o,h1,h2⟩:=hr g e.symm
  rw [show w.heap[g]? = _ from h] at h1
  cases h1
  cases h2)
theorem RowIs.p8 {w:World} {g T:Nat} {a0 a1 a2 a3 a4 a5 a6 a7:Value} {xs tail:List Value} (h:RowIs w g T xs tail) (e:xs = [a0,a1,a2,a3,a4,a5,a6,a7]) :
  (w.cell? ⟨g,0,none⟩=some a0/\w.cell? ⟨g,1,none⟩=some a1/\w.cell? ⟨g,2,none⟩=some a2/\w.cell? ⟨g,3,none⟩=some a3)/\w.cell? ⟨g,4,none⟩=some a4/\w.cell? ⟨g,5,none⟩=some a5/\w.cell? ⟨g,6,none⟩=some a6/\w.cell? ⟨g,7,none⟩=some a7:=by
 subst e
 exact⟨⟨h.cell rfl,h.cell rfl,h.cell rfl,h.cell rfl⟩,h.cell rfl,h.cell rfl,h.cell rfl,h.cell rfl⟩
theorem RowIs.f8 {w:World} {g T:Nat} {xs tail:List Value} (h:RowIs w g T xs tail) :
  (w.frozen? ⟨g,0,none⟩=false/\w.frozen? ⟨g,1,none⟩=false/\w.frozen? ⟨g,2,none⟩=false/\w.frozen? ⟨g,3,none⟩=false)/\w.frozen? ⟨g,4,none⟩=false/\w.frozen? ⟨g,5,none⟩=false/\w.frozen? ⟨g,6,none⟩=false/\w.frozen? ⟨g,7,none⟩=false :=
 ⟨⟨h.frozen 0,h.frozen 1,h.frozen 2,h.frozen 3⟩,h.frozen 4,h.frozen 5,h.frozen 6,h.frozen 7⟩
end
section
open Go.RowKit
def OwnD {β:Type} (B:Nat) (I:β->World->Prop):Prop :=
 ∀ s W W' row,I s W->W.grownBy W' row->W.drawn<=W'.drawn->(∀ r,row=some r->B<=r/\∃ o:Obj,W.heap[r]? = some o/\o.isCells=false)->I s W'
theorem OwnD.putObj {β:Type} {B:Nat} {I:β->World->Prop} (h:OwnD B I) {s:β} {W:World} {l:Nat} {o:Obj} (o':Obj) (hs:I s W) (hB:B<=l) (hl:W.heap[l]? = some o) (ho:o.isCells=false):I s (W.putObj l o') :=
 h s W _ (some l) hs (grownBy_putObj' W l o') (Nat.le_refl _) (fun r e=>by cases e;exact⟨hB,o,hl,ho⟩)
theorem OwnD.alloc {β:Type} {B:Nat} {I:β->World->Prop} (h:OwnD B I) {s:β} {W:World} (o:Obj) (hs:I s W):I s (W.alloc o) :=
 h s W _ none hs (World.grownBy_alloc W o none) (Nat.le_refl _) (fun r e=>by cases e)
def SeqD {α:Type} (n:Nat) (P:Program) (g:Nat) (lb:Array Value) (encs:α->Array Value) (S Sp:List α->Prop) (N:Nat) (w:World):Prop :=
 ∀ (l:Nat) (J Jx:List α->World->Prop) (W:World),Below w.heap.size w W->(∀ s W m,J s W->J s (W.drewN m)) ->
  (∀ pre x W1,J pre W1->pre.length < N->YieldAt Fence.wide (n - 1) P l (encs x) W1 fun e W' =>
   (e=.returned (.bool true)/\J (pre++[x]) W'/\KpS (fun _=>False) 0 W1 W') ∨ (e=.returned (.bool false)/\Jx (pre++[x]) W')) ->
  J [] W ->
  CallsIn Fence.wide n P g (#[.func (.yield l) #[] #[]]++lb) W fun e W'=>(∃ v,e=.returned v)/\((∃ xs,S xs/\J xs W') ∨ (∃ pre,Sp pre/\Jx pre W'))
theorem rangeFunc_drawn {α:Type} {n:Nat} {P:Program} {g:Operand} {ps:Array Tmp} {assign body:Code} {Q:Exit->Act->World->Prop} {a:Act} {w:World}
  (h1:1<=n) {gf:Nat} {lb:Array Value} (hg:a.eval g=.func (.func gf) #[] lb) (eg:∀ args w,(callFunc gf args).run P w=.ok (.enter gf args) w)
  {encs:α->Array Value} {S Sp:List α->Prop} {N:Nat} (hseq:SeqD (n - 1) P gf lb encs S Sp N w) (hps:∀ x,(encs x).size=ps.size)
  (I:List α->World->Prop) (Ix:Code->List α->World->Prop) (hI:OwnD w.heap.size I) (hIx:∀ c,OwnD w.heap.size (Ix c)) (h0:I [] w) (a₁:α->Act)
  (hassign:∀ (l:Nat) (x:α) (W:World) (K:Act->World->Prop),K (a₁ x) W ->
   assign.wpIn (Fence.wide.inRound l) (n - 1 - 1) P (Exit.then K (fun _ _ _=>False)) { tmps:=(ps.zip (encs x)).foldl (fun t (p,v)=>t.setIfInBounds p v) a.tmps,defers:=[] } W)
  (hbody:∀ (l:Nat) (pre:List α) (x:α) (W:World),I pre W->pre.length < N->body.wpIn (Fence.wide.inRound l) (n - 1 - 1) P (ownPostG w.heap.size (KpS (fun _=>False) 0) I Ix (pre++[x]) W) (a₁ x) W)
  (hdone:∀ (D:Nat) (xs:List α) (W:World),w.heap.size<=D->S xs->I xs W->W.heap[D]? = some (.deferred (some []))->Q .normal { a with defers:={ target:=.collected D,args:=#[] } :: a.defers } W)
  (hstop:∀ (D:Nat) (c:Code) (pre:List α) (W:World),w.heap.size<=D->Sp pre->Ix c pre W->W.heap[D]? = some (.deferred (some []))->c.wpIn Fence.wide n P Q { a with defers:={ target:=.collected D,args:=#[] } :: a.defers } W) :
  (Code.rangeFunc g ps assign body).wpIn Fence.wide n P Q a w:=by
 refine wpIn_rangeFunc fun fn hfn=>?_
 let rec0:LoopState->Option Code->Loop:=fun st pe=>{ state:=st,pending:=pe,fn,tmps:=a.tmps,params:=ps,assign,body,defers:=w.heap.size }
 obtain⟨rec,hrec⟩:∃ rec,rec=rec0:=⟨_,rfl⟩
 obtain⟨l,hl0⟩:∃ l,l=w.heap.size+1:=⟨_,rfl⟩
 obtain⟨W1,hW1⟩:∃ W1,(w.alloc (.deferred (some []))).alloc (.loop (rec .ready none))=W1:=⟨_,rfl⟩
 have hL1:W1.heap[l]? = some (.loop (rec .ready none)):=by
  rw [<- hW1,hl0]
  have:=World.alloc_heap_new (w.alloc (.deferred (some []))) (.loop (rec .ready none))
  rwa [World.size_alloc] at this
 have hK1:W1.heap[w.heap.size]? = some (.deferred (some [])):=by
  rw [<- hW1]
  exact (Below.heap_alloc _ _ _ (by simp)).trans (World.alloc_heap_new w _)
 have hb1:Below w.heap.size w W1:=by rw [<- hW1];exact ((Ext.refl w).alloc _).alloc _
 have hI1:I [] W1:=by rw [<- hW1];exact hI.alloc _ (hI.alloc _ h0)
 refine ⟨l,[{ target:=.collected w.heap.size,args:=#[] }],W1,{ target:=.fn (.func gf) lb,args:=#[.func (.yield l) #[] #[]] },W1,gf,#[.func (.yield l) #[] #[]]++lb,W1,?_,?_,?_,?_,fun _=>h1,?_⟩
 ·rw [<- hW1,hrec,hl0]
  exact run_enterLoop_outer _ _ _ _ _
 ·simp only [resolve,hg]
  simp [go_sem]
 ·intro f' _
  trivial
 ·simp [invoke,go_sem,eg]
 refine (hseq l (fun pre W=>I pre W/\W.heap[l]? = some (.loop (rec .ready none))/\W.heap[w.heap.size]? = some (.deferred (some [])))
  (fun pre W=>∃ c,Ix c pre W/\W.heap[l]? = some (.loop (rec .done (some c)))/\W.heap[w.heap.size]? = some (.deferred (some []))) W1 hb1
  (fun s W m hs=>⟨hI s W _ none hs.1 (ext_grownBy ((Ext.refl W).drewN m)) (Nat.le_add_right _ _) (fun r e=>by cases e),hs.2⟩) ?_ ⟨hI1,hL1,hK1⟩).mono ?_
 ·rintro pre x W ⟨hi,hl,hk⟩ hlen
  have hy:=run_yield (P:=P) (args:=encs x) hl (by rw [hrec];exact hps x)
  rw [hrec] at hy
  refine ⟨fn,_,assign,body,hy,roundIn_of_wpIn hfn (hassign _ x W _ ?_)⟩
  clear hy
  have hlw:w.heap.size<=l:=by omega
  have hll:l < W.heap.size:=(Array.getElem?_eq_some_iff.1 hl).1
  refine ⟨_,run_beginRound hl (by rw [hrec]),?_⟩
  have hl2:(W.putObj l (.loop { rec .ready none with state:=.busy })).heap[l]? = some (.loop { rec .ready none with state:=.busy }):=World.putObj_heap_same hll
  have hk2:(W.putObj l (.loop { rec .ready none with state:=.busy })).heap[w.heap.size]? = some (.deferred (some [])):=(World.putObj_heap_other (by omega)).trans hk
  refine wpIn_mono (hbody _ pre x _ (hI.putObj _ hi hlw hl rfl) hlen) ?_
  have fin:∀ (jump:Option Code) (W3:World),KeepsFrom w.heap.size (W.putObj l (.loop { rec .ready none with state:=.busy })) W3 ->
    (Instr.endRound l jump).run P W3=.ok (.bool jump.isNone) (W3.putObj l (.loop (rec (if jump.isNone then .ready else .done) jump))) /\
    W3.heap[l]? = some (.loop { rec .ready none with state:=.busy }) /\
    (W3.putObj l (.loop (rec (if jump.isNone then .ready else .done) jump))).heap[l]? = some (.loop (rec (if jump.isNone then .ready else .done) jump)) /\
    (W3.putObj l (.loop (rec (if jump.isNone then .ready else .done) jump))).heap[w.heap.size]? = some (.deferred (some [])):=fun jump W3 hk3=>by
   have hl3:=hk3.same _ _ hlw hl2 rfl
   have:=run_endRound (P:=P) jump hl3
   rw [hrec] at this ⊢
   exact⟨this,by rw [hrec] at hl3;exact hl3,World.putObj_heap_same (Array.getElem?_eq_some_iff.1 hl3).1,(World.putObj_heap_other (by omega)).trans (hk3.same _ _ (Nat.le_refl _) hk2 rfl)⟩
  have jumps:∀ (c:Code) (W3:World),KeepsFrom w.heap.size (W.putObj l (.loop { rec .ready none with state:=.busy })) W3->Ix c (pre++[x]) W3 ->
    ∃ v w',(Instr.endRound l (some c)).run P W3=.ok v w'/\((Ending.returned v=.returned (.bool true)/\(I (pre++[x]) w'/\w'.heap[l]? = some (.loop (rec .ready none))/\w'.heap[w.heap.size]? = some (.deferred (some [])))/\KpS (fun _=>False) 0 W w') ∨ (Ending.returned v=.returned (.bool false)/\∃ c,Ix c (pre++[x]) w'/\w'.heap[l]? = some (.loop (rec .done (some c)))/\w'.heap[w.heap.size]? = some (.deferred (some [])))):=fun c W3 hk3 hi3=>by
   obtain⟨hr,hl3,hl4,hk4⟩:=fin (some c) W3 hk3
   exact⟨_,_,hr,.inr ⟨rfl,c,(hIx _).putObj _ hi3 hlw hl3 rfl,hl4,hk4⟩⟩
  rintro e a3 W3 hp
  cases e with
  | normal =>
   obtain⟨hk3,hkp3,hi3⟩:=hp
   obtain⟨hr,hl3,hl4,hk4⟩:=fin none W3 hk3
   exact⟨_,_,hr,.inl ⟨rfl,⟨hI.putObj _ hi3 hlw hl3 rfl,hl4,hk4⟩,by have:=hkp3.1;simp at this ⊢;exact⟨by simpa using this,fun _ h=>h.elim⟩⟩⟩
  | ret=>exact jumps _ _ hp.1 hp.2
  | exit id=>exact jumps _ _ hp.1 hp.2
  | goto t=>exact jumps _ _ hp.1 hp.2
  | panic ch=>exact hp.elim
  | outgrown=>exact hp.elim
 ·rintro e W2 ⟨⟨v,rfl⟩,(⟨xs,hS,hi,hl,hk⟩ | ⟨pre,hSp,c,hi,hl,hk⟩)⟩
  ·exact⟨none,_,by have:=run_endLoop (P:=P) hl (by rw [hrec];simp [rec0]);rw [hrec] at this;exact this,hdone _ xs _ (Nat.le_refl _) hS (hI.putObj _ hi (by omega) hl rfl) ((World.putObj_heap_other (by omega)).trans hk)⟩
  ·exact⟨some c,_,by have:=run_endLoop (P:=P) hl (by rw [hrec];simp [rec0]);rw [hrec] at this;exact this,hstop _ c pre _ (Nat.le_refl _) hSp ((hIx c).putObj _ hi (by omega) hl rfl) ((World.putObj_heap_other (by omega)).trans hk)⟩
end
end Go.Proofs.YtblkikjmocnllaaGreatDoor
