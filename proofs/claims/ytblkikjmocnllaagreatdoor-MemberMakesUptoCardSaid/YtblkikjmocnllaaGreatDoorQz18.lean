/- Laws. -/
import Derived.Test.YtblkikjmocnllaaGreatDoorQz15
import Derived.Test.YtblkikjmocnllaaGreatDoorQz17
import Derived.Test.YtblkikjmocnllaaGreatDoorQz16
set_option linter.unusedVariables false
set_option linter.unusedSimpArgs false
set_option maxRecDepth 100000
set_option maxHeartbeats 40000000
namespace Go.Proofs.YtblkikjmocnllaaGreatDoor
section
open Go.RowKit Go.Shelf
theorem mbr_at {w wr:World} {S:Nat->Prop} {A:Option Addr} {n c:Nat} {l pre post:List Mbr} {x:Mbr} (h:Sl mbrT w S (.slice A n c) l) (hs:∀ b,S b->b < w.heap.size->wr.heap[b]? = w.heap[b]?) (hl:l=pre++x :: post) :
  ∃ b o A1 c1 A2 c2,A=some ⟨b,o,none⟩/\S b/\Sl spanT wr S (.slice A1 x.gone.length c1) x.gone/\Sl wordT wr S (.slice A2 x.words.length c2) x.words /\
   ∀ (j:Nat) u,(mbrC x (.slice A1 x.gone.length c1) (.slice A2 x.words.length c2))[j]? = some u->wr.cell? ⟨b,o+pre.length * 15+j,none⟩=some u:=by
 obtain⟨b,o,vs,c',hv,hS,⟨v1,v2,rfl,h1,h2⟩,hc⟩:=h.at_ hl
 injection hv with e1 e2 e3
 subst e1
 obtain⟨A1,c1,rfl,-,-⟩:=h1.form
 obtain⟨A2,c2,rfl,-,-⟩:=h2.form
 have hb:b < w.heap.size:=blk_of_cell (hc 0 _ rfl)
 exact⟨b,o,A1,c1,A2,c2,rfl,hS,h1.keep (by decide) hs,h2.keep (by decide) hs,fun j u hj=>(World.cell?_of_block (a:=⟨b,_,none⟩) (hs b hS hb)).trans (hc j u hj)⟩
theorem mbr_c15 {w:World} {b o:Nat} {x:Mbr} {v1 v2:Value} (h:∀ (j:Nat) u,(mbrC x v1 v2)[j]? = some u->w.cell? ⟨b,o+j,none⟩=some u) :
  w.cell? ⟨b,o,none⟩=some (St x.path)/\w.cell? ⟨b,o+1,none⟩=some (U8 x.status)/\w.cell? ⟨b,o+2,none⟩=some (I x.kids)/\w.cell? ⟨b,o+3,none⟩=some (I x.cut)/\w.cell? ⟨b,o+4,none⟩=some (U x.last)/\w.cell? ⟨b,o+5,none⟩=some v1 /\
  w.cell? ⟨b,o+6,none⟩=some (St x.plan.keeper)/\w.cell? ⟨b,o+7,none⟩=some (U x.plan.round)/\w.cell? ⟨b,o+8,none⟩=some (St x.plan.live)/\w.cell? ⟨b,o+9,none⟩=some (St x.plan.by_)/\w.cell? ⟨b,o+10,none⟩=some (U x.plan.cap)/\w.cell? ⟨b,o+11,none⟩=some (St x.plan.owner) /\
  w.cell? ⟨b,o+12,none⟩=some (U x.plan.base)/\w.cell? ⟨b,o+13,none⟩=some (.bool x.plan.done)/\w.cell? ⟨b,o+14,none⟩=some v2 :=
 ⟨h 0 _ rfl,h 1 _ rfl,h 2 _ rfl,h 3 _ rfl,h 4 _ rfl,h 5 _ rfl,h 6 _ rfl,h 7 _ rfl,h 8 _ rfl,h 9 _ rfl,h 10 _ rfl,h 11 _ rfl,h 12 _ rfl,h 13 _ rfl,h 14 _ rfl⟩
def placesF:Nat->List Mbr->List (Str × Nat)->List (Str × Nat)
 | _,[],L=>L
 | i,m :: r,L=>placesF (i+1) r (if m.path ∈ L.map Prod.fst then L else putL L m.path i)
def placesL (l:List Mbr):List (Str × Nat):=placesF 0 l []
def idxP (l:List Mbr) (p:Str):Option Nat:=l.findIdx? fun m=>decide (m.path=p)
theorem placesF_append (i:Nat) (a b:List Mbr) (L:List (Str × Nat)):placesF i (a++b) L=placesF (i+a.length) b (placesF i a L):=by
 induction a generalizing i L with
 | nil=>rfl
 | cons m a ih =>
  simp only [List.cons_append,placesF,ih,List.length_cons]
  congr 1
  omega
theorem placesF_snoc (pre:List Mbr) (x:Mbr):placesL (pre++[x])=if x.path ∈ (placesL pre).map Prod.fst then placesL pre else putL (placesL pre) x.path pre.length:=by
 unfold placesL
 rw [placesF_append]
 simp [placesF]
theorem putL_new {L:List (Str × Nat)} {k:Str} {n:Nat} (h:k ∉ L.map Prod.fst):putL L k n=L++[(k,n)]:=by unfold putL;rw [if_neg h]
theorem placesF_look (p:Str):∀ (l:List Mbr) (i:Nat) (L:List (Str × Nat)),(placesF i l L).lookup p=(L.lookup p).or ((l.findIdx? fun m=>decide (m.path=p)).map (·+i))
 | [],i,L=>by simp [placesF]
 | m :: r,i,L=>by
  rw [placesF,placesF_look p r (i+1),List.findIdx?_cons]
  have hmm:∀ {k:Str},k ∈ L.map Prod.fst↔(L.lookup k).isSome=true:=fun {k}=>by
   induction L with
   | nil=>simp
   | cons q L ih =>
    obtain⟨a,b⟩:=q
    by_cases h:k=a
    ·subst h;simp [List.lookup_cons]
    ·have:(k == a)=false:=by simpa using h
     rw [List.lookup_cons,this]
     simp only [List.map_cons,List.mem_cons,h,false_or]
     exact ih
  by_cases hp:m.path=p
  ·subst hp
   simp only [decide_true,if_true,Option.map_some,Nat.zero_add]
   by_cases h:m.path ∈ L.map Prod.fst
   ·rw [if_pos h]
    obtain⟨v,hv⟩:=Option.isSome_iff_exists.1 (hmm.1 h)
    rw [hv]
    rfl
   ·rw [if_neg h,putL_new h,List.lookup_append]
    have hn:L.lookup m.path=none:=by
     cases hl:L.lookup m.path with
     | none=>rfl
     | some v=>exact absurd (hmm.2 (by rw [hl];rfl)) h
    rw [hn]
    simp [List.lookup_cons]
  ·simp only [hp,decide_false,Bool.false_eq_true,if_false,Option.map_map]
   have e:((fun x=>x+i) ∘ fun x=>x+1)=fun x:Nat=>x+(i+1):=by funext x;simp;omega
   rw [e]
   congr 1
   split
   ·rfl
   ·rename_i h
    rw [putL_new h,List.lookup_append]
    have:(p == m.path)=false:=by rw [beq_eq_false_iff_ne];exact fun e=>hp e.symm
    cases L.lookup p <;> simp [List.lookup_cons,this]
theorem placesL_look (l:List Mbr) (p:Str):(placesL l).lookup p=idxP l p:=by
 unfold placesL idxP
 rw [placesF_look]
 simp
theorem mem_look {L:List (Str × Nat)} {k:Str}:k ∈ L.map Prod.fst↔(L.lookup k).isSome=true:=by
 induction L with
 | nil=>simp
 | cons q L ih =>
  obtain⟨a,b⟩:=q
  by_cases h:k=a
  ·subst h;simp [List.lookup_cons]
  ·have:(k == a)=false:=by simpa using h
   rw [List.lookup_cons,this]
   simp only [List.map_cons,List.mem_cons,h,false_or]
   exact ih
theorem lookup_beq {α β:Type} (i j:BEq α) (hi:∀ a b,i.beq a b=true↔a=b) (hj:∀ a b,j.beq a b=true↔a=b) (k:α):∀ L:List (α × β),@List.lookup α β i k L = @List.lookup α β j k L
 | []=>rfl
 | (a,b) :: L=>by
  have e:i.beq k a=j.beq k a:=by rw [Bool.eq_iff_iff,hi,hj]
  unfold List.lookup
  show (match i.beq k a with | true=>some b | false=>@List.lookup α β i k L)=(match j.beq k a with | true=>some b | false=>@List.lookup α β j k L)
  rw [e,lookup_beq i j hi hj k L]
theorem getL_look (L:List (Str × Nat)) (k:Str):getL 0 L k=(L.lookup k).getD 0:=by
 unfold getL
 rw [lookup_beq (@instBEqOfDecidableEq Str _) (inferInstance:BEq Str) (fun a b=>by simp [BEq.beq]) (fun a b=>beq_iff_eq) k L]
theorem places_run {w:World} {p:Nat} {l:List Mbr} (h:MapIs St (fun n:Nat=>I n) w p (placesL l)) (hz:∀ w,(zeroValue 3).run Tryz.prog w=.ok (I (0:Nat)) w) (k:Str) :
  (Instr.lookup 78 (.map (some p)) (St k) true).run Tryz.prog w=.ok (.tuple #[I (((idxP l k).getD 0:Nat):Int),.bool (idxP l k).isSome]) w:=by
 have:=(run_lookup_MapIs (P:=Tryz.prog) Tryz.underlying78 (keyOk_str Tryz.underlying9) (z:=0) hz h k).2
 rw [this]
 rw [getL_look,placesL_look]
 have e:∀ i:Decidable (k ∈ (placesL l).map Prod.fst),@decide _ i=(idxP l k).isSome:=fun i=>by rw [Bool.eq_iff_iff,decide_eq_true_eq,mem_look,placesL_look]
 rw [e]
theorem run_makeMap_hint {t k e:TypeId} (ht:Tryz.prog.underlying t=some (.map k e)) (n:Int) (w:World):(Instr.makeMap t (some (.int .i64 n))).run Tryz.prog w=.ok (.map (some w.heap.size)) (w.alloc (.map #[] 0)):=by
 simp [Instr.makeMap,run_underlying ht,asInt,asIntOf,newObj,Sem.run,Result.andThen,World.alloc_eq]
abbrev VI (n:Nat):Value:=I n
theorem keyStr:KeyOk Tryz.prog 9 St:=keyOk_str Tryz.underlying9
theorem places_any {S:Nat->Prop} {v:Value} {l:List Mbr} {w:World} (hv:Sl mbrT w S v l) :
  Calls Tryz.prog 37 #[v] w fun e w'=>∃ p,e=.returned (.map (some p))/\w.heap.size<=p/\MapIs St VI w' p (placesL l)/\Ext w w':=by
 have hv':=hv
 obtain⟨A,c,rfl,hc1,hc2⟩:=hv.form
 have HAT:=Lib.hid (fun (pre post:List Mbr) (m:Mbr) (wr:World) (h:Ext w wr) (hl:l=pre++m :: post)=>mbr_at hv' (fun b _ hb=>h.block b hb) hl)
 have hmm:=run_makeMap_hint Tryz.underlying78
 have hz:∀ w,(zeroValue 3).run Tryz.prog w=.ok (VI 0) w:=Tryz.zeroValue3
 clear hv hv'
 go_enter Tryz.func37,Tryz.ntmps37
 go_wp2_with fail
 go_loopw [13] (fun i wr=>∃ pre post,l=pre++post/\i=I pre.length/\MapIs St VI wr w.heap.size (placesL pre)/\Ext w wr) (fun i _=>l.length - (intOf i).toNat)
 case atStart=>exact⟨[],l,rfl,rfl,MapIs.new w,(Ext.refl w).alloc _⟩
 case round =>
  obtain⟨pre,post,hl,rfl,hS,hx⟩:=hrel
  cases post with
  | cons x post =>
   obtain⟨b,o,A1,c1,A2,c2,rfl,-,-,-,hc⟩:=HAT.out pre post x wr hx hl
   obtain⟨k0,k1,k2,k3,k4,k5,k6,k7,k8,k9,k10,k11,k12,k13,k14⟩:=mbr_c15 hc
   have hlt:pre.length < l.length:=by rw [hl];simp
   have HL:=Lib.hid hl
   have hx1:=(Ext.refl wr).alloc (.cells #[St x.path,U8 x.status,I x.kids,I x.cut,U x.last,.slice A1 x.gone.length c1,St x.plan.keeper,U x.plan.round,St x.plan.live,St x.plan.by_,U x.plan.cap,St x.plan.owner,U x.plan.base,.bool x.plan.done,.slice A2 x.words.length c2] 48)
   have hws:=hS.lt
   have t0:(wr.alloc (.cells #[St x.path,U8 x.status,I x.kids,I x.cut,U x.last,.slice A1 x.gone.length c1,St x.plan.keeper,U x.plan.round,St x.plan.live,St x.plan.by_,U x.plan.cap,St x.plan.owner,U x.plan.base,.bool x.plan.done,.slice A2 x.words.length c2] 48)).cell? ⟨wr.heap.size,0,none⟩=some (St x.path):=by simp [go_sem]
   obtain⟨-,hlk⟩:=run_lookup_MapIs (P:=Tryz.prog) Tryz.underlying78 keyStr hz (hS.ext hx1) x.path
   by_cases hin:x.path ∈ (placesL pre).map Prod.fst
   ·simp only [hin,decide_true] at hlk
    have HS:=Lib.hid (show MapIs St VI (wr.alloc (.cells #[St x.path,U8 x.status,I x.kids,I x.cut,U x.last,.slice A1 x.gone.length c1,St x.plan.keeper,U x.plan.round,St x.plan.live,St x.plan.by_,U x.plan.cap,St x.plan.owner,U x.plan.base,.bool x.plan.done,.slice A2 x.words.length c2] 48)) w.heap.size (placesL (pre++[x])) by rw [placesF_snoc,if_pos hin];exact hS.ext hx1)
    have HX:=Lib.hid (hx.trans hx1)
    clear hl hS hx hx1 hin
    go_wp2_with fail
    go_roundw
    case rel=>exact⟨pre++[x],post,by rw [HL.out];simp,by simp,HS.out,HX.out⟩
    case measure=>simp [intOf];omega
   ·simp only [hin,decide_false] at hlk
    obtain⟨wn,hup,hsn,htn⟩:=run_update_MapIs (P:=Tryz.prog) Tryz.underlying78 keyStr (hS.ext hx1) x.path pre.length
    have HS:=Lib.hid (show MapIs St VI wn w.heap.size (placesL (pre++[x])) by rw [placesF_snoc,if_neg hin];exact hsn)
    have HX:=Lib.hid ((hx.trans hx1).turned htn (Nat.le_refl _))
    clear hl hS hx hx1 hin hsn htn
    go_wp2_with fail
    go_roundw
    case rel=>exact⟨pre++[x],post,by rw [HL.out];simp,by simp,HS.out,HX.out⟩
    case measure=>simp [intOf];omega
  | nil =>
   rw [List.append_nil] at hl
   subst hl
   have HF:=Lib.hid (And.intro hS hx)
   clear hS hx
   go_wp2_with fail
   go_ret
   exact⟨_,rfl,Nat.le_refl _,HF.out.1,HF.out.2⟩
end
section
open Go.RowKit
abbrev MP:=Mbr × Value × Value
def mpC (e:MP):List Value:=mbrC e.1 e.2.1 e.2.2
def FormMP (e:MP):Prop:=∃ x A1 n1 c1 A2 n2 c2,e=(x,.slice A1 n1 c1,.slice A2 n2 c2)
theorem mpC_len (l:List MP):(l.flatMap mpC).length=l.length * 15:=by
 induction l with
 | nil=>rfl
 | cons a r ih=>simp [ih,mpC,mbrC];omega
theorem cellsM_mp (l:List Mbr) (us:List (Value × Value)):cellsM l us=(l.zip us).flatMap mpC:=rfl
theorem mpC_at (A B:List MP) (x:MP):((A++x :: B).flatMap mpC)[A.length * 15]? = some (St x.1.path)/\((A++x :: B).flatMap mpC)[A.length * 15+1]? = some (U8 x.1.status)/\((A++x :: B).flatMap mpC)[A.length * 15+2]? = some (I x.1.kids)/\((A++x :: B).flatMap mpC)[A.length * 15+3]? = some (I x.1.cut)/\((A++x :: B).flatMap mpC)[A.length * 15+4]? = some (U x.1.last)/\((A++x :: B).flatMap mpC)[A.length * 15+5]? = some (x.2.1)/\((A++x :: B).flatMap mpC)[A.length * 15+6]? = some (St x.1.plan.keeper)/\((A++x :: B).flatMap mpC)[A.length * 15+7]? = some (U x.1.plan.round)/\((A++x :: B).flatMap mpC)[A.length * 15+8]? = some (St x.1.plan.live)/\((A++x :: B).flatMap mpC)[A.length * 15+9]? = some (St x.1.plan.by_)/\((A++x :: B).flatMap mpC)[A.length * 15+10]? = some (U x.1.plan.cap)/\((A++x :: B).flatMap mpC)[A.length * 15+11]? = some (St x.1.plan.owner)/\((A++x :: B).flatMap mpC)[A.length * 15+12]? = some (U x.1.plan.base)/\((A++x :: B).flatMap mpC)[A.length * 15+13]? = some (.bool x.1.plan.done)/\((A++x :: B).flatMap mpC)[A.length * 15+14]? = some (x.2.2):=by
 rw [List.flatMap_append,<- mpC_len A]
 refine ⟨?_,?_,?_,?_,?_,?_,?_,?_,?_,?_,?_,?_,?_,?_,?_⟩
 ·rw [List.getElem?_append_right (Nat.le_refl _)];simp [mpC,mbrC]
 all_goals (rw [List.getElem?_append_right (by omega)];simp [mpC,mbrC])
theorem mpC_set (A B:List MP) (x y:MP):((((((((((((((((A++x :: B).flatMap mpC).set (A.length * 15) (St y.1.path)).set (A.length * 15+1) (U8 y.1.status)).set (A.length * 15+2) (I y.1.kids)).set (A.length * 15+3) (I y.1.cut)).set (A.length * 15+4) (U y.1.last)).set (A.length * 15+5) (y.2.1)).set (A.length * 15+6) (St y.1.plan.keeper)).set (A.length * 15+7) (U y.1.plan.round)).set (A.length * 15+8) (St y.1.plan.live)).set (A.length * 15+9) (St y.1.plan.by_)).set (A.length * 15+10) (U y.1.plan.cap)).set (A.length * 15+11) (St y.1.plan.owner)).set (A.length * 15+12) (U y.1.plan.base)).set (A.length * 15+13) (.bool y.1.plan.done)).set (A.length * 15+14) (y.2.2)=(A++y :: B).flatMap mpC:=by
 rw [List.flatMap_append,List.flatMap_append,<- mpC_len A]
 have e:∀ j,∀ (q:List Value) (v:Value),(A.flatMap mpC++q).set ((A.flatMap mpC).length+j) v=A.flatMap mpC++q.set j v:=fun j q v=>by rw [List.set_append_right _ _ (by omega)];congr 2;omega
 have e0:=e 0
 rw [Nat.add_zero] at e0
 rw [e0,e,e,e,e,e,e,e,e,e,e,e,e,e,e]
 simp [mpC,mbrC]
theorem mpC_take (A B:List MP):((A++B).flatMap mpC).take (A.length * 15)=A.flatMap mpC:=by
 rw [List.flatMap_append,<- mpC_len A]
 simp
theorem RowIs.setMP {w:World} {g T:Nat} {A B:List MP} {x:MP} {tail:List Value} (h:RowIs w g T ((A++x :: B).flatMap mpC) tail) (y:MP) :
  RowIs (((((((((((((((w.setCell ⟨g,A.length * 15,none⟩ (St y.1.path)).setCell ⟨g,A.length * 15+1,none⟩ (U8 y.1.status)).setCell ⟨g,A.length * 15+2,none⟩ (I y.1.kids)).setCell ⟨g,A.length * 15+3,none⟩ (I y.1.cut)).setCell ⟨g,A.length * 15+4,none⟩ (U y.1.last)).setCell ⟨g,A.length * 15+5,none⟩ (y.2.1)).setCell ⟨g,A.length * 15+6,none⟩ (St y.1.plan.keeper)).setCell ⟨g,A.length * 15+7,none⟩ (U y.1.plan.round)).setCell ⟨g,A.length * 15+8,none⟩ (St y.1.plan.live)).setCell ⟨g,A.length * 15+9,none⟩ (St y.1.plan.by_)).setCell ⟨g,A.length * 15+10,none⟩ (U y.1.plan.cap)).setCell ⟨g,A.length * 15+11,none⟩ (St y.1.plan.owner)).setCell ⟨g,A.length * 15+12,none⟩ (U y.1.plan.base)).setCell ⟨g,A.length * 15+13,none⟩ (.bool y.1.plan.done)).setCell ⟨g,A.length * 15+14,none⟩ (y.2.2)) g T ((A++y :: B).flatMap mpC) tail:=by
 have hl:((A++x :: B).flatMap mpC).length=A.length * 15+15+B.length * 15:=by rw [mpC_len];simp;omega
 have h1:=h.set (j:=A.length * 15) (by first | omega | (simp only [List.length_set];omega)) (St y.1.path)
 have h2:=h1.set (j:=A.length * 15+1) (by first | omega | (simp only [List.length_set];omega)) (U8 y.1.status)
 have h3:=h2.set (j:=A.length * 15+2) (by first | omega | (simp only [List.length_set];omega)) (I y.1.kids)
 have h4:=h3.set (j:=A.length * 15+3) (by first | omega | (simp only [List.length_set];omega)) (I y.1.cut)
 have h5:=h4.set (j:=A.length * 15+4) (by first | omega | (simp only [List.length_set];omega)) (U y.1.last)
 have h6:=h5.set (j:=A.length * 15+5) (by first | omega | (simp only [List.length_set];omega)) (y.2.1)
 have h7:=h6.set (j:=A.length * 15+6) (by first | omega | (simp only [List.length_set];omega)) (St y.1.plan.keeper)
 have h8:=h7.set (j:=A.length * 15+7) (by first | omega | (simp only [List.length_set];omega)) (U y.1.plan.round)
 have h9:=h8.set (j:=A.length * 15+8) (by first | omega | (simp only [List.length_set];omega)) (St y.1.plan.live)
 have h10:=h9.set (j:=A.length * 15+9) (by first | omega | (simp only [List.length_set];omega)) (St y.1.plan.by_)
 have h11:=h10.set (j:=A.length * 15+10) (by first | omega | (simp only [List.length_set];omega)) (U y.1.plan.cap)
 have h12:=h11.set (j:=A.length * 15+11) (by first | omega | (simp only [List.length_set];omega)) (St y.1.plan.owner)
 have h13:=h12.set (j:=A.length * 15+12) (by first | omega | (simp only [List.length_set];omega)) (U y.1.plan.base)
 have h14:=h13.set (j:=A.length * 15+13) (by first | omega | (simp only [List.length_set];omega)) (.bool y.1.plan.done)
 have h15:=h14.set (j:=A.length * 15+14) (by first | omega | (simp only [List.length_set];omega)) (y.2.2)
 rwa [mpC_set] at h15
structure PredP (P:Program) (g:Nat) (cb:Array Value) (v:Value) (C:World->Prop) (Q:Mbr->Prop) (p:Mbr->Bool):Prop where
 enters:∀ args w,(callFunc g args).run P w=.ok (.enter g args) w
 keep:∀ W W',C W->ButV v W W'->C W'
 does:∀ x A1 n1 c1 A2 n2 c2 W,Q x->C W->Calls P g (#[mbrV x (.slice A1 n1 c1) (.slice A2 n2 c2)]++cb) W fun e w'=>e=.returned (.bool (p x))/\Ext W w'
def idxB (p:Mbr->Bool) (l:List MP):Int:=match l.findIdx? (fun e=>p e.1) with | some i=>i | none=>-1
theorem idxB_none {p:Mbr->Bool} {l:List MP} (h:∀ m ∈ l,p m.1=false):idxB p l = -1:=by
 unfold idxB
 rw [List.findIdx?_eq_none_iff.2 (fun x hx=>h x hx)]
theorem idxB_some {p:Mbr->Bool} {pre post:List MP} {m:MP} (h:∀ x ∈ pre,p x.1=false) (hm:p m.1=true):idxB p (pre++m :: post)=pre.length:=by
 unfold idxB
 have:(pre++m :: post).findIdx? (fun e=>p e.1)=some pre.length:=by
  rw [List.findIdx?_append,List.findIdx?_eq_none_iff.2 (fun x hx=>h x hx)]
  simp [List.findIdx?_cons,hm]
 rw [this]
theorem index_mbr {gb cap:Nat} {l:List MP} {tail:List Value} {w:World} {g:Nat} {cb:Array Value} {v0:Value} {C:World->Prop} {Q:Mbr->Prop} {p:Mbr->Bool} (hv:RowIs w gb 48 (l.flatMap mpC) tail) (hF:∀ e ∈ l,FormMP e/\Q e.1) (hcm:l.length<=9223372036854775807) (hp:PredP Tryz.prog g cb v0 C Q p) (hC:C w) :
  Calls Tryz.prog 84 #[.slice (some ⟨gb,0,none⟩) l.length cap,.func (.func g) #[] cb] w fun e w'=>e=.returned (I (idxB p l))/\Ext w w':=by
 have HC:=Lib.hid hC
 have eg:=hp.enters
 have HV:=Lib.hid hv
 clear hv hC
 go_enter Tryz.func84,Tryz.ntmps84
 go_wp2
 go_loopw [8] (fun i wr=>∃ pre post,l=pre++post/\i=I pre.length/\(∀ x ∈ pre,p x.1=false)/\Ext w wr) (fun i _=>l.length - (intOf i).toNat)
 case atStart=>exact⟨[],l,rfl,rfl,by simp,Ext.refl _⟩
 case round =>
  obtain⟨pre,post,hl,rfl,hpre,hb⟩:=hrel
  cases post with
  | cons m post =>
   have hrow:=HV.out.ext hb
   rw [hl] at hrow
   obtain⟨⟨m,A1,n1,c1,A2,n2,c2,rfl⟩,hQ⟩:=hF m (by rw [hl];simp)
   obtain⟨hm0,hm1,hm2,hm3,hm4,hm5,hm6,hm7,hm8,hm9,hm10,hm11,hm12,hm13,hm14⟩:=mpC_at pre post (m,.slice A1 n1 c1,.slice A2 n2 c2)
   have hd0:=hrow.cell hm0
   have hd1:=hrow.cell hm1
   have hd2:=hrow.cell hm2
   have hd3:=hrow.cell hm3
   have hd4:=hrow.cell hm4
   have hd5:=hrow.cell hm5
   have hd6:=hrow.cell hm6
   have hd7:=hrow.cell hm7
   have hd8:=hrow.cell hm8
   have hd9:=hrow.cell hm9
   have hd10:=hrow.cell hm10
   have hd11:=hrow.cell hm11
   have hd12:=hrow.cell hm12
   have hd13:=hrow.cell hm13
   have hd14:=hrow.cell hm14
   have hlt:pre.length < l.length:=by rw [hl];simp
   have HL:=Lib.hid hl
   have HP:=Lib.hid hpre
   have HD:=Lib.hid (hp.does m A1 n1 c1 A2 n2 c2 wr hQ (hp.keep _ _ HC.out (hb.but _)))
   clear hl hp hpre hrow hF hm0 hm1 hm2 hm3 hm4 hm5 hm6 hm7 hm8 hm9 hm10 hm11 hm12 hm13 hm14
   unfold mbrV at HD
   cases hpm:p m
   all_goals
    rw [hpm] at HD
    go_wp2_with fail
    refine HD.out.mono ?_
    rintro e w1 ⟨rfl,hb1⟩
    go_wp2
   ·go_roundw
    case rel=>exact⟨pre++[(m,.slice A1 n1 c1,.slice A2 n2 c2)],post,by rw [HL.out];simp,by simp,fun x hx=>by
     rcases List.mem_append.1 hx with h1 | h1
     ·exact HP.out x h1
     ·rw [List.mem_singleton.1 h1];exact hpm,hb.trans hb1⟩
    case measure=>simp [intOf];omega
   ·go_ret
    exact⟨by rw [HL.out,idxB_some HP.out hpm];rfl,hb.trans hb1⟩
  | nil =>
   rw [List.append_nil] at hl;subst hl
   have HP:=Lib.hid hpre
   clear hpre hp
   go_wp2
   go_ret
   exact⟨by rw [idxB_none HP.out];rfl,hb⟩
theorem delete_mbr {gb cap:Nat} {l:List MP} {tail:List Value} {w:World} {g:Nat} {cb:Array Value} {C:World->Prop} {Q:Mbr->Prop} {p:Mbr->Bool} (hv:RowIs w gb 48 (l.flatMap mpC) tail) (hF:∀ e ∈ l,FormMP e/\Q e.1) (h0:0 < l.length) (hnc:l.length<=cap) (hcm:cap<=9223372036854775807) (hp:PredP Tryz.prog g cb (.slice (some ⟨gb,0,none⟩) l.length cap) C Q p) (hC:C w) :
  Calls Tryz.prog 82 #[.slice (some ⟨gb,0,none⟩) l.length cap,.func (.func g) #[] cb] w fun e w'=>∃ tail',e=.returned (.slice (some ⟨gb,0,none⟩) (l.filter fun m=>!p m.1).length cap)/\RowIs w' gb 48 ((l.filter fun m=>!p m.1).flatMap mpC) tail'/\ButV (.slice (some ⟨gb,0,none⟩) l.length cap) w w'/\tail'.length+(l.filter fun m=>!p m.1).length * 15=tail.length+l.length * 15:=by
 have HI:=Lib.hid (index_mbr (cap:=cap) hv hF (Nat.le_trans hnc hcm) hp hC)
 by_cases hall:∀ m ∈ l,p m.1=false
 ·have hi:=idxB_none hall
  rw [hi] at HI
  have hf:(l.filter fun m=>!p m.1)=l:=List.filter_eq_self.2 (fun m hm=>by simp [hall m hm])
  rw [hf]
  have HV:=Lib.hid hv
  clear hi hf hv hp hall hF
  go_enter Tryz.func82,Tryz.ntmps82
  go_wp2_with fail
  refine HI.out.mono ?_
  rintro e w1 ⟨rfl,hb1⟩
  go_wp2
  go_ret
  exact⟨_,rfl,HV.out.ext hb1,hb1.but _,rfl⟩
 ·obtain⟨pre0,m0,post0,hl0,hpre0,hm0⟩:∃ pre m post,l=pre++m :: post/\(∀ x ∈ pre,p x.1=false)/\p m.1=true:=by
   clear HI hv hF h0 hnc hp hC
   induction l with
   | nil=>exact absurd (by simp) hall
   | cons a r ih =>
    cases ha:p a.1 with
    | true=>exact⟨[],a,r,rfl,by simp,ha⟩
    | false =>
     obtain⟨pre,m,post,e1,e2,e3⟩:=ih (fun h=>hall (fun m hm=>by
      rcases List.mem_cons.1 hm with e | hm
      ·rw [e];exact ha
      ·exact h m hm))
     exact⟨a :: pre,m,post,by rw [e1];rfl,fun x hx=>by
      rcases List.mem_cons.1 hx with e | hx
      ·rw [e];exact ha
      ·exact e2 x hx,e3⟩
  have hi:=idxB_some (post:=post0) hpre0 hm0
  rw [<- hl0] at hi
  rw [hi] at HI
  have hlen:pre0.length < l.length:=by rw [hl0];simp
  have hown:ownBlk (.slice (some ⟨gb,0,none⟩) l.length cap) gb:=⟨gb,l.length,cap,rfl,by omega,rfl⟩
  have hglt:=hv.lt
  have HR:=Lib.hid hv
  have HL0:=Lib.hid hl0
  have HP0:=Lib.hid hpre0
  have HM0:=Lib.hid hm0
  have HCw:=Lib.hid hC
  have eg:=hp.enters
  have HPr:=Lib.hid hp
  have HF:=Lib.hid hF
  have hq0:((pre0.length:Int) == -1)=false:=by rw [beq_eq_false_iff_ne];omega
  clear hi hl0 hpre0 hm0 hC hp hv hall hF
  go_enter Tryz.func82,Tryz.ntmps82
  go_wp2_with fail
  refine HI.out.mono ?_
  rintro e w1 ⟨rfl,hb1⟩
  go_wp2_with fail
  go_loopw [5,6] (fun i j wr=>∃ pre post kept junk:List MP,l=pre++post/\j=I pre.length/\i=I kept.length/\kept=pre.filter (fun m=>!p m.1)/\kept.length+junk.length=pre.length/\0 < junk.length/\RowIs wr gb 48 ((kept++junk++post).flatMap mpC) tail/\ButV (.slice (some ⟨gb,0,none⟩) l.length cap) w wr) (fun _ j _=>l.length - (intOf j).toNat)
  case atStart =>
   refine ⟨pre0++[m0],post0,pre0,[m0],by rw [HL0.out];simp,by simp,rfl,?_,by simp,by simp,?_,hb1.but _⟩
   ·rw [List.filter_append,List.filter_eq_self.2 (fun m hm=>by simp [HP0.out m hm])];simp [HM0.out]
   ·have:=HR.out.ext hb1
    rw [HL0.out] at this
    simpa using this
  case round =>
   obtain⟨pre,post,kept,junk,hl,rfl,rfl,hkept,hkj,hj0,hrow,hb⟩:=hrel
   have hgw:gb < wr.heap.size:=hrow.lt
   cases post with
   | cons m post =>
    obtain⟨x,junk,rfl⟩:∃ x r,junk=x :: r:=by cases junk with | nil=>simp at hj0 | cons x r=>exact⟨x,r,rfl⟩
    have hlt:pre.length < l.length:=by rw [hl];simp
    obtain⟨⟨m,A1,n1,c1,A2,n2,c2,rfl⟩,hQ⟩:=HF.out m (by rw [hl];simp)
    have hm:=mpC_at (kept++x :: junk) post (m,.slice A1 n1 c1,.slice A2 n2 c2)
    rw [List.length_append,hkj] at hm
    obtain⟨hm0,hm1,hm2,hm3,hm4,hm5,hm6,hm7,hm8,hm9,hm10,hm11,hm12,hm13,hm14⟩:=hm
    have hd0:=hrow.cell hm0
    have hd1:=hrow.cell hm1
    have hd2:=hrow.cell hm2
    have hd3:=hrow.cell hm3
    have hd4:=hrow.cell hm4
    have hd5:=hrow.cell hm5
    have hd6:=hrow.cell hm6
    have hd7:=hrow.cell hm7
    have hd8:=hrow.cell hm8
    have hd9:=hrow.cell hm9
    have hd10:=hrow.cell hm10
    have hd11:=hrow.cell hm11
    have hd12:=hrow.cell hm12
    have hd13:=hrow.cell hm13
    have hd14:=hrow.cell hm14
    have HD:=Lib.hid (HPr.out.does m A1 n1 c1 A2 n2 c2 (wr.alloc (.cells #[St m.path,U8 m.status,I m.kids,I m.cut,U m.last,.slice A1 n1 c1,St m.plan.keeper,U m.plan.round,St m.plan.live,St m.plan.by_,U m.plan.cap,St m.plan.owner,U m.plan.base,.bool m.plan.done,.slice A2 n2 c2] 48)) hQ (HPr.out.keep _ _ HCw.out (hb.trans (((Ext.refl wr).alloc _).but _))))
    have HL:=Lib.hid hl
    have HK:=Lib.hid hkept
    have HKJ:=Lib.hid hkj
    have HRow:=Lib.hid hrow
    have hkl:kept.length < pre.length:=by simp at hkj;omega
    clear hl hkept hkj hrow hm0 hm1 hm2 hm3 hm4 hm5 hm6 hm7 hm8 hm9 hm10 hm11 hm12 hm13 hm14 hj0
    unfold mbrV at HD
    cases hpm:p m
    all_goals
     rw [hpm] at HD
     go_wp2_with fail
     clear hd0 hd1 hd2 hd3 hd4 hd5 hd6 hd7 hd8 hd9 hd10 hd11 hd12 hd13 hd14
     refine HD.out.mono ?_
     rintro e w2 ⟨rfl,hb2⟩
     have hb3:=hb.trans ((((Ext.refl wr).alloc (.cells #[St m.path,U8 m.status,I m.kids,I m.cut,U m.last,.slice A1 n1 c1,St m.plan.keeper,U m.plan.round,St m.plan.live,St m.plan.by_,U m.plan.cap,St m.plan.owner,U m.plan.base,.bool m.plan.done,.slice A2 n2 c2] 48)).trans hb2).but (.slice (some ⟨gb,0,none⟩) l.length cap))
     have hrow2:=(HRow.out.alloc (.cells #[St m.path,U8 m.status,I m.kids,I m.cut,U m.last,.slice A1 n1 c1,St m.plan.keeper,U m.plan.round,St m.plan.live,St m.plan.by_,U m.plan.cap,St m.plan.owner,U m.plan.base,.bool m.plan.done,.slice A2 n2 c2] 48)).ext hb2
    ·have hx:=mpC_at kept (junk++(m,.slice A1 n1 c1,.slice A2 n2 c2) :: post) x
     obtain⟨hx0,hx1,hx2,hx3,hx4,hx5,hx6,hx7,hx8,hx9,hx10,hx11,hx12,hx13,hx14⟩:=hx
     have hrow3:RowIs w2 gb 48 ((kept++x :: (junk++(m,.slice A1 n1 c1,.slice A2 n2 c2) :: post)).flatMap mpC) tail:=by simpa using hrow2
     have hc0:=hrow3.cell hx0
     have hf0:=hrow3.frozen (kept.length * 15)
     have hc1:=hrow3.cell hx1
     have hf1:=hrow3.frozen (kept.length * 15+1)
     have hc2:=hrow3.cell hx2
     have hf2:=hrow3.frozen (kept.length * 15+2)
     have hc3:=hrow3.cell hx3
     have hf3:=hrow3.frozen (kept.length * 15+3)
     have hc4:=hrow3.cell hx4
     have hf4:=hrow3.frozen (kept.length * 15+4)
     have hc5:=hrow3.cell hx5
     have hf5:=hrow3.frozen (kept.length * 15+5)
     have hc6:=hrow3.cell hx6
     have hf6:=hrow3.frozen (kept.length * 15+6)
     have hc7:=hrow3.cell hx7
     have hf7:=hrow3.frozen (kept.length * 15+7)
     have hc8:=hrow3.cell hx8
     have hf8:=hrow3.frozen (kept.length * 15+8)
     have hc9:=hrow3.cell hx9
     have hf9:=hrow3.frozen (kept.length * 15+9)
     have hc10:=hrow3.cell hx10
     have hf10:=hrow3.frozen (kept.length * 15+10)
     have hc11:=hrow3.cell hx11
     have hf11:=hrow3.frozen (kept.length * 15+11)
     have hc12:=hrow3.cell hx12
     have hf12:=hrow3.frozen (kept.length * 15+12)
     have hc13:=hrow3.cell hx13
     have hf13:=hrow3.frozen (kept.length * 15+13)
     have hc14:=hrow3.cell hx14
     have hf14:=hrow3.frozen (kept.length * 15+14)
     have hb0':w2.cell? ⟨wr.heap.size,0,none⟩=some (St m.path):=hb2.cell (by simp [go_sem])
     have hb1':w2.cell? ⟨wr.heap.size,1,none⟩=some (U8 m.status):=hb2.cell (by simp [go_sem])
     have hb2':w2.cell? ⟨wr.heap.size,2,none⟩=some (I m.kids):=hb2.cell (by simp [go_sem])
     have hb3':w2.cell? ⟨wr.heap.size,3,none⟩=some (I m.cut):=hb2.cell (by simp [go_sem])
     have hb4':w2.cell? ⟨wr.heap.size,4,none⟩=some (U m.last):=hb2.cell (by simp [go_sem])
     have hb5':w2.cell? ⟨wr.heap.size,5,none⟩=some (.slice A1 n1 c1):=hb2.cell (by simp [go_sem])
     have hb6':w2.cell? ⟨wr.heap.size,6,none⟩=some (St m.plan.keeper):=hb2.cell (by simp [go_sem])
     have hb7':w2.cell? ⟨wr.heap.size,7,none⟩=some (U m.plan.round):=hb2.cell (by simp [go_sem])
     have hb8':w2.cell? ⟨wr.heap.size,8,none⟩=some (St m.plan.live):=hb2.cell (by simp [go_sem])
     have hb9':w2.cell? ⟨wr.heap.size,9,none⟩=some (St m.plan.by_):=hb2.cell (by simp [go_sem])
     have hb10':w2.cell? ⟨wr.heap.size,10,none⟩=some (U m.plan.cap):=hb2.cell (by simp [go_sem])
     have hb11':w2.cell? ⟨wr.heap.size,11,none⟩=some (St m.plan.owner):=hb2.cell (by simp [go_sem])
     have hb12':w2.cell? ⟨wr.heap.size,12,none⟩=some (U m.plan.base):=hb2.cell (by simp [go_sem])
     have hb13':w2.cell? ⟨wr.heap.size,13,none⟩=some (.bool m.plan.done):=hb2.cell (by simp [go_sem])
     have hb14':w2.cell? ⟨wr.heap.size,14,none⟩=some (.slice A2 n2 c2):=hb2.cell (by simp [go_sem])
     have HR3:=Lib.hid hrow3
     clear hrow3 hrow2 hx0 hx1 hx2 hx3 hx4 hx5 hx6 hx7 hx8 hx9 hx10 hx11 hx12 hx13 hx14
     go_wp2
     clear hc0 hf0 hb0' hc1 hf1 hb1' hc2 hf2 hb2' hc3 hf3 hb3' hc4 hf4 hb4' hc5 hf5 hb5' hc6 hf6 hb6' hc7 hf7 hb7' hc8 hf8 hb8' hc9 hf9 hb9' hc10 hf10 hb10' hc11 hf11 hb11' hc12 hf12 hb12' hc13 hf13 hb13' hc14 hf14 hb14'
     go_roundw
     case rel =>
      refine ⟨pre++[(m,.slice A1 n1 c1,.slice A2 n2 c2)],post,kept++[(m,.slice A1 n1 c1,.slice A2 n2 c2)],junk++[(m,.slice A1 n1 c1,.slice A2 n2 c2)],by rw [HL.out];simp,by simp,by simp,by rw [List.filter_append,<- HK.out];simp [hpm],?_,by simp,?_,?_⟩
      ·have:=HKJ.out;simp at this ⊢;omega
      ·have:=HR3.out.setMP (m,.slice A1 n1 c1,.slice A2 n2 c2)
       simpa using this
      ·exact ((((((((((((((hb3.set hown _).set hown _).set hown _).set hown _).set hown _).set hown _).set hown _).set hown _).set hown _).set hown _).set hown _).set hown _).set hown _).set hown _).set hown _
     case measure=>simp [intOf];omega
    ·go_wp2
     go_roundw
     case rel =>
      refine ⟨pre++[(m,.slice A1 n1 c1,.slice A2 n2 c2)],post,kept,x :: junk++[(m,.slice A1 n1 c1,.slice A2 n2 c2)],by rw [HL.out];simp,by simp,rfl,by rw [List.filter_append,<- HK.out];simp [hpm],?_,by simp,by simpa using hrow2,hb3⟩
      have:=HKJ.out;simp at this ⊢;omega
     case measure=>simp [intOf];omega
   | nil =>
    rw [List.append_nil] at hl
    subst hl
    have HK:=Lib.hid hkept
    rw [List.append_nil] at hrow
    have hkl:kept.length < l.length:=by omega
    have hz:kept.length+junk.length=l.length:=hkj
    have hxl:((kept++junk).flatMap mpC).length=(kept.length+(l.length - kept.length)) * 15:=by rw [mpC_len,List.length_append];omega
    obtain⟨i,hi,hzero,-,-⟩:=info_parts info_mbr
    obtain⟨zs,hzl,hcl⟩:=run_clear_row (P:=Tryz.prog) (t:=22) (o:=kept.length) (n:=l.length - kept.length) (c:=cap - kept.length) Tryz.underlying22 hi hzero (k:=15) rfl (by simp [Value.cells,mbrV,Value.oneCell']) hrow (by omega) hxl 0
    rw [mpC_take] at hcl
    have HRow:=Lib.hid hrow
    have HZ:=Lib.hid hzl
    have hne:¬ cap=kept.length:=by omega
    clear hkept hkj hrow hxl hi hzero hzl
    go_wp2_with fail
    go_ret
    rw [<- HK.out]
    have hW:=HRow.out.setRow (kept.flatMap mpC++zs)
    rw [List.append_assoc] at hW
    have hW':RowIs (wr.setRow gb (kept.flatMap mpC++(zs++tail)).toArray) gb 48 (kept.flatMap mpC) (zs++tail):=by
     unfold RowIs at hW ⊢
     rw [hW,List.append_assoc]
    refine ⟨_,rfl,hW',hb.setRow hown _,?_⟩
    have h2:=HZ.out
    simp only [List.length_append]
    omega
end
section
open Go.RowKit Go.Shelf
def lesserM (a b:Int):Int:=if a<=0 ∨ b<=0 then max (max a b) 0 else min a b
theorem lesser_any (a b:Int) (w:World):Calls Tryz.prog 107 #[I a,I b] w fun e w'=>e=.returned (I (lesserM a b))/\w'=w:=by
 have HL:∀ v:Int,v=lesserM a b->(Ending.returned (I v)=Ending.returned (I (lesserM a b))):=fun v h=>by rw [h]
 have HL':=Lib.hid HL
 clear HL
 go_enter Tryz.func107,Tryz.ntmps107
 by_cases h1:a<=0
 ·by_cases h3:a < b
  ·by_cases h4:b < 0
   all_goals
    go_wp2_with fail
    go_ret
    exact⟨HL'.out _ (by unfold lesserM;omega),rfl⟩
  ·by_cases h4:a < 0
   all_goals
    go_wp2_with fail
    go_ret
    exact⟨HL'.out _ (by unfold lesserM;omega),rfl⟩
 ·by_cases h2:b<=0
  ·have h3:¬ a < b:=by omega
   have h4:¬ a < 0:=by omega
   go_wp2_with fail
   go_ret
   exact⟨HL'.out _ (by unfold lesserM;omega),rfl⟩
  ·by_cases h3:b < a
   all_goals
    go_wp2_with fail
    go_ret
    exact⟨HL'.out _ (by unfold lesserM;omega),rfl⟩
structure HugeOk (l:List Mbr):Prop where
 path:∀ x ∈ l,x.path.length<=1125899906842624
 gone:∀ x ∈ l,x.gone.length<=1125899906842624
 keeper:∀ x ∈ l,x.plan.keeper.length<=1125899906842624
 by_:∀ x ∈ l,x.plan.by_.length<=1125899906842624
 owner:∀ x ∈ l,x.plan.owner.length<=1125899906842624
 live:∀ x ∈ l,x.plan.live.length<=1125899906842624
 words:∀ x ∈ l,∀ s ∈ x.words,s.of.length<=1125899906842624/\s.keeper.length<=1125899906842624
 wlen:∀ x ∈ l,x.words.length<=1125899906842624
structure LowM (x:Mbr):Prop where
 path:x.path.length<=8192
 gone:x.gone.length<=8192
 keeper:x.plan.keeper.length<=8192
 by_:x.plan.by_.length<=8192
 owner:x.plan.owner.length<=8192
 wlen:x.words.length<=8192
 words:∀ s ∈ x.words,s.of.length<=8192/\s.keeper.length<=8192
theorem large_any {S:Nat->Prop} {v:Value} {l:List Mbr} {w:World} (hv:Sl mbrT w S v l) (hg:HugeOk l) :
  Calls Tryz.prog 8 #[v] w fun e w'=>(e=.returned (.bool true) ∨ e=.returned (.bool false)/\l.length<=40/\∀ x ∈ l,LowM x)/\Ext w w':=by
 have hv':=hv
 obtain⟨A,c,rfl,hc1,hc2⟩:=hv.form
 have HAT:=Lib.hid (fun (pre post:List Mbr) (x:Mbr) w1 (hx:Ext w w1) (hl:l=pre++x :: post)=>mbr_at (wr:=w1) hv' (fun b _ hb=>hx.block b hb) hl)
 have HG:=Lib.hid hg
 clear hv hv' hg
 by_cases h40:l.length<=40
 case neg =>
  have e1:(l.length:Int) > 40:=by omega
  clear h40
  go_enter Tryz.func8,Tryz.ntmps8
  go_wp2_with fail
  go_ret
  exact⟨.inl rfl,Ext.refl _⟩
 have e1:¬ (l.length:Int) > 40:=by omega
 go_enter Tryz.func8,Tryz.ntmps8
 go_wp2_with fail
 go_loopw [3,4] (fun n i wr=>∃ pre post,∃ m:Nat,l=pre++post/\i=I pre.length/\n=I m/\m < 8192/\Hid (∀ x ∈ pre,LowM x)/\Ext w wr) (fun _ i _=>l.length - (intOf i).toNat)
 case atStart=>exact⟨[],l,0,rfl,rfl,rfl,by decide,Lib.hid (by simp),Ext.refl _⟩
 case round =>
  obtain⟨pre,post,m,hl,rfl,rfl,hm,hlow,hx⟩:=hrel
  cases post with
  | nil =>
   rw [List.append_nil] at hl
   subst hl
   have d1:¬ (l.length:Int) < l.length:=by omega
   have HX:=Lib.hid hx
   clear hx
   go_wp2_with fail
   go_ret
   exact⟨.inr ⟨rfl,hlow.out⟩,HX.out⟩
  | cons x post =>
   obtain⟨b,o,A1,c1,A2,c2,rfl,-,hs1,hs2,hc⟩:=HAT.out pre post x wr hx hl
   have hw2:=hs2
   obtain⟨k0,-,-,-,-,k5,k6,-,-,k9,-,k11,-,-,k14⟩:=mbr_c15 hc
   have hxm:x ∈ l:=by rw [hl];simp
   have g1:=HG.out.path x hxm
   have g2:=HG.out.gone x hxm
   have g3:=HG.out.keeper x hxm
   have g4:=HG.out.by_ x hxm
   have g5:=HG.out.owner x hxm
   have HGW:=Lib.hid (HG.out.words x hxm)
   have HWT:=Lib.hid (fun (p q:List Word) (s:Word) W (he:Ext wr W) (h:x.words=p++s :: q)=>word_at hw2 he h)
   have hlt:pre.length < l.length:=by rw [hl];simp
   have hlt2:(pre.length:Int) < l.length:=by omega
   have HL:=Lib.hid hl
   have HX:=Lib.hid hx
   have HCK:=Lib.hid (fun W (he:Ext wr W)=>he.cell k14)
   obtain⟨N,hN⟩:∃ N:Nat,m+x.path.length+x.gone.length+x.plan.keeper.length+x.plan.by_.length+x.plan.owner.length=N:=⟨_,rfl⟩
   have HN:=Lib.hid hN
   have hNz:(m:Int)+x.path.length+x.gone.length+x.plan.keeper.length+x.plan.by_.length+x.plan.owner.length=(N:Int):=by omega
   have hNb:N<=5629499534221312+8192:=by omega
   clear hl hx hs1 hs2 hw2 hc hxm hN
   go_wp2_with fail
   go_quiet (fail)
   obtain⟨W1,hW1⟩:∃ W1,wr.drewN nq=W1:=⟨_,rfl⟩
   have hx1:Ext wr W1:=by rw [<- hW1];exact (Ext.refl wr).drewN nq
   rw [hW1]
   have HX1:=Lib.hid hx1
   have hwl:=HG.out.wlen x (by rw [HL.out];simp)
   clear hW1 k0 k5 k6 k9 k11 k14 hx1 hNz g1 g2 g3 g4 g5
   go_wp2_with fail
   go_loopw [3,5] (fun n k wr2=>∃ (p q:List Word) (m2:Nat),Hid (x.words=p++q)/\k=I p.length/\n=I m2/\Hid (N+p.length<=m2/\(∀ s ∈ p,s.of.length<=m2/\s.keeper.length<=m2))/\m2<=5629499534221312+8192/\Ext wr wr2) (fun _ k _=>x.words.length - (intOf k).toNat)
   case atStart=>exact⟨[],x.words,N,Lib.hid rfl,rfl,rfl,Lib.hid ⟨by simp,by simp⟩,hNb,HX1.out⟩
   case round =>
    obtain⟨p,q,m2,hpq,rfl,rfl,hms,hm2,hx2⟩:=hrel
    have k14:=HCK.out _ hx2
    have hpl:x.words.length=p.length+q.length:=by rw [hpq.out];simp
    have EXITB:m2 < 8192->q = []->LowM x:=fun h1 h2=>by
     subst h2
     have h3:=hpq.out
     rw [List.append_nil] at h3
     have h4:=hms.out
     have h5:=HN.out
     exact⟨by omega,by omega,by omega,by omega,by omega,by rw [h3];omega,fun s hs=>by rw [h3] at hs;have:=h4.2 s hs;omega⟩
    have HEX:=Lib.hid EXITB
    clear EXITB
    by_cases hlm:m2 < 8192
    ·cases q with
     | nil =>
      have d1:¬ (p.length:Int) < x.words.length:=by simp at hpl;omega
      have d2:¬ (m2:Int) ≥ 8192:=by omega
      have HF:=Lib.hid (HEX.out hlm rfl)
      have HX2:=Lib.hid (HX.out.trans hx2)
      clear hpl hx2
      go_wp2_with fail
      go_roundw
      case rel=>exact⟨pre++[x],post,m2,by rw [HL.out];simp,by simp,rfl,hlm,Lib.hid (fun y hy=>by
       rcases List.mem_append.1 hy with h | h
       ·exact hlow.out y h
       ·rw [List.mem_singleton.1 h];exact HF.out),HX2.out⟩
      case measure=>simp [intOf];omega
     | cons s q =>
      have d1:(p.length:Int) < x.words.length:=by simp at hpl;omega
      have d2:(m2:Int) < 8192:=by omega
      obtain⟨bw,ow,rfl,j0,-,j2,-,-,-,-⟩:=HWT.out p q s _ hx2 hpq.out
      have hsw:=HGW.out s (by rw [hpq.out];simp)
      have hs1:=hsw.1
      have hs2:=hsw.2
      have hxd:=Lib.hid (hx2.drewN)
      clear hpl hsw hx2
      go_wp2_with fail
      go_quiet (fail)
      go_wp2_with fail
      go_roundw
      case rel=>exact⟨p++[s],q,m2+1+s.of.length+s.keeper.length,Lib.hid (by rw [hpq.out];simp),by simp,by simp,Lib.hid ⟨by have:=hms.out.1;simp;omega,fun u hu=>by
       rcases List.mem_append.1 hu with h | h
       ·have:=hms.out.2 u h;omega
       ·rw [List.mem_singleton.1 h];omega⟩,by omega,hxd.out _⟩
      case measure=>simp [intOf];omega
    ·have d2:¬ (m2:Int) < 8192:=by omega
     have d3:(m2:Int) ≥ 8192:=by omega
     have HX2:=Lib.hid (HX.out.trans hx2)
     clear hx2
     by_cases hpq2:(p.length:Int) < x.words.length
     ·clear hpl
      go_wp2_with fail
      go_ret
      exact⟨.inl rfl,HX2.out⟩
     ·clear hpl
      go_wp2_with fail
      go_ret
      exact⟨.inl rfl,HX2.out⟩
theorem same1_any {S S':Nat->Prop} (x:Mbr) {A1 A2 B1 B2:Option Addr} {c1 c2 d1 d2:Nat} {w:World} (h1:Sl spanT w S (.slice A1 x.gone.length c1) x.gone) (h2:Sl wordT w S (.slice A2 x.words.length c2) x.words) (g1:Sl spanT w S' (.slice B1 x.gone.length d1) x.gone) (g2:Sl wordT w S' (.slice B2 x.words.length d2) x.words) :
  Calls Tryz.prog 99 #[.agg #[St x.path,U8 x.status,I x.kids,I x.cut,U x.last,.slice A1 x.gone.length c1,St x.plan.keeper,U x.plan.round,St x.plan.live,St x.plan.by_,U x.plan.cap,St x.plan.owner,U x.plan.base,.bool x.plan.done,.slice A2 x.words.length c2],.agg #[St x.path,U8 x.status,I x.kids,I x.cut,U x.last,.slice B1 x.gone.length d1,St x.plan.keeper,U x.plan.round,St x.plan.live,St x.plan.by_,U x.plan.cap,St x.plan.owner,U x.plan.base,.bool x.plan.done,.slice B2 x.words.length d2]] w fun e w'=>e=.returned (.bool true)/\Ext w w':=by
 have rA:=rowNew w 48 [St x.path,U8 x.status,I x.kids,I x.cut,U x.last,.slice A1 x.gone.length c1,St x.plan.keeper,U x.plan.round,St x.plan.live,St x.plan.by_,U x.plan.cap,St x.plan.owner,U x.plan.base,.bool x.plan.done,.slice A2 x.words.length c2]
 have xA:=(Ext.refl w).alloc (.cells #[St x.path,U8 x.status,I x.kids,I x.cut,U x.last,.slice A1 x.gone.length c1,St x.plan.keeper,U x.plan.round,St x.plan.live,St x.plan.by_,U x.plan.cap,St x.plan.owner,U x.plan.base,.bool x.plan.done,.slice A2 x.words.length c2] 48)
 have rB:=rowNew (w.alloc (.cells #[St x.path,U8 x.status,I x.kids,I x.cut,U x.last,.slice A1 x.gone.length c1,St x.plan.keeper,U x.plan.round,St x.plan.live,St x.plan.by_,U x.plan.cap,St x.plan.owner,U x.plan.base,.bool x.plan.done,.slice A2 x.words.length c2] 48)) 48 [St x.path,U8 x.status,I x.kids,I x.cut,U x.last,.slice B1 x.gone.length d1,St x.plan.keeper,U x.plan.round,St x.plan.live,St x.plan.by_,U x.plan.cap,St x.plan.owner,U x.plan.base,.bool x.plan.done,.slice B2 x.words.length d2]
 have xB:=xA.alloc (.cells #[St x.path,U8 x.status,I x.kids,I x.cut,U x.last,.slice B1 x.gone.length d1,St x.plan.keeper,U x.plan.round,St x.plan.live,St x.plan.by_,U x.plan.cap,St x.plan.owner,U x.plan.base,.bool x.plan.done,.slice B2 x.words.length d2] 48)
 rw [World.size_alloc] at rB
 have HQ:∀ w,(binOp .eql 45 (.agg #[St x.plan.keeper,U x.plan.round,St x.plan.live,St x.plan.by_,U x.plan.cap,St x.plan.owner,U x.plan.base,.bool x.plan.done]) (.agg #[St x.plan.keeper,U x.plan.round,St x.plan.live,St x.plan.by_,U x.plan.cap,St x.plan.owner,U x.plan.base,.bool x.plan.done])).run Tryz.prog w=.ok (.bool true) w:=eql_plan x.plan
 have HCL:=Lib.hid (fun W (he:Ext ((w.alloc (.cells #[St x.path,U8 x.status,I x.kids,I x.cut,U x.last,.slice A1 x.gone.length c1,St x.plan.keeper,U x.plan.round,St x.plan.live,St x.plan.by_,U x.plan.cap,St x.plan.owner,U x.plan.base,.bool x.plan.done,.slice A2 x.words.length c2] 48)).alloc (.cells #[St x.path,U8 x.status,I x.kids,I x.cut,U x.last,.slice B1 x.gone.length d1,St x.plan.keeper,U x.plan.round,St x.plan.live,St x.plan.by_,U x.plan.cap,St x.plan.owner,U x.plan.base,.bool x.plan.done,.slice B2 x.words.length d2] 48)) W)=>And.intro (RowIs.c15 ((rA.alloc _).ext he)) (RowIs.c15 (rB.ext he)))
 have HE1:=Lib.hid (fun W (he:Ext w W)=>equal_span (h1.ext (by decide) he) (g1.ext (by decide) he))
 have HE2:=Lib.hid (fun W (he:Ext w W)=>equal_word (h2.ext (by decide) he) (g2.ext (by decide) he))
 obtain⟨⟨a0,a1,a2,a3,a4,a5,a6,a7,a8,a9,a10,a11,a12,a13,a14⟩,b0,b1,b2,b3,b4,b5,b6,b7,b8,b9,b10,b11,b12,b13,b14⟩:=HCL.out _ (Ext.refl _)
 have HXB:=Lib.hid xB
 clear rA rB xA xB h1 h2 g1 g2
 go_enter Tryz.func99,Tryz.ntmps99
 go_wp2_with fail
 refine (HE1.out _ HXB.out).mono ?_
 rintro e w1 ⟨rfl,k,rfl⟩
 have hx1:=(Ext.refl ((w.alloc (.cells #[St x.path,U8 x.status,I x.kids,I x.cut,U x.last,.slice A1 x.gone.length c1,St x.plan.keeper,U x.plan.round,St x.plan.live,St x.plan.by_,U x.plan.cap,St x.plan.owner,U x.plan.base,.bool x.plan.done,.slice A2 x.words.length c2] 48)).alloc (.cells #[St x.path,U8 x.status,I x.kids,I x.cut,U x.last,.slice B1 x.gone.length d1,St x.plan.keeper,U x.plan.round,St x.plan.live,St x.plan.by_,U x.plan.cap,St x.plan.owner,U x.plan.base,.bool x.plan.done,.slice B2 x.words.length d2] 48))).drewN k
 have HX1:=Lib.hid hx1
 obtain⟨⟨a0,a1,a2,a3,a4,a5,a6,a7,a8,a9,a10,a11,a12,a13,a14⟩,b0,b1,b2,b3,b4,b5,b6,b7,b8,b9,b10,b11,b12,b13,b14⟩:=HCL.out _ hx1
 clear hx1
 generalize (((w.alloc (.cells #[St x.path,U8 x.status,I x.kids,I x.cut,U x.last,.slice A1 x.gone.length c1,St x.plan.keeper,U x.plan.round,St x.plan.live,St x.plan.by_,U x.plan.cap,St x.plan.owner,U x.plan.base,.bool x.plan.done,.slice A2 x.words.length c2] 48)).alloc (.cells #[St x.path,U8 x.status,I x.kids,I x.cut,U x.last,.slice B1 x.gone.length d1,St x.plan.keeper,U x.plan.round,St x.plan.live,St x.plan.by_,U x.plan.cap,St x.plan.owner,U x.plan.base,.bool x.plan.done,.slice B2 x.words.length d2] 48))).drewN k=W3 at *
 go_wp2_with fail
 refine (HE2.out _ (HXB.out.trans HX1.out)).mono ?_
 rintro e w1 ⟨rfl,k,rfl⟩
 go_wp2_with fail
 go_ret
 exact⟨rfl,(HXB.out.trans HX1.out).drewN k⟩
theorem same_any {S S':Nat->Prop} {v u:Value} {l:List Mbr} {w:World} (hv:Sl mbrT w S v l) (hu:Sl mbrT w S' u l) :
  Calls Tryz.prog 36 #[v,u] w fun e w'=>e=.returned (.bool true)/\Ext w w':=by
 have hEF:Calls Tryz.prog 98 #[v,u,.func (.func 99) #[] #[]] w fun e w'=>e=.returned (.bool true)/\Ext w w':=by
  have hv':=hv
  have hu':=hu
  obtain⟨A,ca,rfl,hc1,hc2⟩:=hv.form
  obtain⟨B,cb,rfl,-,-⟩:=hu.form
  have HAT:=Lib.hid (fun (pre post:List Mbr) (x:Mbr) w1 (hx:Ext w w1) (hl:l=pre++x :: post)=>mbr_at (wr:=w1) hv' (fun b _ hb=>hx.block b hb) hl)
  have HBT:=Lib.hid (fun (pre post:List Mbr) (x:Mbr) w1 (hx:Ext w w1) (hl:l=pre++x :: post)=>mbr_at (wr:=w1) hu' (fun b _ hb=>hx.block b hb) hl)
  have eg:∀ args w,(callFunc 99 args).run Tryz.prog w=.ok (.enter 99 args) w:=enters_of Tryz.func99 (by kernel_rfl) rfl
  have k0:((l.length:Int) != (l.length:Int))=false:=by simp
  clear hv hu hv' hu'
  go_enter Tryz.func98,Tryz.ntmps98
  go_wp2_with fail
  clear k0
  go_loopw [17] (fun i wr=>∃ pre post,l=pre++post/\i=I pre.length/\Ext w wr) (fun i _=>l.length - (intOf i).toNat)
  case atStart=>exact⟨[],l,rfl,rfl,Ext.refl _⟩
  case round =>
   obtain⟨pre,post,hl,rfl,hx⟩:=hrel
   cases post with
   | nil =>
    rw [List.append_nil] at hl
    subst hl
    have HX:=Lib.hid hx
    clear hx
    go_wp2_with fail
    go_ret
    exact⟨rfl,HX.out⟩
   | cons x post =>
    obtain⟨b,o,A1,c1,A2,c2,rfl,-,h1,h2,hc⟩:=HAT.out pre post x wr hx hl
    obtain⟨b',o',B1,d1,B2,d2,rfl,-,g1,g2,hd⟩:=HBT.out pre post x wr hx hl
    obtain⟨k0,k1,k2,k3,k4,k5,k6,k7,k8,k9,k10,k11,k12,k13,k14⟩:=mbr_c15 hc
    have hxa:=(Ext.refl wr).alloc (.cells #[St x.path,U8 x.status,I x.kids,I x.cut,U x.last,.slice A1 x.gone.length c1,St x.plan.keeper,U x.plan.round,St x.plan.live,St x.plan.by_,U x.plan.cap,St x.plan.owner,U x.plan.base,.bool x.plan.done,.slice A2 x.words.length c2] 48)
    obtain⟨j0,j1,j2,j3,j4,j5,j6,j7,j8,j9,j10,j11,j12,j13,j14⟩:=mbr_c15 (fun j u hj=>hxa.cell (hd j u hj))
    have hlt:pre.length < l.length:=by rw [hl];simp
    have hlt2:(pre.length:Int) < l.length:=by omega
    have rA:=rowNew wr 48 [St x.path,U8 x.status,I x.kids,I x.cut,U x.last,.slice A1 x.gone.length c1,St x.plan.keeper,U x.plan.round,St x.plan.live,St x.plan.by_,U x.plan.cap,St x.plan.owner,U x.plan.base,.bool x.plan.done,.slice A2 x.words.length c2]
    have hxb:=hxa.alloc (.cells #[St x.path,U8 x.status,I x.kids,I x.cut,U x.last,.slice B1 x.gone.length d1,St x.plan.keeper,U x.plan.round,St x.plan.live,St x.plan.by_,U x.plan.cap,St x.plan.owner,U x.plan.base,.bool x.plan.done,.slice B2 x.words.length d2] 48)
    have rB:=rowNew (wr.alloc (.cells #[St x.path,U8 x.status,I x.kids,I x.cut,U x.last,.slice A1 x.gone.length c1,St x.plan.keeper,U x.plan.round,St x.plan.live,St x.plan.by_,U x.plan.cap,St x.plan.owner,U x.plan.base,.bool x.plan.done,.slice A2 x.words.length c2] 48)) 48 [St x.path,U8 x.status,I x.kids,I x.cut,U x.last,.slice B1 x.gone.length d1,St x.plan.keeper,U x.plan.round,St x.plan.live,St x.plan.by_,U x.plan.cap,St x.plan.owner,U x.plan.base,.bool x.plan.done,.slice B2 x.words.length d2]
    rw [World.size_alloc] at rB
    obtain⟨a0,a1,a2,a3,a4,a5,a6,a7,a8,a9,a10,a11,a12,a13,a14⟩:=RowIs.c15 (rA.alloc (.cells #[St x.path,U8 x.status,I x.kids,I x.cut,U x.last,.slice B1 x.gone.length d1,St x.plan.keeper,U x.plan.round,St x.plan.live,St x.plan.by_,U x.plan.cap,St x.plan.owner,U x.plan.base,.bool x.plan.done,.slice B2 x.words.length d2] 48))
    obtain⟨b0,b1,b2,b3,b4,b5,b6,b7,b8,b9,b10,b11,b12,b13,b14⟩:=RowIs.c15 rB
    have HS:=Lib.hid (same1_any x (h1.ext (by decide) hxb) (h2.ext (by decide) hxb) (g1.ext (by decide) hxb) (g2.ext (by decide) hxb))
    have HL:=Lib.hid hl
    have HX:=Lib.hid (hx.trans hxb)
    clear hl hx hxa hxb rA rB hc hd h1 h2 g1 g2
    go_wp2_with fail
    refine HS.out.mono ?_
    rintro e w4 ⟨rfl,hx4⟩
    go_wp2_with fail
    go_roundw
    case rel=>exact⟨pre++[x],post,by rw [HL.out];simp,by simp,HX.out.trans hx4⟩
    case measure=>simp [intOf];omega
 have HE:=Lib.hid hEF
 obtain⟨A,ca,rfl,-,-⟩:=hv.form
 obtain⟨B,cb,rfl,-,-⟩:=hu.form
 clear hEF hv hu
 go_enter Tryz.func36,Tryz.ntmps36
 go_wp2_with fail
 refine HE.out.mono ?_
 rintro e w4 ⟨rfl,hx4⟩
 go_wp2_with fail
 go_ret
 exact⟨rfl,hx4⟩
end
end Go.Proofs.YtblkikjmocnllaaGreatDoor
