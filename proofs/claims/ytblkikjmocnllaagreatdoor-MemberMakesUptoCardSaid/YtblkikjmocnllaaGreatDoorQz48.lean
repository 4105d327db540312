/- An argument's datum of a bulk of at most B opened: spans, words, plans, memberships: every length is at most B. Printed by gen_openb.py out of OpenM.lean. -/
import Derived.Test.YtblkikjmocnllaaGreatDoorQz18
import Derived.Test.YtblkikjmocnllaaGreatDoorRows
import Derived.Deep.Slices
import Derived.ChangeMaps5
import Derived.OpenShut
set_option linter.unusedVariables false
set_option linter.unusedSimpArgs false
set_option maxRecDepth 100000
set_option maxHeartbeats 40000000
namespace Go.Proofs.YtblkikjmocnllaaGreatDoor
section
open Go.Deep Go.RowKit Go.Shelf Go.ChangeShapes Go.WideShapes
section
variable {H:Type} {enc:TypeId × Value->H} {w:World} {B:Nat}
def Opens {α:Type} (B:Nat) (enc:TypeId × Value->H) (w:World) (e:TypeId) (T:Shape α) (G:α->Prop):Prop :=
 ∀ n cs D p,DataW.trod enc Tryz.prog w 0 (fun _=>true) true n e cs=some (D,p)->Rows.uptoBulk D<=B->∃ a:α,T.rd w (fun _=>True) a cs/\G a
theorem bulk_one (d:DataW H):1<=Rows.uptoBulk d:=by
 cases d with
 | lit l=>cases l <;> simp [Rows.uptoBulk]
 | nil=>simp [Rows.uptoBulk]
 | ptr d=>simp [Rows.uptoBulk]
 | slice elems spare=>simp [Rows.uptoBulk]
 | agg parts=>simp [Rows.uptoBulk]
 | iface t d=>simp [Rows.uptoBulk]
 | map entries=>simp [Rows.uptoBulk]
 | held h=>simp [Rows.uptoBulk]
theorem bulk_mem {d:DataW H}:∀ {l:List (DataW H)},d ∈ l->Rows.uptoBulk d<=Rows.uptoBulkAll l
 | [],h=>by cases h
 | x :: r,h=>by
  simp only [Rows.uptoBulkAll]
  rcases List.mem_cons.1 h with rfl | h
  ·omega
  ·have:=bulk_mem h;omega
theorem bulk_len:∀ l:List (DataW H),l.length<=Rows.uptoBulkAll l
 | []=>by simp [Rows.uptoBulkAll]
 | x :: r=>by have:=bulk_one x;have:=bulk_len r;simp only [Rows.uptoBulkAll,List.length_cons];omega
theorem bulk_part {ds:List (DataW H)} {B:Nat} (h:Rows.uptoBulk (.agg ds)<=B) {i:Nat} {d:DataW H} (hd:ds[i]? = some d):Rows.uptoBulk d<=B:=by
 have h1:=bulk_mem (List.mem_of_getElem? hd)
 simp only [Rows.uptoBulk] at h
 omega
theorem spot_none {a:Addr} {v:Value} (h:w.cell? a=some v):a.spot=none:=by
 unfold World.cell? at h
 split at h
 ·split at h
  ·cases h
  ·rename_i hs
   cases hsp:a.spot with
   | none=>rfl
   | some x=>rw [hsp] at hs;exact absurd rfl hs
 ·cases h
theorem opens_slice {α:Type} [Inhabited α] {T:Shape α} {G:α->Prop} {e t:TypeId} (hk:0 < T.k) (ht:Tryz.prog.underlying t=some (.slice e)) (hc:Tryz.prog.cellsOf e=T.k)
  (h:Opens B enc w e T G):Opens B enc w t (slT T hk) (fun l=>(∀ a ∈ l,G a)/\l.length<=B):=by
 intro n cs D p htr hw
 rcases open_slice ht htr with ⟨rfl,hx⟩ | ⟨a,len,cap,m,n',Df,Pl,rfl,hb,hl,hm,hmm,hx,hel⟩
 ·refine ⟨[],⟨_,rfl,Sl.nil none 0 (by omega)⟩,fun a ha=>(by cases ha),Nat.zero_le _⟩
 ·have hlm:len<=m:=by rw [hmm];simpa using hl
  have hD:D=_:=congrArg Prod.fst hx
  simp only at hD
  clear hx
  subst hD
  simp only [Rows.uptoBulk] at hw
  have each:∀ i,i < len->∃ q:α × List Value,T.rd w (fun _=>True) q.1 q.2/\G q.1/\w.cells? 0 (a.add (i * T.k)) T.k=some q.2:=by
   intro i hi
   obtain⟨cs',h1,h2⟩:=hel i (by omega)
   rw [hc] at h1
   obtain⟨x,hx1,hx2⟩:=h _ _ _ _ h2 (Nat.le_trans (bulk_mem (List.mem_map.2 ⟨i,List.mem_range.2 hi,rfl⟩)) (by omega))
   exact⟨(x,cs'),hx1,hx2,h1⟩
  obtain⟨f,hf⟩:=choose_lt each
  have hw0:=fun l:List (DataW H)=>bulk_len l
  refine ⟨(List.range len).map fun i=>(f i).1,⟨_,rfl,some a,cap,by simp,by simpa using hl,by simpa [maxLen] using hm,?_⟩,?_,?_⟩
  ·intro pre x post hl'
   have hi:pre.length < len:=by have:=congrArg List.length hl';simp at this;omega
   have hx:x=(f pre.length).1:=by
    have:=congrArg (fun l=>l[pre.length]?) hl'
    simp [hi] at this
    exact this.symm
   obtain⟨-,hlen0,hcell0⟩:=World.cells?_some (hf 0 (by omega)).2.2
   have ha:a.spot=none:=by
    have h0:=hcell0 0 hk
    rw [List.getElem?_eq_getElem (by omega)] at h0
    have:=spot_none h0
    simpa [Addr.add] using this
   obtain⟨b,o,s⟩:=a
   simp only at ha
   subst ha
   obtain⟨-,hlen,hcell⟩:=World.cells?_some (hf pre.length hi).2.2
   refine ⟨b,o,(f pre.length).2,rfl,trivial,by rw [hx];exact (hf pre.length hi).1,fun j u hj=>?_⟩
   have hjl:j < T.k:=by have:=(List.getElem?_eq_some_iff.1 hj).1;omega
   have:=hcell j hjl
   rw [add_none,add_none] at this
   rw [this,hj]
  ·intro x hx
   obtain⟨i,hi,rfl⟩:=List.mem_map.1 hx
   exact (hf i (List.mem_range.1 hi)).2.1
  ·have h9:=Nat.le_trans (hw0 _) (Nat.le_trans (Nat.le_add_right _ _) (Nat.le_of_succ_le hw))
   simpa using h9
theorem str_of (s:ByteArray):∃ l:Str,s=⟨l.toArray⟩/\l.length=s.data.toList.length:=⟨s.data.toList,by cases s;simp,rfl⟩
theorem opens_str1 {n:Nat} {c:Value} {D:DataW H} {p:List MemPlace} (h:DataW.trod enc Tryz.prog w 0 (fun _=>true) true n 9 [c]=some (D,p)) (hw:Rows.uptoBulk D<=B) :
  ∃ s:Str,c=St s/\s.length<=B:=by
 obtain⟨s,hc,hx,-⟩:=DataW.trod_string Tryz.underlying9 h
 obtain⟨l,rfl,hl⟩:=str_of s
 simp only [Prod.mk.injEq] at hx
 obtain⟨rfl,-⟩:=hx
 simp only [Rows.uptoBulk] at hw
 exact⟨l,by simpa using hc,by (try simp at hw);omega⟩
theorem opens_u64 {n:Nat} {c:Value} {D:DataW H} {p:List MemPlace} (h:DataW.trod enc Tryz.prog w 0 (fun _=>true) true n 23 [c]=some (D,p)):∃ k:Nat,c=U k/\k < 18446744073709551616:=by
 obtain⟨z,hc,-,hwf⟩:=DataW.trod_int Tryz.underlying23 h
 have hb:(decide (IntKind.u64.min<=z) && decide (z<=IntKind.u64.max))=true:=hwf
 simp only [Bool.and_eq_true,decide_eq_true_eq] at hb
 have h1:(0:Int)<=z:=hb.1
 have h2:z<=(18446744073709551615:Int):=hb.2
 obtain⟨k,rfl⟩:=Int.eq_ofNat_of_zero_le h1
 exact⟨k,by simpa using hc,by omega⟩
theorem opens_bool {n:Nat} {c:Value} {D:DataW H} {p:List MemPlace} (h:DataW.trod enc Tryz.prog w 0 (fun _=>true) true n 4 [c]=some (D,p)):∃ b:Bool,c=.bool b:=by
 obtain⟨b,hc,-⟩:=DataW.trod_bool Tryz.underlying4 h
 exact⟨b,by simpa using hc⟩
theorem list2 {α:Type} {l:List α} (h:l.length=2):∃ a0 a1,l = [a0,a1]:=by
 match l,h with
 | [a0,a1],_=>exact⟨a0,a1,rfl⟩
theorem list4 {α:Type} {l:List α} (h:l.length=4):∃ a0 a1 a2 a3,l = [a0,a1,a2,a3]:=by
 match l,h with
 | [a0,a1,a2,a3],_=>exact⟨a0,a1,a2,a3,rfl⟩
theorem list5 {α:Type} {l:List α} (h:l.length=5):∃ a0 a1 a2 a3 a4,l = [a0,a1,a2,a3,a4]:=by
 match l,h with
 | [a0,a1,a2,a3,a4],_=>exact⟨a0,a1,a2,a3,a4,rfl⟩
theorem list7 {α:Type} {l:List α} (h:l.length=7):∃ a0 a1 a2 a3 a4 a5 a6,l = [a0,a1,a2,a3,a4,a5,a6]:=by
 match l,h with
 | [a0,a1,a2,a3,a4,a5,a6],_=>exact⟨a0,a1,a2,a3,a4,a5,a6,rfl⟩
theorem list8 {α:Type} {l:List α} (h:l.length=8):∃ a0 a1 a2 a3 a4 a5 a6 a7,l = [a0,a1,a2,a3,a4,a5,a6,a7]:=by
 match l,h with
 | [a0,a1,a2,a3,a4,a5,a6,a7],_=>exact⟨a0,a1,a2,a3,a4,a5,a6,a7,rfl⟩
theorem list15 {α:Type} {l:List α} (h:l.length=15):∃ a0 a1 a2 a3 a4 a5 a6 a7 a8 a9 a10 a11 a12 a13 a14,l = [a0,a1,a2,a3,a4,a5,a6,a7,a8,a9,a10,a11,a12,a13,a14]:=by
 match l,h with
 | [a0,a1,a2,a3,a4,a5,a6,a7,a8,a9,a10,a11,a12,a13,a14],_=>exact⟨a0,a1,a2,a3,a4,a5,a6,a7,a8,a9,a10,a11,a12,a13,a14,rfl⟩
theorem opens_i64 {n:Nat} {c:Value} {D:DataW H} {p:List MemPlace} (h:DataW.trod enc Tryz.prog w 0 (fun _=>true) true n 3 [c]=some (D,p)):∃ k:Int,c=I k:=by
 obtain⟨z,hc,-,-⟩:=DataW.trod_int Tryz.underlying3 h
 exact⟨z,by simpa using hc⟩
theorem opens_u8m {n:Nat} {c:Value} {D:DataW H} {p:List MemPlace} (h:DataW.trod enc Tryz.prog w 0 (fun _=>true) true n 5 [c]=some (D,p)):∃ k:Nat,c=U8 k:=by
 obtain⟨z,hc,-,hwf⟩:=DataW.trod_int Tryz.underlying5 h
 have hb:(decide (IntKind.u8.min<=z) && decide (z<=IntKind.u8.max))=true:=hwf
 simp only [Bool.and_eq_true,decide_eq_true_eq] at hb
 have h1:(0:Int)<=z:=hb.1
 obtain⟨k,rfl⟩:=Int.eq_ofNat_of_zero_le h1
 exact⟨k,by simpa using hc⟩
theorem open_text {r:Reach} {b0:Nat} {v:Value} {d:DataW H} {ps:List MemPlace} (hval:Value.okWide Tryz.prog w r b0 9 v) (h:DataW.Trod enc Tryz.prog w 0 (fun _=>true) true 9 v d ps)
  (hw:Rows.uptoBulk d<=B):∃ s:Str,v=St s/\s.length<=B:=by
 obtain⟨s,rfl,rfl,-⟩:=Go.ChangeMaps.open_string Tryz.underlying9 hval h
 obtain⟨l,rfl,hl⟩:=str_of s
 simp only [Rows.uptoBulk] at hw
 exact⟨l,rfl,by (try simp at hw);omega⟩
theorem opens_span:Opens B enc w 76 spanT (fun _=>True):=by
 intro n cs D p htr hw
 obtain⟨xs,m,-,hx,hlen,hxl,hf⟩:=DataW.trod_struct Tryz.underlying76 htr
 obtain⟨y0,y1,rfl⟩:=list2 hxl
 obtain⟨c0,c1,rfl⟩:=list2 (hlen.trans (show Tryz.prog.cellsOf 76=2 by kernel_rfl))
 have hD:=congrArg Prod.fst hx
 simp only at hD
 clear hx
 subst hD
 have hwp:∀ (i:Nat) (d:DataW H),[y0.1,y1.1][i]? = some d->Rows.uptoBulk d<=B:=fun i d h2=>bulk_part hw h2
 have g0:DataW.trod enc Tryz.prog w 0 (fun _=>true) true m 3 ((([c0,c1]:List Value).drop 0).take (Tryz.prog.cellsOf 3))=some (y0.1,y0.2):=hf 0 _ rfl
 rw [show Tryz.prog.cellsOf 3=1 by kernel_rfl] at g0
 have q0:=opens_i64 g0
 have g1:DataW.trod enc Tryz.prog w 0 (fun _=>true) true m 3 ((([c0,c1]:List Value).drop 1).take (Tryz.prog.cellsOf 3))=some (y1.1,y1.2):=hf 1 _ rfl
 rw [show Tryz.prog.cellsOf 3=1 by kernel_rfl] at g1
 have q1:=opens_i64 g1
 obtain⟨k,rfl⟩:=q0
 obtain⟨j,rfl⟩:=q1
 exact⟨(k,j),rfl,trivial⟩
theorem opens_word:Opens B enc w 71 wordT (fun s=>s.of.length<=B/\s.keeper.length<=B):=by
 intro n cs D p htr hw
 obtain⟨xs,m,-,hx,hlen,hxl,hf⟩:=DataW.trod_struct Tryz.underlying71 htr
 obtain⟨y0,y1,y2,y3,y4,y5,y6,rfl⟩:=list7 hxl
 obtain⟨c0,c1,c2,c3,c4,c5,c6,rfl⟩:=list7 (hlen.trans (show Tryz.prog.cellsOf 71=7 by kernel_rfl))
 have hD:=congrArg Prod.fst hx
 simp only at hD
 clear hx
 subst hD
 have hwp:∀ (i:Nat) (d:DataW H),[y0.1,y1.1,y2.1,y3.1,y4.1,y5.1,y6.1][i]? = some d->Rows.uptoBulk d<=B:=fun i d h2=>bulk_part hw h2
 have g0:DataW.trod enc Tryz.prog w 0 (fun _=>true) true m 9 ((([c0,c1,c2,c3,c4,c5,c6]:List Value).drop 0).take (Tryz.prog.cellsOf 9))=some (y0.1,y0.2):=hf 0 _ rfl
 rw [show Tryz.prog.cellsOf 9=1 by kernel_rfl] at g0
 have q0:=opens_str1 g0 (hwp 0 _ rfl)
 have g1:DataW.trod enc Tryz.prog w 0 (fun _=>true) true m 23 ((([c0,c1,c2,c3,c4,c5,c6]:List Value).drop 1).take (Tryz.prog.cellsOf 23))=some (y1.1,y1.2):=hf 1 _ rfl
 rw [show Tryz.prog.cellsOf 23=1 by kernel_rfl] at g1
 have q1:=opens_u64 g1
 have g2:DataW.trod enc Tryz.prog w 0 (fun _=>true) true m 9 ((([c0,c1,c2,c3,c4,c5,c6]:List Value).drop 2).take (Tryz.prog.cellsOf 9))=some (y2.1,y2.2):=hf 2 _ rfl
 rw [show Tryz.prog.cellsOf 9=1 by kernel_rfl] at g2
 have q2:=opens_str1 g2 (hwp 2 _ rfl)
 have g3:DataW.trod enc Tryz.prog w 0 (fun _=>true) true m 23 ((([c0,c1,c2,c3,c4,c5,c6]:List Value).drop 3).take (Tryz.prog.cellsOf 23))=some (y3.1,y3.2):=hf 3 _ rfl
 rw [show Tryz.prog.cellsOf 23=1 by kernel_rfl] at g3
 have q3:=opens_u64 g3
 have g4:DataW.trod enc Tryz.prog w 0 (fun _=>true) true m 4 ((([c0,c1,c2,c3,c4,c5,c6]:List Value).drop 4).take (Tryz.prog.cellsOf 4))=some (y4.1,y4.2):=hf 4 _ rfl
 rw [show Tryz.prog.cellsOf 4=1 by kernel_rfl] at g4
 have q4:=opens_bool g4
 have g5:DataW.trod enc Tryz.prog w 0 (fun _=>true) true m 23 ((([c0,c1,c2,c3,c4,c5,c6]:List Value).drop 5).take (Tryz.prog.cellsOf 23))=some (y5.1,y5.2):=hf 5 _ rfl
 rw [show Tryz.prog.cellsOf 23=1 by kernel_rfl] at g5
 have q5:=opens_u64 g5
 have g6:DataW.trod enc Tryz.prog w 0 (fun _=>true) true m 4 ((([c0,c1,c2,c3,c4,c5,c6]:List Value).drop 6).take (Tryz.prog.cellsOf 4))=some (y6.1,y6.2):=hf 6 _ rfl
 rw [show Tryz.prog.cellsOf 4=1 by kernel_rfl] at g6
 have q6:=opens_bool g6
 obtain⟨s1,rfl,l1⟩:=q0
 obtain⟨n1,rfl,-⟩:=q1
 obtain⟨s2,rfl,l2⟩:=q2
 obtain⟨n2,rfl,-⟩:=q3
 obtain⟨b1,rfl⟩:=q4
 obtain⟨n3,rfl,-⟩:=q5
 obtain⟨b2,rfl⟩:=q6
 exact⟨⟨s1,n1,s2,n2,b1,n3,b2⟩,rfl,l1,l2⟩
instance:Inhabited Word:=⟨⟨[],0,[],0,false,0,false⟩⟩
instance:Inhabited Mbr:=⟨mbr0⟩
theorem opens_spans:Opens B enc w 41 (slT spanT (by decide)) (fun l=>(∀ a ∈ l,(fun _=>True) a)/\l.length<=B) :=
 opens_slice (by decide) Tryz.underlying41 (by kernel_rfl) opens_span
theorem opens_words:Opens B enc w 46 (slT wordT (by decide)) (fun l=>(∀ a ∈ l,(fun s:Word=>s.of.length<=B/\s.keeper.length<=B) a)/\l.length<=B) :=
 opens_slice (by decide) Tryz.underlying46 (by kernel_rfl) opens_word
theorem opens_prunedM {n:Nat} {c0 c1 c2 c3:Value} {D:DataW H} {p:List MemPlace} (htr:DataW.trod enc Tryz.prog w 0 (fun _=>true) true n 43 [c0,c1,c2,c3]=some (D,p)) (hw:Rows.uptoBulk D<=B) :
  ∃ (s1:Str) (n1:Nat) (s2:Str) (n2:Nat),[c0,c1,c2,c3] = [St s1,U n1,St s2,U n2]/\s1.length<=B/\s2.length<=B:=by
 obtain⟨xs,m,-,hx,hlen,hxl,hf⟩:=DataW.trod_struct Tryz.underlying43 htr
 obtain⟨y0,y1,y2,y3,rfl⟩:=list4 hxl
 have hD:=congrArg Prod.fst hx
 simp only at hD
 clear hx
 subst hD
 have hwp:∀ (i:Nat) (d:DataW H),[y0.1,y1.1,y2.1,y3.1][i]? = some d->Rows.uptoBulk d<=B:=fun i d h2=>bulk_part hw h2
 have g0:DataW.trod enc Tryz.prog w 0 (fun _=>true) true m 9 ((([c0,c1,c2,c3]:List Value).drop 0).take (Tryz.prog.cellsOf 9))=some (y0.1,y0.2):=hf 0 _ rfl
 rw [show Tryz.prog.cellsOf 9=1 by kernel_rfl] at g0
 have q0:=opens_str1 g0 (hwp 0 _ rfl)
 have g1:DataW.trod enc Tryz.prog w 0 (fun _=>true) true m 23 ((([c0,c1,c2,c3]:List Value).drop 1).take (Tryz.prog.cellsOf 23))=some (y1.1,y1.2):=hf 1 _ rfl
 rw [show Tryz.prog.cellsOf 23=1 by kernel_rfl] at g1
 have q1:=opens_u64 g1
 have g2:DataW.trod enc Tryz.prog w 0 (fun _=>true) true m 9 ((([c0,c1,c2,c3]:List Value).drop 2).take (Tryz.prog.cellsOf 9))=some (y2.1,y2.2):=hf 2 _ rfl
 rw [show Tryz.prog.cellsOf 9=1 by kernel_rfl] at g2
 have q2:=opens_str1 g2 (hwp 2 _ rfl)
 have g3:DataW.trod enc Tryz.prog w 0 (fun _=>true) true m 23 ((([c0,c1,c2,c3]:List Value).drop 3).take (Tryz.prog.cellsOf 23))=some (y3.1,y3.2):=hf 3 _ rfl
 rw [show Tryz.prog.cellsOf 23=1 by kernel_rfl] at g3
 have q3:=opens_u64 g3
 obtain⟨s1,rfl,l1⟩:=q0
 obtain⟨n1,rfl,-⟩:=q1
 obtain⟨s2,rfl,l2⟩:=q2
 obtain⟨n2,rfl,-⟩:=q3
 exact⟨s1,n1,s2,n2,rfl,l1,l2⟩
theorem opens_planM {n:Nat} {c0 c1 c2 c3 c4 c5 c6 c7:Value} {D:DataW H} {p:List MemPlace} (htr:DataW.trod enc Tryz.prog w 0 (fun _=>true) true n 45 [c0,c1,c2,c3,c4,c5,c6,c7]=some (D,p)) (hw:Rows.uptoBulk D<=B) :
  ∃ x:Plan,[c0,c1,c2,c3,c4,c5,c6,c7]=planC x/\x.keeper.length<=B/\x.live.length<=B/\x.by_.length<=B/\x.owner.length<=B:=by
 obtain⟨xs,m,-,hx,hlen,hxl,hf⟩:=DataW.trod_struct Tryz.underlying45 htr
 obtain⟨y0,y1,y2,y3,y4,rfl⟩:=list5 hxl
 have hD:=congrArg Prod.fst hx
 simp only at hD
 clear hx
 subst hD
 have hwp:∀ (i:Nat) (d:DataW H),[y0.1,y1.1,y2.1,y3.1,y4.1][i]? = some d->Rows.uptoBulk d<=B:=fun i d h2=>bulk_part hw h2
 have g0:DataW.trod enc Tryz.prog w 0 (fun _=>true) true m 9 ((([c0,c1,c2,c3,c4,c5,c6,c7]:List Value).drop 0).take (Tryz.prog.cellsOf 9))=some (y0.1,y0.2):=hf 0 _ rfl
 rw [show Tryz.prog.cellsOf 9=1 by kernel_rfl] at g0
 have q0:=opens_str1 g0 (hwp 0 _ rfl)
 have g1:DataW.trod enc Tryz.prog w 0 (fun _=>true) true m 23 ((([c0,c1,c2,c3,c4,c5,c6,c7]:List Value).drop 1).take (Tryz.prog.cellsOf 23))=some (y1.1,y1.2):=hf 1 _ rfl
 rw [show Tryz.prog.cellsOf 23=1 by kernel_rfl] at g1
 have q1:=opens_u64 g1
 have g2:DataW.trod enc Tryz.prog w 0 (fun _=>true) true m 9 ((([c0,c1,c2,c3,c4,c5,c6,c7]:List Value).drop 2).take (Tryz.prog.cellsOf 9))=some (y2.1,y2.2):=hf 2 _ rfl
 rw [show Tryz.prog.cellsOf 9=1 by kernel_rfl] at g2
 have q2:=opens_str1 g2 (hwp 2 _ rfl)
 have g3:DataW.trod enc Tryz.prog w 0 (fun _=>true) true m 43 ((([c0,c1,c2,c3,c4,c5,c6,c7]:List Value).drop 3).take (Tryz.prog.cellsOf 43))=some (y3.1,y3.2):=hf 3 _ rfl
 rw [show Tryz.prog.cellsOf 43=4 by kernel_rfl] at g3
 have q3:=opens_prunedM g3 (hwp 3 _ rfl)
 have g4:DataW.trod enc Tryz.prog w 0 (fun _=>true) true m 4 ((([c0,c1,c2,c3,c4,c5,c6,c7]:List Value).drop 7).take (Tryz.prog.cellsOf 4))=some (y4.1,y4.2):=hf 4 _ rfl
 rw [show Tryz.prog.cellsOf 4=1 by kernel_rfl] at g4
 have q4:=opens_bool g4
 obtain⟨s1,rfl,l1⟩:=q0
 obtain⟨n1,rfl,-⟩:=q1
 obtain⟨s2,rfl,l2⟩:=q2
 obtain⟨s3,n3,s4,n4,e3,l3,l4⟩:=q3
 obtain⟨b1,rfl⟩:=q4
 simp only [List.cons.injEq,and_true] at e3
 obtain⟨rfl,rfl,rfl,rfl⟩:=e3
 exact⟨⟨s1,n1,s2,s3,n3,s4,n4,b1⟩,rfl,l1,l2,l3,l4⟩
def HugeM (B:Nat) (x:Mbr):Prop:=x.path.length<=B/\x.gone.length<=B/\(x.plan.keeper.length<=B/\x.plan.live.length<=B/\x.plan.by_.length<=B/\x.plan.owner.length<=B)/\(∀ s ∈ x.words,s.of.length<=B/\s.keeper.length<=B)/\x.words.length<=B
theorem opens_mbr:Opens B enc w 48 mbrT (HugeM B):=by
 intro n cs D p htr hw
 obtain⟨xs,m,-,hx,hlen,hxl,hf⟩:=DataW.trod_struct Tryz.underlying48 htr
 obtain⟨y0,y1,y2,y3,y4,y5,y6,y7,rfl⟩:=list8 hxl
 obtain⟨c0,c1,c2,c3,c4,c5,c6,c7,c8,c9,c10,c11,c12,c13,c14,rfl⟩:=list15 (hlen.trans (show Tryz.prog.cellsOf 48=15 by kernel_rfl))
 have hD:=congrArg Prod.fst hx
 simp only at hD
 clear hx
 subst hD
 have hwp:∀ (i:Nat) (d:DataW H),[y0.1,y1.1,y2.1,y3.1,y4.1,y5.1,y6.1,y7.1][i]? = some d->Rows.uptoBulk d<=B:=fun i d h2=>bulk_part hw h2
 have g0:DataW.trod enc Tryz.prog w 0 (fun _=>true) true m 9 ((([c0,c1,c2,c3,c4,c5,c6,c7,c8,c9,c10,c11,c12,c13,c14]:List Value).drop 0).take (Tryz.prog.cellsOf 9))=some (y0.1,y0.2):=hf 0 _ rfl
 rw [show Tryz.prog.cellsOf 9=1 by kernel_rfl] at g0
 have q0:=opens_str1 g0 (hwp 0 _ rfl)
 have g1:DataW.trod enc Tryz.prog w 0 (fun _=>true) true m 5 ((([c0,c1,c2,c3,c4,c5,c6,c7,c8,c9,c10,c11,c12,c13,c14]:List Value).drop 1).take (Tryz.prog.cellsOf 5))=some (y1.1,y1.2):=hf 1 _ rfl
 rw [show Tryz.prog.cellsOf 5=1 by kernel_rfl] at g1
 have q1:=opens_u8m g1
 have g2:DataW.trod enc Tryz.prog w 0 (fun _=>true) true m 3 ((([c0,c1,c2,c3,c4,c5,c6,c7,c8,c9,c10,c11,c12,c13,c14]:List Value).drop 2).take (Tryz.prog.cellsOf 3))=some (y2.1,y2.2):=hf 2 _ rfl
 rw [show Tryz.prog.cellsOf 3=1 by kernel_rfl] at g2
 have q2:=opens_i64 g2
 have g3:DataW.trod enc Tryz.prog w 0 (fun _=>true) true m 3 ((([c0,c1,c2,c3,c4,c5,c6,c7,c8,c9,c10,c11,c12,c13,c14]:List Value).drop 3).take (Tryz.prog.cellsOf 3))=some (y3.1,y3.2):=hf 3 _ rfl
 rw [show Tryz.prog.cellsOf 3=1 by kernel_rfl] at g3
 have q3:=opens_i64 g3
 have g4:DataW.trod enc Tryz.prog w 0 (fun _=>true) true m 23 ((([c0,c1,c2,c3,c4,c5,c6,c7,c8,c9,c10,c11,c12,c13,c14]:List Value).drop 4).take (Tryz.prog.cellsOf 23))=some (y4.1,y4.2):=hf 4 _ rfl
 rw [show Tryz.prog.cellsOf 23=1 by kernel_rfl] at g4
 have q4:=opens_u64 g4
 have g5:DataW.trod enc Tryz.prog w 0 (fun _=>true) true m 41 ((([c0,c1,c2,c3,c4,c5,c6,c7,c8,c9,c10,c11,c12,c13,c14]:List Value).drop 5).take (Tryz.prog.cellsOf 41))=some (y5.1,y5.2):=hf 5 _ rfl
 rw [show Tryz.prog.cellsOf 41=1 by kernel_rfl] at g5
 have q5:=opens_spans _ _ _ _ g5 (hwp 5 _ rfl)
 have g6:DataW.trod enc Tryz.prog w 0 (fun _=>true) true m 45 ((([c0,c1,c2,c3,c4,c5,c6,c7,c8,c9,c10,c11,c12,c13,c14]:List Value).drop 6).take (Tryz.prog.cellsOf 45))=some (y6.1,y6.2):=hf 6 _ rfl
 rw [show Tryz.prog.cellsOf 45=8 by kernel_rfl] at g6
 have q6:=opens_planM g6 (hwp 6 _ rfl)
 have g7:DataW.trod enc Tryz.prog w 0 (fun _=>true) true m 46 ((([c0,c1,c2,c3,c4,c5,c6,c7,c8,c9,c10,c11,c12,c13,c14]:List Value).drop 14).take (Tryz.prog.cellsOf 46))=some (y7.1,y7.2):=hf 7 _ rfl
 rw [show Tryz.prog.cellsOf 46=1 by kernel_rfl] at g7
 have q7:=opens_words _ _ _ _ g7 (hwp 7 _ rfl)
 obtain⟨s1,rfl,l1⟩:=q0
 obtain⟨n1,rfl⟩:=q1
 obtain⟨k1,rfl⟩:=q2
 obtain⟨k2,rfl⟩:=q3
 obtain⟨n2,rfl,-⟩:=q4
 obtain⟨gs,⟨v1,e1,hv1⟩,-,lg⟩:=q5
 obtain⟨P,e2,lp⟩:=q6
 obtain⟨ws,⟨v2,e3,hv2⟩,hw2,lw⟩:=q7
 have f1:c5=v1:=by simpa using e1
 have f3:c14=v2:=by simpa using e3
 simp only [planC,List.cons.injEq,and_true] at e2
 obtain⟨rfl,rfl,rfl,rfl,rfl,rfl,rfl,rfl⟩:=e2
 subst f1 f3
 exact⟨⟨s1,n1,k1,k2,n2,gs,P,ws⟩,⟨_,_,rfl,hv1,hv2⟩,l1,lg,lp,hw2,lw⟩
theorem opens_mbrs:Opens B enc w 22 (slT mbrT (by decide)) (fun l=>(∀ a ∈ l,HugeM B a)/\l.length<=B) :=
 opens_slice (by decide) Tryz.underlying22 (by kernel_rfl) opens_mbr
theorem huge_of {l:List Mbr} (h:∀ a ∈ l,HugeM B a) (hB:B<=1125899906842624):HugeOk l:=by
 refine ⟨fun x hx=>?_,fun x hx=>?_,fun x hx=>?_,fun x hx=>?_,fun x hx=>?_,fun x hx=>?_,fun x hx s hs=>?_,fun x hx=>?_⟩ <;> obtain⟨h1,h2,⟨h3,h4,h5,h6⟩,h7,h8⟩:=h x hx
 ·omega
 ·omega
 ·omega
 ·omega
 ·omega
 ·omega
 ·have:=h7 s hs;omega
 ·omega
theorem open_members {r:Reach} {b0:Nat} {v:Value} {d:DataW H} {ps:List MemPlace} (hval:Value.okWide Tryz.prog w r b0 22 v) (h:DataW.Trod enc Tryz.prog w 0 (fun _=>true) true 22 v d ps)
  (hw:Rows.uptoBulk d<=B):∃ l,Sl mbrT w (fun _=>True) v l/\∀ a ∈ l,HugeM B a:=by
 obtain⟨n,hn⟩:=h
 obtain⟨l,⟨v1,e,h1⟩,h2,-⟩:=opens_mbrs _ _ _ _ hn hw
 obtain⟨a,len,cap,rfl⟩:=okWide_slice Tryz.underlying22 hval
 have f1:Value.slice a len cap=v1:=by simpa [Value.cells] using e
 subst f1
 exact⟨l,h1,h2⟩
theorem open_u64 {r:Reach} {b0:Nat} {v:Value} {d:DataW H} {ps:List MemPlace} (hval:Value.okWide Tryz.prog w r b0 23 v) (h:DataW.Trod enc Tryz.prog w 0 (fun _=>true) true 23 v d ps) :
  ∃ n:Nat,v=U n:=by
 obtain⟨i,rfl,-,-,hw⟩:=open_int Tryz.underlying23 hval h
 have hb:(decide (IntKind.u64.min<=i) && decide (i<=IntKind.u64.max))=true:=hw
 simp only [Bool.and_eq_true,decide_eq_true_eq] at hb
 have h1:(0:Int)<=i:=hb.1
 refine ⟨i.toNat,?_⟩
 show Value.int .u64 i=Value.int .u64 ((i.toNat:Nat):Int)
 rw [Int.toNat_of_nonneg h1]
end
end
end Go.Proofs.YtblkikjmocnllaaGreatDoor
