/- gossamerlaw16.model: the walk. Printed by gen_model.py. -/
import Derived.Test.YtdikcgmdmcfpfaaGreatMo35
import Derived.Deep.OwnRows
import Derived.Laws.OwnMore
set_option linter.unusedVariables false
set_option linter.unusedSimpArgs false
set_option maxRecDepth 100000
set_option maxHeartbeats 40000000
namespace Go.Proofs.YtdikcgmdmcfpfaaGreat
section
open Go.RowKit Go.Shelf
theorem zy7 (W:World) (z:Value) (n:Nat) (T:TypeId):RowIs (W.alloc (.cells (madeCells #[z] n) T)) W.heap.size T (List.replicate n z) []:=by
 unfold RowIs
 rw [List.append_nil,Go.heap_alloc_new,show madeCells #[z] n=(List.replicate n z).toArray from ?_]
 refine Array.ext (by simp [madeCells]) fun i h1 h2=>?_
 simp [madeCells,Nat.mod_one]
theorem zlh {w:World} {S:Nat→Prop} {A:Option Addr} {n c k:Nat} {l pre post:List Ev} {m:Ev} (h:Sl evT w S (.slice A n c) l) (hl:l=pre++m :: post) (hp:pre.length=k) :
  ∃ b o v,A=some ⟨b,o,none⟩∧Sl boolT w S v m.kn∧∀ X,Ext w X→X.cell? ⟨b,o+k * 5,none⟩=some (St m.key)∧X.cell? ⟨b,o+k * 5+1,none⟩=some (I m.n)∧X.cell? ⟨b,o+k * 5+2,none⟩=some (K8 m.op) ∧
   X.cell? ⟨b,o+k * 5+3,none⟩=some (St m.tx)∧X.cell? ⟨b,o+k * 5+4,none⟩=some v:=by
 subst hp
 obtain⟨b,o,vs,c',hv,hS,⟨v,rfl,hk⟩,hc⟩:=h.at_ hl
 injection hv with e1 e2 e3
 subst e1
 exact⟨b,o,v,rfl,hk,fun X hb=>⟨hb.cell (hc 0 _ rfl),hb.cell (hc 1 _ rfl),hb.cell (hc 2 _ rfl),hb.cell (hc 3 _ rfl),hb.cell (hc 4 _ rfl)⟩⟩
theorem zet {α:Type} {l:List α} {m:Nat} {e:α} (h:l[m]? = some e):l=l.take m++e :: l.drop (m+1)∧(l.take m).length=m:=by
 obtain⟨h1,h2⟩:=List.getElem?_eq_some_iff.1 h
 exact⟨by rw [← h2,List.getElem_cons_drop,List.take_append_drop],by rw [List.length_take];omega⟩
theorem zli {w wr:World} {S:Nat→Prop} {A:Option Addr} {n c i:Nat} {l:List Bool} {b:Bool} (h:Sl boolT w S (.slice A n c) l) (he:Ext w wr) (hi:l[i]? = some b):∃ g o,A=some ⟨g,o,none⟩∧wr.cell? ⟨g,o+i,none⟩=some (.bool b):=by
 obtain⟨hs,hl⟩:=zet hi
 obtain⟨g,o,vs,c',hv,-,rfl,hc⟩:=h.at_ hs
 injection hv with e1 e2 e3
 subst e1
 refine ⟨g,o,rfl,he.cell ?_⟩
 have:=hc 0 _ rfl
 rw [hl,show boolT.k=1 from rfl,Nat.mul_one,Nat.add_zero] at this
 exact this
theorem zpk:IntKind.u8.wrap (((({ data:=#[97] }:ByteArray)[0]).toNat:Int) - 97)=0:=by decide
theorem zpl:IntKind.u8.wrap (((({ data:=#[98] }:ByteArray)[0]).toNat:Int) - 97)=1:=by decide
attribute [local go_sem] zpk zpl
def zfl:List Bool→Code→Code
 | [],c=>c
 | false :: p,.seq a _=>zfl p a
 | true :: p,.seq _ b=>zfl p b
 | _ :: p,.block _ c=>zfl p c
 | _ :: p,.loop c=>zfl p c
 | false :: p,.cond _ a _=>zfl p a
 | true :: p,.cond _ _ b=>zfl p b
 | _,c=>c
def zfq:Option Nat→Int
 | none=>-1
 | some j=>j
structure ModAt (w wr:World) (E:List Ev) (V:Vec) (m:Nat) (j:Option Nat) (a b:Bool):Prop where
 last:zeh E V m j
 low:∀ i,j=some i→i < m
 row:RowIs wr (w.heap.size+1+1) 3 (rowM E m) []
 box:RowIs wr (w.heap.size+1) 108 [.bool a,.bool b] []
 res:RowIs wr w.heap.size 108 [.bool false,.bool false] []
 ha:a=true↔zd7 E V m [97]
 hb:b=true↔zd7 E V m [98]
 ext:Ext w wr
structure ModIn (w wr:World) (X:List Value) (a b:Bool):Prop where
 row:RowIs wr (w.heap.size+1+1) 3 X []
 box:RowIs wr (w.heap.size+1) 108 [.bool a,.bool b] []
 res:RowIs wr w.heap.size 108 [.bool false,.bool false] []
 ext:Ext w wr
theorem ModIn.on {w wr W:World} {X:List Value} {a b:Bool} (h:ModIn w wr X a b) (hx:Ext wr W):ModIn w W X a b:=⟨h.row.ext hx,h.box.ext hx,h.res.ext hx,h.ext.trans hx⟩
theorem ModIn.set {w wr:World} {X:List Value} {a b:Bool} (h:ModIn w wr X a b) {m:Nat} (hm:m < X.length) (v:Value):ModIn w (wr.setCell ⟨w.heap.size+1+1,m,none⟩ v) (X.set m v) a b :=
 ⟨h.row.set hm v,h.box.other (by simp) v,h.res.other (by simp;omega) v,h.ext.set (by simp;omega) v⟩
theorem zj1 {E:List Ev} {V:Vec} {m:Nat} {e:Ev} (he:E[m]? = some e) (h:¬ (zaf V e=true∧e.op=1)):sumM V (E.take (m+1))=sumM V (E.take m):=by rw [zhf he,zk1,if_neg h,Int.add_zero]
theorem yad {E:List Ev} {V:Vec} {m:Nat} {e:Ev} (he:E[m]? = some e) (h:zaf V e=true∧e.op=1):sumM V (E.take (m+1))=sumM V (E.take m)+e.n:=by rw [zhf he,zk1,if_pos h]
theorem zhr {E:List Ev} {V:Vec} {m:Nat} {e:Ev} (he:E[m]? = some e) (h:¬ (zaf V e=true∧e.op=2)) (t:Str):zd7 E V (m+1) t↔zd7 E V m t:=by
 rw [zfk he]
 exact⟨fun k=>k.elim id fun k=>absurd ⟨k.1,k.2.1⟩ h,.inl⟩
theorem ModAt.keep {w wr W:World} {E:List Ev} {V:Vec} {m:Nat} {j:Option Nat} {a b:Bool} {e:Ev} (h:ModAt w wr E V m j a b) (hi:ModIn w W (rowM E (m+1)) a b) (he:E[m]? = some e) (h4:¬ (zaf V e=true∧e.op=4)) (h2:¬ (zaf V e=true∧e.op=2)):ModAt w W E V (m+1) j a b :=
 ⟨zl4 h.last he h4,fun i hi=>Nat.lt_succ_of_lt (h.low i hi),hi.row,hi.box,hi.res,h.ha.trans (zhr he h2 _).symm,h.hb.trans (zhr he h2 _).symm,hi.ext⟩
theorem ModAt.put {w wr W:World} {E:List Ev} {V:Vec} {m:Nat} {j:Option Nat} {a b a' b':Bool} {e:Ev} (h:ModAt w wr E V m j a b) (hi:ModIn w W (rowM E (m+1)) a' b') (he:E[m]? = some e) (h4:¬ (zaf V e=true∧e.op=4)) (ha:a'=true↔zd7 E V (m+1) [97]) (hb:b'=true↔zd7 E V (m+1) [98]):ModAt w W E V (m+1) j a' b' :=
 ⟨zl4 h.last he h4,fun i hi=>Nat.lt_succ_of_lt (h.low i hi),hi.row,hi.box,hi.res,ha,hb,hi.ext⟩
theorem ModAt.write {w wr W:World} {E:List Ev} {V:Vec} {m:Nat} {j:Option Nat} {a b:Bool} {e:Ev} {i:Nat} (h:ModAt w wr E V m j a b) (hi:ModIn w W (rowM E (m+1)) a b) (he:E[m]? = some e) (ho:e.op=4) (hl:zeh E V (m+1) (some i)) (hs:i≤m):ModAt w W E V (m+1) (some i) a b :=
 ⟨hl,fun i hi=>by cases hi;omega,hi.row,hi.box,hi.res,h.ha.trans (zhr he (by omega) _).symm,h.hb.trans (zhr he (by omega) _).symm,hi.ext⟩
theorem ModIn.set0 {w wr:World} {X:List Value} {a b:Bool} (h:ModIn w wr X a b) (v:Bool):ModIn w (wr.setCell ⟨w.heap.size+1,0,none⟩ (.bool v)) X v b :=
 ⟨h.row.other (by simp) _,h.box.set (j:=0) (by simp) _,h.res.other (by simp) _,h.ext.set (by simp) _⟩
theorem ModIn.set1 {w wr:World} {X:List Value} {a b:Bool} (h:ModIn w wr X a b) (v:Bool):ModIn w (wr.setCell ⟨w.heap.size+1,1,none⟩ (.bool v)) X a v :=
 ⟨h.row.other (by simp) _,h.box.set (j:=1) (by simp) _,h.res.other (by simp) _,h.ext.set (by simp) _⟩
end
end Go.Proofs.YtdikcgmdmcfpfaaGreat
