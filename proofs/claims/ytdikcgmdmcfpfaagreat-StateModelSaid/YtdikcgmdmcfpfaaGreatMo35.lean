/- Contracts and plain laws. -/
import Derived.Test.YtdikcgmdmcfpfaaGreatMo34
import Derived.Test.YtdikcgmdmcfpfaaGreatMo01
import Derived.Test.YtdikcgmdmcfpfaaGreatMo26
import Derived.Test.YtdikcgmdmcfpfaaGreatMo24
import Derived.Test.YtdikcgmdmcfpfaaGreatMo29
import Derived.Test.YtdikcgmdmcfpfaaGreatMo05
import Derived.Test.YtdikcgmdmcfpfaaGreatMo28
set_option linter.unusedVariables false
set_option linter.unusedSimpArgs false
set_option maxRecDepth 100000
set_option maxHeartbeats 40000000
namespace Go.Proofs.YtdikcgmdmcfpfaaGreat
section
open Go.RowKit
structure Rep where
 s:State
 knew:List Bool
 asked:List Mark
def rep0:Rep:=⟨zba,[],[]⟩
def zbn (k:Nat):Str:=[49,46,UInt8.ofNat (49+k)]
theorem zo0 {i j:Nat} (hi:i < 16) (hj:j < 16) (h:zbn i=zbn j):i=j:=by
 unfold zbn at h
 simp only [List.cons.injEq,true_and,and_true] at h
 have h1:=congrArg UInt8.toNat h
 simp only [UInt8.toNat_ofNat',Nat.reducePow] at h1
 omega
theorem zqw (k:Nat):zbn k ≠ []:=by simp [zbn]
def zi4 (n:Nat):List Str:=(List.range n).map zbn
structure RepOk (E:List Ev) (n:Nat) (r:Rep):Prop where
 is:IsS E [] r.s
 paths:∀ p,ofM r.s.all p ≠ 0→p ∈ zi4 n
 most:∀ p,ofM r.s.all p≤E.length
 knew:r.knew=E.map (zaf (vecS r.s))
 asked:∀ p,ofM r.asked p≤ofM r.s.all p
 askedG:GoodM r.asked
structure RepsOk (E:List Ev) (n:Nat) (rs:List Rep):Prop where
 hist:HistOk E
 len:rs.length=n
 few:n≤4
 each:∀ (k:Nat) (r:Rep),rs[k]? = some r→RepOk E n r
 own:∀ (k:Nat) (r:Rep),rs[k]? = some r→∀ e ∈ E,e.path=zbn k→zaf (vecS r.s) e=true
 top:∀ (k:Nat) (r:Rep) (j:Nat) (q:Rep),rs[k]? = some r→rs[j]? = some q→ofM q.s.all (zbn k)≤ofM r.s.all (zbn k)
theorem RepOk.vec {E:List Ev} {n:Nat} {r:Rep} (h:RepOk E n r) (hn:n≤4) (hl:E.length≤200):VecOk (zi4 n) r.s :=
 ⟨h.paths,by simp [zi4];omega,fun p=>by have:=h.most p;omega⟩
theorem RepsOk.zero {n:Nat} (hn:n≤4):RepsOk [] n (List.replicate n rep0) where
 hist:=zyu
 len:=by simp
 few:=hn
 each k r h:=by
  have:=List.eq_of_mem_replicate (List.mem_of_getElem? h)
  subst this
  exact⟨IsS.nil,fun p hp=>absurd (zfd p) hp,fun p=>Nat.le_of_eq (zfd p),rfl,fun p=>Nat.le_refl _,zkf⟩
 own k r h e he:=by cases he
 top k r j q h1 h2:=by
  have:=List.eq_of_mem_replicate (List.mem_of_getElem? h1)
  subst this
  have:=List.eq_of_mem_replicate (List.mem_of_getElem? h2)
  subst this
  exact Nat.le_refl _
theorem zci {α:Type} {l:List α} {k i:Nat} {x y:α} (h:(l.set k x)[i]? = some y):(i=k∧y=x∧k < l.length) ∨ (i ≠ k∧l[i]? = some y):=by
 rw [List.getElem?_set] at h
 by_cases hik:k=i
 ·rw [if_pos hik] at h
  by_cases hl:k < l.length
  ·rw [if_pos (by omega)] at h;exact .inl ⟨hik.symm,(Option.some.inj h).symm,hl⟩
  ·rw [if_neg (by omega)] at h;cases h
 ·rw [if_neg hik] at h;exact .inr ⟨fun e=>hik e.symm,h⟩
def askR (rs:List Rep) (k:Nat):List Rep:=match rs[k]? with | some r=>rs.set k { r with asked:=r.s.all } | none=>rs
theorem RepsOk.ask {E:List Ev} {n:Nat} {rs:List Rep} (h:RepsOk E n rs) (k:Nat):RepsOk E n (askR rs k):=by
 unfold askR
 cases hk:rs[k]? with
 | none=>exact h
 | some r =>
  have hr:=h.each k r hk
  refine ⟨h.hist,by simp [h.len],h.few,fun i q hi=>?_,fun i q hi=>?_,fun i q j t hi hj=>?_⟩
  ·rcases zci hi with ⟨-,rfl,-⟩ | ⟨-,hi⟩
   ·exact⟨hr.is,hr.paths,hr.most,hr.knew,fun p=>Nat.le_refl _,hr.is.all⟩
   ·exact h.each i q hi
  ·rcases zci hi with ⟨rfl,rfl,-⟩ | ⟨-,hi⟩
   ·exact h.own i r hk
   ·exact h.own i q hi
  ·have old:∀ {i:Nat} {q:Rep},(rs.set k { r with asked:=r.s.all })[i]? = some q→∃ q',rs[i]? = some q'∧q'.s=q.s:=fun {i q} hi=>by
    rcases zci hi with ⟨rfl,rfl,-⟩ | ⟨-,hi⟩
    ·exact⟨r,hk,rfl⟩
    ·exact⟨q,hi,rfl⟩
   obtain⟨q',h1,e1⟩:=old hi
   obtain⟨t',h2,e2⟩:=old hj
   rw [← e1,← e2]
   exact h.top i q' j t' h1 h2
def orL (a b:List Bool):List Bool:=List.zipWith (fun x y=>x || y) a b
def zle (rs:List Rep) (k o:Nat):List Rep:=match rs[k]?,rs[o]? with | some r,some q=>rs.set k { r with s:=zca r.s q.s,knew:=orL r.knew q.knew } | _,_=>rs
theorem zsb:Lib.compact (zbk (([]:List Str)++[])) = []:=by unfold zbk;simp [Lib.compact];rfl
theorem RepsOk.join {E:List Ev} {n:Nat} {rs:List Rep} (h:RepsOk E n rs) (k o:Nat):RepsOk E n (zle rs k o):=by
 unfold zle
 cases hk:rs[k]? with
 | none=>exact h
 | some r =>
  cases ho:rs[o]? with
  | none=>exact h
  | some q =>
   have hr:=h.each k r hk
   have hq:=h.each o q ho
   have hv:=zip r.s q.s
   have hall:∀ p,ofM (zca r.s q.s).all p=max (ofM r.s.all p) (ofM q.s.all p):=fun p=>ze6 _ _ p
   refine ⟨h.hist,by simp [h.len],h.few,fun i x hi=>?_,fun i x hi=>?_,fun i x j t hi hj=>?_⟩
   ·rcases zci hi with ⟨-,rfl,-⟩ | ⟨-,hi⟩
    ·refine ⟨hr.is.join h.hist.toHist hq.is zsb,fun p hp=>?_,fun p=>?_,?_,fun p=>?_,hr.askedG⟩
     ·simp only [hall] at hp
      by_cases h1:ofM r.s.all p=0
      ·exact hq.paths p (by omega)
      ·exact hr.paths p h1
     ·simp only [hall];have:=hr.most p;have:=hq.most p;omega
     ·simp only
      rw [hv,hr.knew,hq.knew]
      unfold orL
      refine List.ext_getElem? fun m=>?_
      simp only [List.getElem?_zipWith,List.getElem?_map]
      cases E[m]? with
      | none=>rfl
      | some e=>simp [za9]
     ·simp only [hall];have:=hr.asked p;omega
    ·exact h.each i x hi
   ·rcases zci hi with ⟨rfl,rfl,-⟩ | ⟨-,hi⟩
    ·intro e he hp
     simp only
     rw [hv,za9,h.own i r hk e he hp,Bool.true_or]
    ·exact h.own i x hi
   ·rcases zci hi with ⟨rfl,rfl,-⟩ | ⟨-,hi2⟩
    ·simp only [hall]
     rcases zci hj with ⟨rfl,rfl,-⟩ | ⟨-,hj⟩
     ·simp only [hall];exact Nat.le_refl _
     ·have:=h.top i r j t hk hj;omega
    ·rcases zci hj with ⟨rfl,rfl,-⟩ | ⟨-,hj⟩
     ·simp only [hall]
      have:=h.top i x _ r hi2 hk
      have:=h.top i x o q hi2 ho
      omega
     ·exact h.top i x j t hi2 hj
def updR (E:List Ev) (rs:List Rep) (k:Nat) (key:Str) (o:Nat) (n:Int) (tx:Str):List Ev × List Rep :=
 match rs[k]? with
 | some r=>(E++[newE E (vecS r.s) key n o tx (zbn k)],(rs.mapIdx fun i q=>if i=k then { q with s:=(updS r.s (zbn k) (o,key,n,tx)).1,knew:=q.knew++[true] } else { q with knew:=q.knew++[false] }))
 | none=>(E,rs)
theorem RepsOk.upd {E:List Ev} {n:Nat} {rs:List Rep} (h:RepsOk E n rs) {k:Nat} (hk:k < n) (hl:E.length < 200) {key tx:Str} {o:Nat} {m:Int} (ho:OpOk key o m tx) :
  (∃ r,rs[k]? = some r∧(updS r.s (zbn k) (o,key,m,tx)).2=0)∧RepsOk (updR E rs k key o m tx).1 n (updR E rs k key o m tx).2:=by
 have hkr:k < rs.length:=by rw [h.len];exact hk
 have hkr:rs[k]? = some rs[k]:=List.getElem?_eq_getElem hkr
 generalize rs[k]=r at hkr
 have hr:=h.each k r hkr
 have hfew:=h.few
 have hmost:=hr.most (zbn k)
 obtain⟨u1,u2,u3⟩:=hr.is.upd h.hist (hr.vec h.few h.hist.most) (by intro p hp;cases hp) .nil ho (zqw k) (h.own k r hkr) (by omega)
 refine ⟨⟨r,hkr,u1⟩,?_⟩
 have hE:updR E rs k key o m tx=(E++[newE E (vecS r.s) key m o tx (zbn k)],(rs.mapIdx fun i q=>if i=k then { q with s:=(updS r.s (zbn k) (o,key,m,tx)).1,knew:=q.knew++[true] } else { q with knew:=q.knew++[false] })):=by
  unfold updR;rw [hkr]
 rw [hE]
 have hH:=h.hist.next hr.is.closed ho (zqw k) (h.own k r hkr) hl
 generalize (updS r.s (zbn k) (o,key,m,tx)).1=s' at *
 have hvec:∀ p,ofM s'.all p=zck (vecS r.s) (zbn k) p:=fun p=>congrFun u3 p
 have hnew:∀ j q,j ≠ k→rs[j]? = some q→zaf (vecS q.s) (newE E (vecS r.s) key m o tx (zbn k))=false:=fun j q hj hq=>by
  have:=h.top k r j q hkr hq
  unfold zaf newE
  simp only [decide_eq_false_iff_not,vecS]
  omega
 have at_:∀ {i:Nat} {x:Rep},(rs.mapIdx fun i q=>if i=k then { q with s:=s',knew:=q.knew++[true] } else { q with knew:=q.knew++[false] })[i]? = some x→(i=k∧x = { r with s:=s',knew:=r.knew++[true] }) ∨ (i ≠ k∧∃ q,rs[i]? = some q∧x = { q with knew:=q.knew++[false] }):=by
  intro i x hx
  rw [List.getElem?_mapIdx] at hx
  by_cases hi:i=k
  ·subst hi
   rw [hkr] at hx
   simp only [Option.map_some,if_true,Option.some.injEq] at hx
   exact .inl ⟨rfl,hx.symm⟩
  ·cases hq:rs[i]? with
   | none=>rw [hq] at hx;cases hx
   | some q =>
    rw [hq] at hx
    simp only [Option.map_some,if_neg hi,Option.some.injEq] at hx
    exact .inr ⟨hi,q,rfl,hx.symm⟩
 refine ⟨hH,by simp [h.len],h.few,fun i x hx=>?_,fun i x hx=>?_,fun i x j t hx ht=>?_⟩
 ·rcases at_ hx with ⟨rfl,rfl⟩ | ⟨hi,q,hq,rfl⟩
  ·refine ⟨u2,fun p hp=>?_,fun p=>?_,?_,fun p=>?_,hr.askedG⟩
   ·simp only [hvec] at hp
    unfold zck at hp
    by_cases hpk:p=zbn i
    ·subst hpk;exact List.mem_map.2 ⟨i,List.mem_range.2 hk,rfl⟩
    ·rw [if_neg hpk] at hp;exact hr.paths p hp
   ·simp only [hvec,List.length_append,List.length_cons,List.length_nil]
    unfold zck
    have:=hr.most p
    have:=hr.most (zbn i)
    simp only [vecS]
    split <;> omega
   ·simp only
    rw [u3,hr.knew,List.map_append,List.map_cons,List.map_nil,zdk]
    congr 1
    exact List.map_congr_left fun e he=>(zbd (h.own i r hkr) he).symm
   ·simp only [hvec]
    unfold zck
    have:=hr.asked p
    simp only [vecS]
    split
    ·rename_i hpk;subst hpk;omega
    ·exact this
  ·have hq':=h.each i q hq
   refine ⟨hq'.is.other h.hist.toHist (hnew i q hi hq),hq'.paths,fun p=>?_,?_,hq'.asked,hq'.askedG⟩
   ·simp only [List.length_append,List.length_cons,List.length_nil];have:=hq'.most p;omega
   ·simp only
    rw [hq'.knew,List.map_append,List.map_cons,List.map_nil,hnew i q hi hq]
 ·intro e he hp
  rcases at_ hx with ⟨rfl,rfl⟩ | ⟨hi,q,hq,rfl⟩
  ·simp only
   rw [u3]
   rcases List.mem_append.1 he with he | he
   ·rw [zbd (h.own i r hkr) he];exact h.own i r hkr e he hp
   ·simp only [List.mem_singleton] at he;subst he;exact zdk
  ·rcases List.mem_append.1 he with he | he
   ·exact h.own i q hq e he hp
   ·simp only [List.mem_singleton] at he;subst he
    have hin:i < n:=by have:=(List.getElem?_eq_some_iff.1 hq).1;rwa [h.len] at this
    exact absurd (zo0 (by omega) (by omega) hp).symm hi
 ·have le_next:∀ p,ofM r.s.all p≤ofM s'.all p:=fun p=>by
   rw [hvec];unfold zck;simp only [vecS];split
   ·rename_i hpk;subst hpk;omega
   ·exact Nat.le_refl _
  rcases at_ hx with ⟨rfl,rfl⟩ | ⟨hi,q,hq,rfl⟩
  ·rcases at_ ht with ⟨rfl,rfl⟩ | ⟨hj,q2,hq2,rfl⟩
   ·exact Nat.le_refl _
   ·have:=h.top i r j q2 hkr hq2
    have:=le_next (zbn i)
    simp only
    omega
  ·have hin:i < n:=by have:=(List.getElem?_eq_some_iff.1 hq).1;rwa [h.len] at this
   rcases at_ ht with ⟨rfl,rfl⟩ | ⟨hj,q2,hq2,rfl⟩
   ·have:=h.top i q j r hq hkr
    simp only
    rw [hvec]
    unfold zck
    rw [if_neg fun e=>hi (zo0 (by omega) (by omega) e)]
    exact this
   ·exact h.top i q j q2 hq hq2
end
section
open Go.RowKit
def zco (b:Bool):List Value:=[.bool b]
abbrev boolT:Shape Bool:=flat 1 zco (fun _=>rfl) (fun _ u hu=>by simp [zco] at hu;rcases hu with rfl;rfl)
def evT:Shape Ev where
 k:=5
 rd w S x vs:=∃ v,vs = [St x.key,I x.n,K8 x.op,St x.tx,v]∧Sl boolT w S v x.kn
 len h:=by obtain⟨_,rfl,-⟩:=h;rfl
 one h:=by
  obtain⟨v,rfl,h⟩:=h
  intro u hu
  simp at hu
  rcases hu with rfl | rfl | rfl | rfl | rfl
  ·rfl
  ·rfl
  ·rfl
  ·rfl
  ·exact h.one
 keep h hs:=by obtain⟨v,rfl,h⟩:=h;exact⟨v,rfl,h.keep (by decide) hs⟩
 mono h hs:=by obtain⟨v,rfl,h⟩:=h;exact⟨v,rfl,h.mono (by decide) hs⟩
structure RepV where
 s1:Value
 s2:Value
 s3:Value
 kn:Value
 ask:Value
def RepV.cells (v:RepV):List Value:=[v.s1,v.s2,v.s3,v.kn,v.ask]
def Free (R:Nat) (vs:List RepV) (va:Value) (b:Nat):Prop:=b ≠ R∧(∀ v ∈ vs,¬ zab v.kn b)∧¬ zab va b
structure RepAt (W:World) (base:Nat) (F:Nat→Prop) (v:RepV) (r:Rep):Prop where
 st:StAt W F r.s v.s1 v.s2 v.s3
 kn:Own W base 4 1 v.kn r.knew.length (r.knew.flatMap zco)
 ask:Sl markT W F v.ask r.asked
structure Mem (W:World) (base R:Nat) (vs:List RepV) (rs:List Rep) (va:Value) (E:List Ev):Prop where
 row:RowIs W R 58 (vs.flatMap RepV.cells) []
 len:vs.length=rs.length
 lo:base≤R
 rep:∀ (k:Nat) (v:RepV) (r:Rep),vs[k]? = some v→rs[k]? = some r→RepAt W base (Free R vs va) v r
 noR:∀ v ∈ vs,¬ zab v.kn R
 apart:∀ (i j:Nat) (v u:RepV) (b:Nat),i ≠ j→vs[i]? = some v→vs[j]? = some u→zab v.kn b→¬ zab u.kn b
 noEv:∀ v ∈ vs,∀ b,zab v.kn b→¬ zab va b
 evR:¬ zab va R
 ev:OwnL evT 167 W base (Free R vs va) va E
section
variable {W W':World} {base R:Nat} {vs:List RepV} {rs:List Rep} {va:Value} {E:List Ev}
theorem RepAt.ext {F:Nat→Prop} {v:RepV} {r:Rep} (h:RepAt W base F v r) (he:Ext W W'):RepAt W' base F v r:=⟨h.st.ext he,h.kn.ext he,h.ask.ext (by decide) he⟩
theorem RepAt.mono {F F':Nat→Prop} {v:RepV} {r:Rep} (h:RepAt W base F v r) (hf:∀ b,b < W.heap.size→F b→F' b):RepAt W base F' v r:=⟨h.st.mono hf,h.kn,h.ask.mono (by decide) hf⟩
theorem RepAt.keep {F:Nat→Prop} {v:RepV} {r:Rep} (h:RepAt W base F v r) (hs:∀ b,F b→b < W.heap.size→W'.heap[b]? = W.heap[b]?) (hk:∀ b,zab v.kn b→b < W.heap.size→W'.heap[b]? = W.heap[b]?):RepAt W' base F v r:=⟨h.st.keep hs,h.kn.keep hk,h.ask.keep (by decide) hs⟩
theorem RepAt.move {F F':Nat→Prop} {v:RepV} {r:Rep} (h:RepAt W base F v r) (hs:∀ b,F b→b < W.heap.size→W'.heap[b]? = W.heap[b]?∧F' b) (hk:∀ b,zab v.kn b→b < W.heap.size→W'.heap[b]? = W.heap[b]?):RepAt W' base F' v r :=
 (((h.mono (F':=fun b=>F b∧b < W.heap.size) fun b hb hf=>⟨hf,hb⟩).keep (fun b hb hl=>(hs b hb.1 hl).1) hk)).mono fun b _ hb=>(hs b hb.1 hb.2).2
theorem OwnL.move {α:Type} {T:Shape α} {tid:Nat} {S S':Nat→Prop} {v:Value} {l:List α} (h:OwnL T tid W base S v l) (hs:∀ b,S b→b < W.heap.size→W'.heap[b]? = W.heap[b]?∧S' b) (ho:∀ b,zab v b→b < W.heap.size→W'.heap[b]? = W.heap[b]?):OwnL T tid W' base S' v l :=
 (((h.mono (S':=fun b=>S b∧b < W.heap.size) fun b hb hf=>⟨hf,hb⟩).keep (fun b hb hl=>(hs b hb.1 hl).1) ho)).mono fun b _ hb=>(hs b hb.1 hb.2).2
theorem Mem.ext (h:Mem W base R vs rs va E) (he:Ext W W'):Mem W' base R vs rs va E :=
 ⟨h.row.ext he,h.len,h.lo,fun k v r hv hr=>(h.rep k v r hv hr).ext he,h.noR,h.apart,h.noEv,h.evR,h.ev.ext he⟩
theorem Mem.bl (h:Mem W base R vs rs va E):base≤W.heap.size:=Nat.le_trans h.lo (Nat.le_of_lt h.row.lt)
theorem Mem.lt_kn (h:Mem W base R vs rs va E) {v:RepV} (hv:v ∈ vs) {b:Nat} (hb:zab v.kn b):b < W.heap.size:=by
 obtain⟨k,hk⟩:=List.mem_iff_getElem?.1 hv
 have hkl:=(List.getElem?_eq_some_iff.1 hk).1
 obtain⟨r,hr⟩:∃ r,rs[k]? = some r:=⟨_,List.getElem?_eq_getElem (by rw [← h.len];exact hkl)⟩
 exact ((h.rep k v r hk hr).kn.base_le hb).2
theorem Mem.free_new (h:Mem W base R vs rs va E) {b:Nat} (hb:W.heap.size≤b):Free R vs va b :=
 ⟨fun e=>by have:=h.row.lt;omega,fun v hv ho=>by have:=h.lt_kn hv ho;omega,fun ho=>by have:=(h.ev.base_le ho).2;omega⟩
theorem Mem.get (h:Mem W base R vs rs va E) {k:Nat} {r:Rep} (hr:rs[k]? = some r):∃ v,vs[k]? = some v∧RepAt W base (Free R vs va) v r:=by
 have hk:=(List.getElem?_eq_some_iff.1 hr).1
 have hv:vs[k]? = some (vs[k]'(by rw [h.len];exact hk)):=List.getElem?_eq_getElem _
 exact⟨_,hv,h.rep k _ r hv hr⟩
theorem zi5:∀ (vs:List RepV) (k j:Nat) (v:RepV) (u:Value),vs[k]? = some v→v.cells[j]? = some u→(vs.flatMap RepV.cells)[k * 5+j]? = some u
 | [],k,j,v,u,h,_=>by simp at h
 | a :: r,0,j,v,u,h,hj=>by
  simp at h
  subst h
  have hjl:=(List.getElem?_eq_some_iff.1 hj).1
  rw [List.flatMap_cons,Nat.zero_mul,Nat.zero_add,List.getElem?_append_left hjl]
  exact hj
 | a :: r,k+1,j,v,u,h,hj=>by
  rw [List.flatMap_cons,List.getElem?_append_right (by simp [RepV.cells];omega),show (k+1) * 5+j - a.cells.length=k * 5+j by simp [RepV.cells];omega]
  exact zi5 r k j v u (by simpa using h) hj
theorem zgu:∀ (vs:List RepV) (k j:Nat) (v v':RepV) (u:Value),vs[k]? = some v→j < 5→v'.cells=v.cells.set j u→(vs.flatMap RepV.cells).set (k * 5+j) u=(vs.set k v').flatMap RepV.cells
 | [],k,j,v,v',u,h,_,_=>by simp at h
 | a :: r,0,j,v,v',u,h,hj,he=>by
  simp at h
  subst h
  rw [List.flatMap_cons,Nat.zero_mul,Nat.zero_add,List.set_append_left _ _ (by simpa [RepV.cells] using hj),List.set_cons_zero,List.flatMap_cons,he]
 | a :: r,k+1,j,v,v',u,h,hj,he=>by
  rw [List.flatMap_cons,List.set_append_right _ _ (by simp [RepV.cells];omega),show (k+1) * 5+j - a.cells.length=k * 5+j by simp [RepV.cells];omega,zgu r k j v v' u (by simpa using h) hj he]
  rfl
theorem Mem.cell (h:Mem W base R vs rs va E) {k j:Nat} {v:RepV} {u:Value} (hv:vs[k]? = some v) (hj:v.cells[j]? = some u):W.cell? ⟨R,k * 5+j,none⟩=some u:=h.row.cell (zi5 vs k j v u hv hj)
theorem Mem.bound (h:Mem W base R vs rs va E) {k j:Nat} {v:RepV} (hv:vs[k]? = some v) (hj:j < 5):k * 5+j < (vs.flatMap RepV.cells).length:=by
 have:=zi5 vs k j v (v.cells[j]'(by simpa [RepV.cells] using hj)) hv (List.getElem?_eq_getElem _)
 exact (List.getElem?_eq_some_iff.1 this).1
theorem zlf {α:Type} {l:List α} {k:Nat} {x y:α} (h:y ∈ l.set k x):y=x ∨ y ∈ l:=by
 rcases List.mem_or_eq_of_mem_set h with h | h
 ·exact .inr h
 ·exact .inl h
theorem Mem.write (h:Mem W base R vs rs va E) {k:Nat} {v v':RepV} {r':Rep} (hv:vs[k]? = some v) (hkn:v'.kn=v.kn) (hr:(rs[k]?).map (·.knew)=some r'.knew)
  (hst:StAt W (Free R vs va) r'.s v'.s1 v'.s2 v'.s3) (has:Sl markT W (Free R vs va) v'.ask r'.asked)
  (hW:∀ b,b ≠ R→W'.heap[b]? = W.heap[b]?) (hz:W.heap.size≤W'.heap.size) (hrow:RowIs W' R 58 ((vs.set k v').flatMap RepV.cells) []):Mem W' base R (vs.set k v') (rs.set k r') va E:=by
 have hvm:v ∈ vs:=List.mem_of_getElem? hv
 have hset:∀ y ∈ vs.set k v',∀ b,zab y.kn b→∃ y0 ∈ vs,zab y0.kn b:=fun y hy b hb=>by
  rcases zlf hy with rfl | hy
  ·exact⟨v,hvm,by rw [← hkn];exact hb⟩
  ·exact⟨y,hy,hb⟩
 have at_:∀ {i:Nat} {y:RepV},(vs.set k v')[i]? = some y→∃ y0,vs[i]? = some y0∧y0.kn=y.kn:=fun {i y} hy=>by
  rcases zci hy with ⟨rfl,rfl,-⟩ | ⟨-,hy⟩
  ·exact⟨v,hv,hkn.symm⟩
  ·exact⟨y,hy,rfl⟩
 have hF:∀ b,Free R vs va b→Free R (vs.set k v') va b:=fun b hb=>⟨hb.1,fun y hy ho=>by obtain⟨y0,h0,h1⟩:=hset y hy b ho;exact hb.2.1 y0 h0 h1,hb.2.2⟩
 have keepF:∀ b,Free R vs va b→b < W.heap.size→W'.heap[b]? = W.heap[b]?:=fun b hb _=>hW b hb.1
 have hkR:∀ y ∈ vs,∀ b,zab y.kn b→b < W.heap.size→W'.heap[b]? = W.heap[b]?:=fun y hy b hb _=>hW b fun e=>h.noR y hy (e ▸ hb)
 refine ⟨hrow,by simp [h.len],h.lo,fun i y q hy hq=>?_,fun y hy hb=>?_,fun i j y u b hij hy hu hb=>?_,fun y hy b hb=>?_,h.evR,?_⟩
 ·rcases zci hy with ⟨rfl,rfl,-⟩ | ⟨hne,hy⟩
  ·have hq':q=r':=by
    rcases zci hq with ⟨-,e,-⟩ | ⟨hne,-⟩
    ·exact e
    ·exact absurd rfl hne
   subst hq'
   refine ⟨(hst.mono fun b _ hb=>hF b hb).keep fun b hb hl=>?_,?_,(has.mono (by decide) fun b _ hb=>hF b hb).keep (by decide) fun b hb hl=>?_⟩
   ·exact hW b hb.1
   ·cases hrk:rs[i]? with
    | none=>rw [hrk] at hr;cases hr
    | some q0 =>
     rw [hrk] at hr
     have:=(h.rep i v q0 hv hrk).kn.keep fun b hb hl=>hkR v hvm b hb hl
     rw [hkn,← Option.some.inj hr]
     exact this
   ·exact hW b hb.1
  ·have hq':rs[i]? = some q:=by
    rcases zci hq with ⟨e,-,-⟩ | ⟨-,hq⟩
    ·exact absurd e hne
    ·exact hq
   exact ((h.rep i y q hy hq').mono fun b _ hb=>hF b hb).keep (fun b hb _=>hW b hb.1) fun b hb hl=>hkR y (List.mem_of_getElem? hy) b hb hl
 ·obtain⟨y0,h0,h1⟩:=hset y hy R hb
  exact h.noR y0 h0 h1
 ·obtain⟨y0,h0,e0⟩:=at_ hy
  obtain⟨u0,h1,e1⟩:=at_ hu
  rw [← e0] at hb
  rw [← e1]
  exact h.apart i j y0 u0 b hij h0 h1 hb
 ·obtain⟨y0,h0,h1⟩:=hset y hy b hb
  exact h.noEv y0 h0 b h1
 ·exact (h.ev.mono fun b _ hb=>hF b hb).keep (fun b hb _=>hW b hb.1) fun b hb _=>hW b fun e=>h.evR (e ▸ hb)
end
end
section
open Go.RowKit
section
variable {W W':World} {base R:Nat} {vs:List RepV} {rs:List Rep} {va:Value} {E:List Ev}
theorem zwv (l:List Bool) (i:Nat) (x:Bool):(l.flatMap zco).set i (.bool x)=(l.set i x).flatMap zco:=by
 induction l generalizing i with
 | nil=>rfl
 | cons b r ih =>
  cases i with
  | zero=>rfl
  | succ i=>simp only [List.flatMap_cons,zco,List.cons_append,List.nil_append,List.set_cons_succ,ih]
theorem zhe (l:List Bool):(l.flatMap zco).length=l.length:=by induction l <;> simp_all [zco]
theorem zyx (l:List Bool) {i:Nat} {b:Bool} (h:l[i]? = some b):(l.flatMap zco)[i]? = some (.bool b):=by
 induction l generalizing i with
 | nil=>simp at h
 | cons a r ih =>
  cases i with
  | zero=>simp at h;subst h;rfl
  | succ i=>simp only [List.flatMap_cons,zco,List.cons_append,List.nil_append,List.getElem?_cons_succ];exact ih (by simpa using h)
theorem RepAt.bit {F:Nat→Prop} {v:RepV} {r:Rep} (h:RepAt W base F v r) {i:Nat} {b:Bool} (hi:r.knew[i]? = some b):∃ g c,v.kn=.slice (some ⟨g,0,none⟩) r.knew.length c∧r.knew.length≤c∧c≤9223372036854775807∧W.cell? ⟨g,i,none⟩=some (.bool b)∧W.frozen? ⟨g,i,none⟩=false:=by
 have hl:=(List.getElem?_eq_some_iff.1 hi).1
 obtain⟨g,cap,tail,hv,hb,hrow,hc,hm,-⟩:=h.kn.row (by omega)
 exact⟨g,cap,hv,hc,hm,hrow.cell (zyx _ hi),hrow.frozen i⟩
theorem Mem.setKnew (h:Mem W base R vs rs va E) {k i g c:Nat} {v:RepV} {r:Rep} (hv:vs[k]? = some v) (hr:rs[k]? = some r) (hi:i < r.knew.length) (hs:v.kn=.slice (some ⟨g,0,none⟩) r.knew.length c) (x:Bool) :
  Mem (W.setCell ⟨g,i,none⟩ (.bool x)) base R vs (rs.set k { r with knew:=r.knew.set i x }) va E:=by
 have hra:=h.rep k v r hv hr
 obtain⟨g',cap,tail,hv',hb,hrow,hc,hm,hlen⟩:=hra.kn.row (by omega)
 rw [hs] at hv'
 injection hv' with e1 e2 e3
 injection e1 with e1
 injection e1 with e1
 subst e1 e3
 have hown:zab v.kn g:=⟨g,_,c,hs,by omega,rfl⟩
 have hvm:=List.mem_of_getElem? hv
 have other:∀ b,b ≠ g→(W.setCell ⟨g,i,none⟩ (.bool x)).heap[b]? = W.heap[b]?:=fun b hb=>Below.heap_setCell W _ _ b hb
 have hz:(W.setCell ⟨g,i,none⟩ (.bool x)).heap.size=W.heap.size:=World.size_setCell _ _ _
 have keepF:∀ b,Free R vs va b→b < W.heap.size→(W.setCell ⟨g,i,none⟩ (.bool x)).heap[b]? = W.heap[b]?:=fun b hb _=>other b fun e=>hb.2.1 v hvm (e ▸ hown)
 refine ⟨h.row.other (p:=⟨g,i,none⟩) (fun e=>h.noR v hvm (by rw [← e];exact hown)) _,by simp [h.len],h.lo,fun j y q hy hq=>?_,h.noR,h.apart,h.noEv,h.evR,h.ev.keep keepF fun b hb _=>other b fun e=>h.noEv v hvm g hown (e ▸ hb)⟩
 rcases zci hq with ⟨rfl,rfl,-⟩ | ⟨hne,hq⟩
 ·rw [hv] at hy
  injection hy with hy
  subst hy
  refine ⟨hra.st.keep keepF,?_,hra.ask.keep (by decide) keepF⟩
  simp only [List.length_set]
  have hr2:=hrow.set (j:=i) (by rw [zhe];exact hi) (.bool x)
  rw [zwv] at hr2
  rw [hs]
  refine hr2.own hb hc hm ?_ ?_ ?_
  ·rw [← hlen,List.length_append,List.length_append,zhe,zhe,List.length_set]
  ·rw [List.take_of_length_le];rw [zhe,List.length_set];omega
  ·rw [zhe,List.length_set];omega
 ·refine (h.rep j y q hy hq).keep keepF fun b hb _=>other b fun e=>?_
  exact h.apart k j v y g (fun e=>hne e.symm) hv hy hown (e ▸ hb)
theorem Mem.pushKnew {W1:World} (h:Mem W base R vs rs va E) {k:Nat} {v:RepV} {r:Rep} {kn':Value} (hv:vs[k]? = some v) (hr:rs[k]? = some r) {x:Bool}
  (hg:Grew W W1 v.kn kn') (ho:Own W1 base 4 1 kn' (r.knew.length+1) (r.knew.flatMap zco++[.bool x])) :
  Mem (W1.setCell ⟨R,k * 5+3,none⟩ kn') base R (vs.set k { v with kn:=kn' }) (rs.set k { r with knew:=r.knew++[x] }) va E:=by
 have hvm:=List.mem_of_getElem? hv
 have hra:=h.rep k v r hv hr
 have hold:∀ b,b < W.heap.size→b ≠ R→¬ zab v.kn b→(W1.setCell ⟨R,k * 5+3,none⟩ kn').heap[b]? = W.heap[b]?:=fun b hb h1 h2=>(Below.heap_setCell W1 _ _ b h1).trans (hg.same b hb h2)
 have hblk:∀ b,b < W.heap.size→zab kn' b→zab v.kn b:=fun b hb ho=>(hg.blk b ho).resolve_right (by omega)
 have hF:∀ b,b < W.heap.size→Free R vs va b→Free R (vs.set k { v with kn:=kn' }) va b:=fun b hb hf=>⟨hf.1,fun y hy ho=>by
  rcases zlf hy with rfl | hy
  ·exact hf.2.1 v hvm (hblk b hb ho)
  ·exact hf.2.1 y hy ho,hf.2.2⟩
 have mv:∀ b,Free R vs va b→b < W.heap.size→(W1.setCell ⟨R,k * 5+3,none⟩ kn').heap[b]? = W.heap[b]?∧Free R (vs.set k { v with kn:=kn' }) va b:=fun b hf hb=>⟨hold b hb hf.1 (hf.2.1 v hvm),hF b hb hf⟩
 have hnR:¬ zab kn' R:=fun ho=>h.noR v hvm (hblk R h.row.lt ho)
 have hrow1:RowIs W1 R 58 (vs.flatMap RepV.cells) []:=h.row.keep (hg.same R h.row.lt (h.noR v hvm))
 have hnew:∀ b,b < W.heap.size→∀ y,(y = { v with kn:=kn' })→zab y.kn b→zab v.kn b:=fun b hb y hy ho=>hblk b hb (by rw [hy] at ho;exact ho)
 refine ⟨?_,by simp [h.len],h.lo,fun i y q hy hq=>?_,fun y hy hb=>?_,fun i j y u b hij hy hu hb=>?_,fun y hy b hb=>?_,h.evR,?_⟩
 ·have:=hrow1.set (j:=k * 5+3) (h.bound hv (by decide)) kn'
  rw [zgu vs k 3 v { v with kn:=kn' } kn' hv (by decide) rfl] at this
  exact this
 ·rcases zci hy with ⟨rfl,rfl,-⟩ | ⟨hne,hy⟩
  ·have hq':q = { r with knew:=r.knew++[x] }:=by
    rcases zci hq with ⟨-,e,-⟩ | ⟨hne,-⟩
    ·exact e
    ·exact absurd rfl hne
   subst hq'
   refine ⟨((hra.st.mono (S':=fun b=>Free R vs va b∧b < W.heap.size) fun b hb hf=>⟨hf,hb⟩).keep fun b hb hl=>(mv b hb.1 hl).1).mono fun b _ hb=>(mv b hb.1 hb.2).2,?_,
    ((hra.ask.mono (S':=fun b=>Free R vs va b∧b < W.heap.size) (by decide) fun b hb hf=>⟨hf,hb⟩).keep (by decide) fun b hb hl=>(mv b hb.1 hl).1).mono (by decide) fun b _ hb=>(mv b hb.1 hb.2).2⟩
   simp only [List.length_append,List.length_cons,List.length_nil,List.flatMap_append,List.flatMap_cons,List.flatMap_nil,zco,List.append_nil]
   exact ho.keep fun b hb _=>Below.heap_setCell W1 _ _ b fun e=>hnR (by have e2:b=R:=e;rw [← e2];exact hb)
  ·have hq':rs[i]? = some q:=by
    rcases zci hq with ⟨e,-,-⟩ | ⟨-,hq⟩
    ·exact absurd e hne
    ·exact hq
   exact (h.rep i y q hy hq').move mv fun b hb hl=>hold b hl (fun e=>h.noR y (List.mem_of_getElem? hy) (e ▸ hb)) fun ho=>h.apart i k y v b hne hy hv hb ho
 ·rcases zlf hy with rfl | hy
  ·exact hnR hb
  ·exact h.noR y hy hb
 ·intro hub
  rcases zci hy with ⟨rfl,rfl,-⟩ | ⟨hne,hy2⟩
  ·rcases zci hu with ⟨rfl,-,-⟩ | ⟨hne2,hu⟩
   ·exact hij rfl
   ·exact h.apart i j v u b hij hv hu (hblk b (h.lt_kn (List.mem_of_getElem? hu) hub) hb) hub
  ·rcases zci hu with ⟨rfl,rfl,-⟩ | ⟨hne2,hu⟩
   ·exact h.apart i _ y v b hij hy2 hv hb (hblk b (h.lt_kn (List.mem_of_getElem? hy2) hb) hub)
   ·exact h.apart i j y u b hij hy2 hu hb hub
 ·intro hbv
  rcases zlf hy with rfl | hy
  ·exact h.noEv v hvm b (hblk b (h.ev.base_le hbv).2 hb) hbv
  ·exact h.noEv y hy b hb hbv
 ·exact h.ev.move mv fun b hb hl=>hold b hl (fun e=>h.evR (e ▸ hb)) fun ho=>h.noEv v hvm b ho hb
theorem Mem.pushEv {W1:World} {e:Ev} {va':Value} (h:Mem W base R vs rs va E) (hg:Grew W W1 va va') (ho:∀ S':Nat→Prop,(∀ b,Free R vs va b→b < W.heap.size→S' b)→OwnL evT 167 W1 base S' va' (E++[e])) :
  Mem W1 base R vs rs va' (E++[e]):=by
 have hblk:∀ b,b < W.heap.size→zab va' b→zab va b:=fun b hb ho=>(hg.blk b ho).resolve_right (by omega)
 have mv:∀ b,Free R vs va b→b < W.heap.size→W1.heap[b]? = W.heap[b]?∧Free R vs va' b:=fun b hf hb=>⟨hg.same b hb hf.2.2,hf.1,hf.2.1,fun ho=>hf.2.2 (hblk b hb ho)⟩
 refine ⟨h.row.keep (hg.same R h.row.lt h.evR),h.len,h.lo,fun i y q hy hq=>?_,h.noR,h.apart,fun y hy b hb hbv=>?_,fun ho=>h.evR (hblk R h.row.lt ho),?_⟩
 ·exact (h.rep i y q hy hq).move mv fun b hb hl=>hg.same b hl (h.noEv y (List.mem_of_getElem? hy) b hb)
 ·exact h.noEv y hy b hb (hblk b (h.lt_kn hy hb) hbv)
 ·exact ho _ fun b hf hb=>(mv b hf hb).2
end
end
section
open Go.RowKit
section
variable {W W':World} {base R:Nat} {vs:List RepV} {rs:List Rep} {va:Value} {E:List Ev}
theorem zqx {α:Type} {l:List α} {k:Nat} {x:α} (h:l[k]? = some x):l.set k x=l:=by
 obtain⟨hk,rfl⟩:=List.getElem?_eq_some_iff.1 h
 exact List.set_getElem_self hk
theorem Mem.putS (h:Mem W base R vs rs va E) {k:Nat} {v:RepV} {r:Rep} {s:State} {s1 s2 s3:Value} (hv:vs[k]? = some v) (hr:rs[k]? = some r) (hst:StAt W (Free R vs va) s s1 s2 s3) :
  Mem (((W.setCell ⟨R,k * 5,none⟩ s1).setCell ⟨R,k * 5+1,none⟩ s2).setCell ⟨R,k * 5+2,none⟩ s3) base R (vs.set k { v with s1:=s1,s2:=s2,s3:=s3 }) (rs.set k { r with s:=s }) va E:=by
 have hra:=h.rep k v r hv hr
 have hkl:=(List.getElem?_eq_some_iff.1 hv).1
 have b0:=h.bound hv (j:=0) (by decide)
 have b1:=h.bound hv (j:=1) (by decide)
 have b2:=h.bound hv (j:=2) (by decide)
 refine h.write (v:=v) (v':={ v with s1:=s1,s2:=s2,s3:=s3 }) (r':={ r with s:=s }) hv rfl (by rw [hr];rfl) hst hra.ask (fun b hb=>?_) ?_ ?_
 ·rw [Below.heap_setCell _ _ _ b hb,Below.heap_setCell _ _ _ b hb,Below.heap_setCell _ _ _ b hb]
 ·rw [World.size_setCell,World.size_setCell,World.size_setCell];exact Nat.le_refl _
 ·have q0:=h.row.set (j:=k * 5) b0 s1
  have q1:=q0.set (j:=k * 5+1) (by rw [List.length_set];exact b1) s2
  have q2:=q1.set (j:=k * 5+2) (by rw [List.length_set,List.length_set];exact b2) s3
  have e0:=zgu vs k 0 v { v with s1:=s1 } s1 hv (by decide) rfl
  have e1:=zgu (vs.set k { v with s1:=s1 }) k 1 { v with s1:=s1 } { v with s1:=s1,s2:=s2 } s2 (by simp [List.getElem?_set,hkl]) (by decide) rfl
  have e2:=zgu ((vs.set k { v with s1:=s1 }).set k { v with s1:=s1,s2:=s2 }) k 2 { v with s1:=s1,s2:=s2 } { v with s1:=s1,s2:=s2,s3:=s3 } s3 (by simp [List.getElem?_set,hkl]) (by decide) rfl
  simp only [Nat.add_zero] at e0
  rw [e0,e1,e2] at q2
  simpa [List.set_set] using q2
theorem Mem.putAsked (h:Mem W base R vs rs va E) {k:Nat} {v:RepV} {r:Rep} {m:List Mark} {u:Value} (hv:vs[k]? = some v) (hr:rs[k]? = some r) (hst:Sl markT W (Free R vs va) u m) :
  Mem (W.setCell ⟨R,k * 5+4,none⟩ u) base R (vs.set k { v with ask:=u }) (rs.set k { r with asked:=m }) va E:=by
 have hra:=h.rep k v r hv hr
 refine h.write (v:=v) (v':={ v with ask:=u }) (r':={ r with asked:=m }) hv rfl (by rw [hr];rfl) hra.st hst (fun b hb=>Below.heap_setCell _ _ _ b hb) (by rw [World.size_setCell];exact Nat.le_refl _) ?_
 have q0:=h.row.set (j:=k * 5+4) (h.bound hv (by decide)) u
 rwa [zgu vs k 4 v { v with ask:=u } u hv (by decide) rfl] at q0
theorem Mem.drew (h:Mem W base R vs rs va E):Mem W.drew base R vs rs va E:=h.ext ((Ext.refl W).drew)
end
end
section
open Go.RowKit
theorem zhf {α:Type} {l:List α} {m:Nat} {x:α} (h:l[m]? = some x):l.take (m+1)=l.take m++[x]:=by
 obtain⟨hm,rfl⟩:=List.getElem?_eq_some_iff.1 h
 rw [List.take_add_one,List.getElem?_eq_getElem hm]
 rfl
theorem zk1 (V:Vec) (E:List Ev) (e:Ev):sumM V (E++[e])=sumM V E+(if zaf V e=true∧e.op=1 then e.n else 0):=by
 unfold sumM
 rw [List.map_append,List.sum_append]
 simp
theorem zt7 {E:List Ev} (H:HistOk E) (V:Vec) (m:Nat):-6553600≤sumM V (E.take m)∧sumM V (E.take m)≤6553600:=by
 have h:∀ E:List Ev,(∀ e ∈ E,-32768≤e.n∧e.n≤32767)→-32768 * (E.length:Int)≤sumM V E∧sumM V E≤32768 * (E.length:Int):=by
  intro E
  induction E using zfa with
  | h0=>intro _;simp [sumM]
  | h1 E e ih =>
   intro hE
   have h1:=ih fun y hy=>hE y (List.mem_append_left _ hy)
   have h2:=hE e (by simp)
   rw [zk1,List.length_append,List.length_cons,List.length_nil]
   split <;> omega
 have h1:=h (E.take m) fun e he=>⟨(H.ok e (List.mem_of_mem_take he)).lo,(H.ok e (List.mem_of_mem_take he)).hi⟩
 have h2:=H.most
 have h3:(E.take m).length≤E.length:=by rw [List.length_take];omega
 omega
def zd7 (E:List Ev) (V:Vec) (m:Nat) (t:Str):Prop:=∃ (i:Nat) (e:Ev),i < m∧E[i]? = some e∧zaf V e=true∧e.op=2∧e.tx=t∧¬ Gone E V i e.tx
theorem zl3 (E:List Ev) (V:Vec) (t:Str):¬ zd7 E V 0 t:=fun ⟨i,_,h,_⟩=>by omega
theorem zfk {E:List Ev} {V:Vec} {m:Nat} {e:Ev} (h:E[m]? = some e) (t:Str):zd7 E V (m+1) t↔zd7 E V m t ∨ (zaf V e=true∧e.op=2∧e.tx=t∧¬ Gone E V m e.tx):=by
 constructor
 ·rintro⟨i,x,h1,h2,h3⟩
  rcases Nat.lt_or_ge i m with hi | hi
  ·exact .inl ⟨i,x,hi,h2,h3⟩
  ·have:i=m:=by omega
   subst this
   rw [h] at h2
   cases h2
   exact .inr h3
 ·rintro (⟨i,x,h1,h2⟩ | h2)
  ·exact⟨i,x,by omega,h2⟩
  ·exact⟨m,e,by omega,h,h2⟩
theorem zm9 (E:List Ev) (V:Vec) (t:Str):zd7 E V E.length t↔zfp E V t:=by
 constructor
 ·rintro⟨i,e,-,h⟩;exact⟨i,e,h⟩
 ·rintro⟨i,e,h1,h2⟩;exact⟨i,e,(List.getElem?_eq_some_iff.1 h1).1,h1,h2⟩
def zlg (E:List Ev) (V:Vec) (i:Nat) (tx:Str) (m:Nat):Prop:=∃ (j:Nat) (x:Ev),i < j∧j < m∧E[j]? = some x∧zaf V x=true∧x.key=keyA∧x.tx=tx∧x.kn[i]? = some true
theorem zsc (E:List Ev) (V:Vec) (i:Nat) (tx:Str):¬ zlg E V i tx (i+1):=fun ⟨j,_,h1,h2,_⟩=>by omega
theorem zt8 {E:List Ev} {V:Vec} {i m:Nat} {tx:Str} {x:Ev} (hm:i < m) (h:E[m]? = some x):zlg E V i tx (m+1)↔zlg E V i tx m ∨ (zaf V x=true∧x.key=keyA∧x.tx=tx∧x.kn[i]? = some true):=by
 constructor
 ·rintro⟨j,y,h1,h2,h3,h4⟩
  rcases Nat.lt_or_ge j m with hj | hj
  ·exact .inl ⟨j,y,h1,hj,h3,h4⟩
  ·have:j=m:=by omega
   subst this
   rw [h] at h3
   cases h3
   exact .inr h4
 ·rintro (⟨j,y,h1,h2,h3⟩ | h3)
  ·exact⟨j,y,h1,by omega,h3⟩
  ·exact⟨m,x,hm,by omega,h,h3⟩
theorem zww {E:List Ev} (H:Hist E) (V:Vec) (i:Nat) (tx:Str):zlg E V i tx E.length↔Gone E V i tx:=by
 constructor
 ·rintro⟨j,x,-,-,h3,h4,h5,h6,h7⟩
  exact⟨x,List.mem_of_getElem? h3,h4,h5,h6,h7⟩
 ·rintro⟨x,hx,h4,h5,h6,h7⟩
  obtain⟨j,hj⟩:=zql hx
  have h1:=H.len j x hj
  have h2:=(List.getElem?_eq_some_iff.1 h7).1
  exact⟨j,x,by omega,(List.getElem?_eq_some_iff.1 hj).1,hj,h4,h5,h6,h7⟩
theorem zo1:∀ (st:List Nat) (kn:List Bool) (s:Nat) (b:Bool),st.length=kn.length→topZ (st++[s]) (kn++[b])=max (topZ st kn) (if b then s else 0)
 | [],[],s,b,_=>by cases b <;> simp [topZ]
 | x :: st,y :: kn,s,b,h=>by
  simp only [List.cons_append,topZ]
  rw [zo1 st kn s b (by simpa using h)]
  omega
 | [],y :: kn,s,b,h=>by simp at h
 | x :: st,[],s,b,h=>by simp at h
theorem lt_write {n m:Nat} {s t:Str}:ltOf cmpC (n,s,false) (m,t,false)=true↔n < m ∨ (n=m∧ltS s t=true):=by
 rw [cmpC_lt]
 have:zbh (n,s,false)=zbh (m,t,false):=rfl
 constructor
 ·rintro (h | ⟨h1,h2 | ⟨-,h2⟩⟩)
  ·exact .inl h
  ·rw [this] at h2;exact absurd h2 (Int.lt_irrefl _)
  ·exact .inr ⟨h1,h2⟩
 ·rintro (h | ⟨h1,h2⟩)
  ·exact .inl h
  ·exact .inr ⟨h1,.inr ⟨this,h2⟩⟩
theorem zsd (E:List Ev) (V:Vec):zeh E V 0 none:=fun i e h=>by omega
theorem zl4 {E:List Ev} {V:Vec} {m:Nat} {j:Option Nat} {e:Ev} (h:zeh E V m j) (he:E[m]? = some e) (hn:¬ (zaf V e=true∧e.op=4)):zeh E V (m+1) j:=by
 have old:∀ (i:Nat) (x:Ev),i < m+1→E[i]? = some x→zaf V x=true→x.op=4→i < m:=fun i x h1 h2 h3 h4=>by
  rcases Nat.lt_or_ge i m with hi | hi
  ·exact hi
  ·have:i=m:=by omega
   subst this
   rw [he] at h2
   cases h2
   exact absurd ⟨h3,h4⟩ hn
 cases j with
 | none=>exact fun i x h1 h2 h3 h4=>h i x (old i x h1 h2 h3 h4) h2 h3 h4
 | some j =>
  obtain⟨f,k1,k2,k3,k4⟩:=h
  exact⟨f,k1,k2,k3,fun i x h1 h2 h3 h4=>k4 i x (old i x h1 h2 h3 h4) h2 h3 h4⟩
theorem zqy {E:List Ev} {V:Vec} {m:Nat} {e:Ev} (h:zeh E V m none) (he:E[m]? = some e) (hk:zaf V e=true) (ho:e.op=4):zeh E V (m+1) (some m):=by
 refine ⟨e,he,hk,ho,fun i x h1 h2 h3 h4=>?_⟩
 rcases Nat.lt_or_ge i m with hi | hi
 ·exact absurd h4 (h i x hi h2 h3)
 ·have:i=m:=by omega
  subst this
  rw [he] at h2
  cases h2
  exact zg4 _
theorem zse {E:List Ev} {V:Vec} {m j:Nat} {e f:Ev} (h:zeh E V m (some j)) (he:E[m]? = some e) (hf:E[j]? = some f) (hk:zaf V e=true) (ho:e.op=4) :
  zeh E V (m+1) (some (if zas E j < zas E m ∨ (zas E j=zas E m∧ltS f.tx e.tx=true) then m else j)):=by
 obtain⟨f',k1,k2,k3,k4⟩:=h
 rw [hf] at k1
 cases k1
 by_cases hc:zas E j < zas E m ∨ (zas E j=zas E m∧ltS f.tx e.tx=true)
 ·rw [if_pos hc]
  refine ⟨e,he,hk,ho,fun i x h1 h2 h3 h4=>?_⟩
  rcases Nat.lt_or_ge i m with hi | hi
  ·refine zbc fun hl=>?_
   have:=k4 i x hi h2 h3 h4
   rw [zjs (lt_write.2 hc) hl] at this
   cases this
  ·have:i=m:=by omega
   subst this
   rw [he] at h2
   cases h2
   exact zg4 _
 ·rw [if_neg hc]
  refine ⟨f,hf,k2,k3,fun i x h1 h2 h3 h4=>?_⟩
  rcases Nat.lt_or_ge i m with hi | hi
  ·exact k4 i x hi h2 h3 h4
  ·have:i=m:=by omega
   subst this
   rw [he] at h2
   cases h2
   exact zbc fun hl=>hc (lt_write.1 hl)
end
section
open Go.RowKit
theorem zj7 (E:List Ev) (m:Nat) (hm:m≤E.length):zbj (E.take m)=(zbj E).take m:=by
 induction E using zfa with
 | h0=>simp at hm;subst hm;rfl
 | h1 E e ih =>
  rw [zde]
  rcases Nat.lt_or_ge m (E.length+1) with h | h
  ·have hle:m≤E.length:=by omega
   rw [List.take_append_of_le_length hle,List.take_append_of_le_length (by rw [za0];exact hle),ih hle]
  ·have:m=E.length+1:=by simp at hm;omega
   subst this
   rw [List.take_of_length_le (by simp),List.take_of_length_le (by simp [za0]),zde]
theorem zna {E:List Ev} {m:Nat} {e:Ev} (h:E[m]? = some e):zas E m=if e.op=4 then topZ (zbj (E.take m)) e.kn+1 else 0:=by
 have hm:=(List.getElem?_eq_some_iff.1 h).1
 have h1:=zj7 E (m+1) (by omega)
 rw [zhf h,zde] at h1
 have h2:((zbj E).take (m+1))[m]? = (zbj E)[m]?:=by rw [List.getElem?_take_of_lt (by omega)]
 rw [← h1,List.getElem?_append_right (by rw [za0,List.length_take];omega),za0,List.length_take,Nat.min_eq_left (by omega),Nat.sub_self] at h2
 unfold zas
 rw [← h2]
 rfl
abbrev iI (s:Nat):Value:=I (s:Int)
def rowM (E:List Ev) (m:Nat):List Value:=((zbj E).take m).map iI++List.replicate (E.length - m) (I 0)
theorem zjz (E:List Ev) {m:Nat} (h:m≤E.length):(rowM E m).length=E.length:=by
 unfold rowM
 rw [List.length_append,List.length_map,List.length_take,za0,List.length_replicate]
 omega
theorem zgv {E:List Ev} {m i:Nat} (hi:i < m) (hm:m≤E.length):(rowM E m)[i]? = some (iI (zas E i)):=by
 unfold rowM
 have hl:i < (zbj E).length:=by rw [za0];omega
 rw [List.getElem?_append_left (by rw [List.length_map,List.length_take,za0];omega),List.getElem?_map,List.getElem?_take_of_lt hi,List.getElem?_eq_getElem hl]
 unfold zas
 rw [List.getElem?_eq_getElem hl]
 rfl
theorem zyy {E:List Ev} {m:Nat} (hm:m < E.length):(rowM E m)[m]? = some (I 0):=by
 unfold rowM
 rw [List.getElem?_append_right (by rw [List.length_map,List.length_take,za0];omega),List.length_map,List.length_take,za0,Nat.min_eq_left (by omega),Nat.sub_self]
 rw [List.getElem?_replicate,if_pos (by omega)]
theorem zyz {E:List Ev} {m:Nat} (hm:m < E.length):(rowM E m).set m (iI (zas E m))=rowM E (m+1):=by
 refine List.ext_getElem? fun i=>?_
 rw [List.getElem?_set,zjz E (by omega)]
 by_cases him:m=i
 ·subst him
  rw [if_pos rfl,if_pos hm,zgv (by omega) (by omega)]
 ·rw [if_neg him]
  rcases Nat.lt_or_ge i m with h | h
  ·rw [zgv h (by omega),zgv (by omega) (by omega)]
  ·unfold rowM
   rw [List.getElem?_append_right (by rw [List.length_map,List.length_take,za0];omega),List.getElem?_append_right (by rw [List.length_map,List.length_take,za0];omega)]
   rw [List.getElem?_replicate,List.getElem?_replicate,List.length_map,List.length_take,za0,List.length_map,List.length_take,za0]
   by_cases h2:i < E.length
   ·rw [if_pos (by omega),if_pos (by omega)]
   ·rw [if_neg (by omega),if_neg (by omega)]
theorem zwx (E:List Ev):rowM E 0=List.replicate E.length (I 0):=by unfold rowM;simp
def rowK (E:List Ev) (m t:Nat):List Value:=(rowM E m).set m (iI t)
theorem zqz (E:List Ev) {m t:Nat} (h:m≤E.length):(rowK E m t).length=E.length:=by unfold rowK;rw [List.length_set,zjz E h]
theorem zwy {E:List Ev} {m:Nat} (hm:m < E.length):rowK E m 0=rowM E m:=by
 unfold rowK
 refine List.ext_getElem? fun i=>?_
 rw [List.getElem?_set,zjz E (by omega)]
 by_cases him:m=i
 ·subst him;rw [if_pos rfl,if_pos hm,zyy hm];rfl
 ·rw [if_neg him]
theorem zy0 {E:List Ev} {m t i:Nat} (hi:i < m) (hm:m≤E.length):(rowK E m t)[i]? = some (iI (zas E i)):=by
 unfold rowK
 rw [List.getElem?_set_ne (by omega),zgv hi hm]
theorem zq0 {E:List Ev} {m t:Nat} (hm:m < E.length):(rowK E m t)[m]? = some (iI t):=by
 unfold rowK
 rw [List.getElem?_set_self (by rw [zjz E (by omega)];exact hm)]
theorem zq1 {E:List Ev} {m t u:Nat}:(rowK E m t).set m (iI u)=rowK E m u:=by unfold rowK;simp [List.set_set]
theorem zo2 {E:List Ev} {m:Nat} (hm:m < E.length):rowK E m (zas E m)=rowM E (m+1):=zyz hm
def topK (E:List Ev) (e:Ev) (k:Nat):Nat:=topZ ((zbj E).take k) (e.kn.take k)
theorem zo3 (E:List Ev) (e:Ev):topK E e 0=0:=rfl
theorem zwz {E:List Ev} {e:Ev} {k:Nat} {b:Bool} (hk:k < E.length) (hb:e.kn[k]? = some b):topK E e (k+1)=max (topK E e k) (if b then zas E k else 0):=by
 unfold topK
 have hl:=(List.getElem?_eq_some_iff.1 hb).1
 have hs:(zbj E)[k]? = some (zas E k):=by
  have:k < (zbj E).length:=by rw [za0];exact hk
  unfold zas
  rw [List.getElem?_eq_getElem this]
  rfl
 rw [zhf hs,zhf hb]
 exact zo1 _ _ _ _ (by rw [List.length_take,List.length_take,za0];omega)
theorem zy1 {E:List Ev} {e:Ev} {m:Nat} (h:E[m]? = some e) (hl:e.kn.length=m) (ho:e.op=4):zas E m=topK E e m+1:=by
 rw [zna h,if_pos ho]
 unfold topK
 rw [zj7 E m (Nat.le_of_lt (List.getElem?_eq_some_iff.1 h).1),List.take_of_length_le (by omega:e.kn.length≤m)]
theorem zt9 {E:List Ev} {e:Ev} {m:Nat} (h:E[m]? = some e) (ho:e.op ≠ 4):zas E m=0:=by rw [zna h,if_neg ho]
end
section
open Go.RowKit Go.Shelf
theorem zq2 {w:World} {q T:Nat} {e0 e:Entry} {a1 a2 a3 v1 v2 v3:Value} (h:RowIs w q T (entL e0 a1 a2 a3) []):RowIs (put7 w q e v1 v2 v3) q T (entL e v1 v2 v3) []:=by
 have:=RowIs.set7 (X1:=[]) (X2:=[]) (o:=0) (by simpa using h) rfl (St e.key) v1 v2 v3 (U e.cell.1) (St e.cell.2.1) (.bool e.cell.2.2)
 simpa using this
theorem zo4 (w:World) (q:Nat) (e:Entry) (v1 v2 v3:Value):(put7 w q e v1 v2 v3).heap.size=w.heap.size:=by simp [World.size_setCell]
theorem zj0 {S:Nat→Prop} {s:State} {v1 v2 v3:Value} {w:World} (p:Str) (o:OpD) (hn1:-9223372036854775808≤o.2.2.1) (hn2:o.2.2.1≤9223372036854775807) (h:StAt w S s v1 v2 v3) (sm:SmallS s) :
  Calls Tryz.prog 11 #[stV v1 v2 v3,St p,opV o] w fun r w'=>∃ u1 u2 u3,r=.returned (.tuple #[stV u1 u2 u3,I (updS s p o).2])∧StAt w' (fun b=>w.heap.size≤b) (updS s p o).1 u1 u2 u3∧Ext w w':=by
 have HRS:=zH (show updS s p o=if p = [] ∨ mayS s=false then (zba,2) else if 281474976710656≤ofM s.all p then (zba,9) else if zav s.entries o.2.1=none∧256≤s.entries.length then (zba,6) else
  if (updE ((zav s.entries o.2.1).getD zag) o (p,ofM s.all p+1)).2=0 then (⟨setM s.all p (ofM s.all p+1),zb7 s.entries o.2.1 (updE ((zav s.entries o.2.1).getD zag) o (p,ofM s.all p+1)).1,s.pruned⟩,0)
  else (zba,(updE ((zav s.entries o.2.1).getD zag) o (p,ofM s.all p+1)).2) from rfl)
 have SM:=zH sm
 have HRI:=zH (fun hm:mayS s=true=>(mayS_iff.1 hm).rise)
 obtain⟨sa,se,sp⟩:=s
 obtain⟨dO,k,n,tx⟩:=o
 simp only at hn1 hn2
 obtain⟨A1,n1,rfl,-,-⟩:=h.all.form
 obtain⟨A2,n2,rfl,-,-⟩:=h.entries.form
 obtain⟨A3,n3,rfl,-,-⟩:=h.pruned.form
 have hx0:Ext w (((w.alloc (.cells #[.slice A1 sa.length n1,.slice A2 se.length n2,.slice A3 sp.length n3] 30)).alloc (.cells #[K8 dO,St k,I n,St tx] 42)).alloc (.cells #[.slice none 0 0,.slice none 0 0,.slice none 0 0] 30)):=(((Ext.refl w).alloc _).alloc _).alloc _
 have rB0:RowIs (((w.alloc (.cells #[.slice A1 sa.length n1,.slice A2 se.length n2,.slice A3 sp.length n3] 30)).alloc (.cells #[K8 dO,St k,I n,St tx] 42)).alloc (.cells #[.slice none 0 0,.slice none 0 0,.slice none 0 0] 30)) w.heap.size 30 [.slice A1 sa.length n1,.slice A2 se.length n2,.slice A3 sp.length n3] []:=((zah w _ _).alloc _).alloc _
 have rO0:RowIs (((w.alloc (.cells #[.slice A1 sa.length n1,.slice A2 se.length n2,.slice A3 sp.length n3] 30)).alloc (.cells #[K8 dO,St k,I n,St tx] 42)).alloc (.cells #[.slice none 0 0,.slice none 0 0,.slice none 0 0] 30)) (w.heap.size+1) 42 [K8 dO,St k,I n,St tx] []:=by have h:=zah (w.alloc (.cells #[.slice A1 sa.length n1,.slice A2 se.length n2,.slice A3 sp.length n3] 30)) 42 [K8 dO,St k,I n,St tx];simp only [World.size_alloc] at h;exact h.alloc _
 have rR0:RowIs (((w.alloc (.cells #[.slice A1 sa.length n1,.slice A2 se.length n2,.slice A3 sp.length n3] 30)).alloc (.cells #[K8 dO,St k,I n,St tx] 42)).alloc (.cells #[.slice none 0 0,.slice none 0 0,.slice none 0 0] 30)) (w.heap.size+1+1) 30 [.slice none 0 0,.slice none 0 0,.slice none 0 0] []:=by have h:=zah ((w.alloc (.cells #[.slice A1 sa.length n1,.slice A2 se.length n2,.slice A3 sp.length n3] 30)).alloc (.cells #[K8 dO,St k,I n,St tx] 42)) 30 [.slice none 0 0,.slice none 0 0,.slice none 0 0];simp only [World.size_alloc] at h;exact h
 have hz0:w.heap.size+3≤(((w.alloc (.cells #[.slice A1 sa.length n1,.slice A2 se.length n2,.slice A3 sp.length n3] 30)).alloc (.cells #[K8 dO,St k,I n,St tx] 42)).alloc (.cells #[.slice none 0 0,.slice none 0 0,.slice none 0 0] 30)).heap.size:=by simp
 have h':=h.mono (S':=fun b=>b < w.heap.size) (fun b hb _=>hb)
 have H0:=zH (h'.ext hx0)
 have H1:=zH (zjr (h.ext hx0) sm)
 clear h'
 clear h sm
 by_cases hp:p = []
 ·subst hp
  have HR:=zH (show updS ⟨sa,se,sp⟩ [] (dO,k,n,tx)=(zba,2) by rw [HRS.out,if_pos (.inl rfl)])
  have HX:=zH hx0
  clear hx0 rB0 rR0 rO0 H0 H1 HRS
  go_enter Tryz.func11,Tryz.ntmps11
  go_wp2_with fail
  (try simp only [Exit.inBlock,Exit.then])
  refine bodyPost_ret (v:=.tuple #[stV (.slice none 0 0) (.slice none 0 0) (.slice none 0 0),I 2]) (by simp [results,Tryz.f11,go_sem]) rfl ?_
  refine ⟨.slice none 0 0,.slice none 0 0,.slice none 0 0,by (rw [HR.out];try rfl),?_⟩
  rw [HR.out]
  exact⟨StAt.none _ _ _ _ _,HX.out⟩
 ·have hpb:(p == [])=false:=by simpa using hp
  go_enter Tryz.func11,Tryz.ntmps11
  go_wp2_with fail
  generalize (((w.alloc (.cells #[.slice A1 sa.length n1,.slice A2 se.length n2,.slice A3 sp.length n3] 30)).alloc (.cells #[K8 dO,St k,I n,St tx] 42)).alloc (.cells #[.slice none 0 0,.slice none 0 0,.slice none 0 0] 30))=W0 at *
  refine H1.out.mono ?_
  rintro r W1 ⟨rfl,hx1⟩
  have hx01:=hx0.trans hx1
  have rB1:=rB0.ext hx1
  have rO1:=rO0.ext hx1
  have rR1:=rR0.ext hx1
  have hz1:=Nat.le_trans hz0 hx1.size
  clear hx0 rB0 rR0 rO0 hz0 H1
  cases hm:mayS ⟨sa,se,sp⟩ with
  | false =>
   have HR:=zH (show updS ⟨sa,se,sp⟩ p (dO,k,n,tx)=(zba,2) by rw [HRS.out,if_pos (.inr hm)])
   obtain⟨r0,r1,r2⟩:=rR1.p3
   obtain⟨f0,f1,f2⟩:=rR1.q3
   have HX:=zH hx01
   clear hx01 hx1 rB1 rR1 rO1 H0 HRS hm hp
   go_wp2_with fail
   (try simp only [Exit.inBlock,Exit.then])
   refine bodyPost_ret (v:=.tuple #[stV (.slice none 0 0) (.slice none 0 0) (.slice none 0 0),I 2]) (by simp [results,Tryz.f11,go_sem,r0,r1,r2]) rfl ?_
   have hq:=zcw (q:=w.heap.size+1+1) HX.out (by omega) (.slice none 0 0) (.slice none 0 0) (.slice none 0 0)
   refine ⟨.slice none 0 0,.slice none 0 0,.slice none 0 0,by (rw [HR.out];try rfl),?_⟩
   rw [HR.out]
   exact⟨StAt.none _ _ _ _ _,hq⟩
  | true =>
   have hri:=zH (show RiseS (se.map (·.key)) from HRI.out hm)
   have HRS2:=zH (show updS ⟨sa,se,sp⟩ p (dO,k,n,tx)=if 281474976710656≤ofM sa p then (zba,9) else if zav se k=none∧256≤se.length then (zba,6) else
    if (updE ((zav se k).getD zag) (dO,k,n,tx) (p,ofM sa p+1)).2=0 then (⟨setM sa p (ofM sa p+1),zb7 se k (updE ((zav se k).getD zag) (dO,k,n,tx) (p,ofM sa p+1)).1,sp⟩,0)
    else (zba,(updE ((zav se k).getD zag) (dO,k,n,tx) (p,ofM sa p+1)).2) by rw [HRS.out,if_neg (by simp [hp,hm])])
   have HO:=zH (zkc p (H0.out.all.ext (by decide) hx1))
   have b0:=rB1.cell (j:=0) rfl
   have HX1:=zH hx1
   clear hm hp HRS HRI hx1
   go_wp2_with fail
   refine HO.out.mono ?_
   rintro r W2 ⟨rfl,hx2⟩
   have hx02:=hx01.trans hx2
   have rB2:=rB1.ext hx2
   have rO2:=rO1.ext hx2
   have rR2:=rR1.ext hx2
   have hz2:=Nat.le_trans hz1 hx2.size
   have H2:=zH ((H0.out.ext HX1.out).ext hx2)
   clear hx01 rB1 rR1 rO1 HO hx2 hz1 b0 HX1 H0
   obtain⟨z,hz⟩:∃ z,ofM sa p=z:=⟨_,rfl⟩
   rw [hz] at HRS2
   rw [hz]
   clear hz
   by_cases hge:281474976710656≤z
   ·have HR:=zH (show updS ⟨sa,se,sp⟩ p (dO,k,n,tx)=(zba,9) by rw [HRS2.out,if_pos hge])
    have hgt:(z:Int) ≥ 281474976710656:=by omega
    obtain⟨r0,r1,r2⟩:=rR2.p3
    obtain⟨f0,f1,f2⟩:=rR2.q3
    have HX:=zH hx02
    clear hx02 rB2 rR2 rO2 H2 HRS2 hge
    go_wp2_with fail
    (try simp only [Exit.inBlock,Exit.then])
    refine bodyPost_ret (v:=.tuple #[stV (.slice none 0 0) (.slice none 0 0) (.slice none 0 0),I 9]) (by simp [results,Tryz.f11,go_sem,r0,r1,r2]) rfl ?_
    have hq:=zcw (q:=w.heap.size+1+1) HX.out (by omega) (.slice none 0 0) (.slice none 0 0) (.slice none 0 0)
    refine ⟨.slice none 0 0,.slice none 0 0,.slice none 0 0,by (rw [HR.out];try rfl),?_⟩
    rw [HR.out]
    exact⟨StAt.none _ _ _ _ _,hq⟩
   ·have hgt:¬ (z:Int) ≥ 281474976710656:=by omega
    have HRS3:=zH (show updS ⟨sa,se,sp⟩ p (dO,k,n,tx)=if zav se k=none∧256≤se.length then (zba,6) else
     if (updE ((zav se k).getD zag) (dO,k,n,tx) (p,z+1)).2=0 then (⟨setM sa p (z+1),zb7 se k (updE ((zav se k).getD zag) (dO,k,n,tx) (p,z+1)).1,sp⟩,0)
     else (zba,(updE ((zav se k).getD zag) (dO,k,n,tx) (p,z+1)).2) by rw [HRS2.out,if_neg hge])
    have HWA:=zH (show IntKind.u64.wrap ((z:Int)+1)=((z+1:Nat):Int) by rw [zcf];omega)
    have HF0:=zme k (H2.out.entries)
    simp only at HF0
    obtain⟨e,he⟩:∃ e,(zav se k).getD zag=e:=⟨_,rfl⟩
    obtain⟨is,his⟩:∃ is,(zav se k).isSome=is:=⟨_,rfl⟩
    rw [he,his] at HF0
    have HF:=zH HF0
    have HE:=zH he
    have HIS:=zH his
    rw [he] at HRS3
    clear HF0 he his
    have b1:=rB2.cell (j:=1) rfl
    have o1:=rO2.cell (j:=1) rfl
    clear HRS2 hge
    have hgt2:((z:Int) ≥ 281474976710656)=False:=eq_false hgt
    have hzl:z < 281474976710656:=by omega
    clear hgt
    go_wp2_with fail
    clear hgt2
    refine HF.out.mono ?_
    rintro r W3 ⟨a1,a2,a3,rfl,hA,hx3⟩
    have hse:SmallE e:=by rw [← HE.out];exact zm2 (l:=se) SM.out.each k
    obtain⟨C1,c1,rfl,-,-⟩:=hA.seen.form
    obtain⟨C2,c2,rfl,-,-⟩:=hA.counts.form
    obtain⟨C3,c3,rfl,-,-⟩:=hA.items.form
    have rE:=zah W3 37 (entL e (.slice C1 e.seen.length c1) (.slice C2 e.counts.length c2) (.slice C3 e.items.length c3))
    have hxb:=(Ext.refl W3).alloc (.cells (entL e (.slice C1 e.seen.length c1) (.slice C2 e.counts.length c2) (.slice C3 e.items.length c3)).toArray 37)
    have hx3b:=hx3.trans hxb
    have hx3w:=hx02.trans hx3
    have rBw:=rB2.ext hx3
    have rOw:=rO2.ext hx3
    have rRw:=rR2.ext hx3
    have bw1:=rBw.cell (j:=1) rfl
    have hx03:=hx02.trans hx3b
    have rB3:=rB2.ext hx3b
    have rO3:=rO2.ext hx3b
    have rR3:=rR2.ext hx3b
    have hz3:=Nat.le_trans hz2 hx3.size
    have hEz:=rE.lt
    have H3:=zH (H2.out.ext hx3b)
    have HU:=zH (zyh (dO,k,n,tx) (p,z+1) (hA.ext hxb) hse hn1 hn2)
    have b1':=rB3.cell (j:=1) rfl
    have o1':=rO3.cell (j:=1) rfl
    clear hx02 rB2 rR2 rO2 H2 HF hx3 b1 o1 hz2 hA hx3b
    have hblt:w.heap.size < W3.heap.size:=by omega
    have holt:w.heap.size+1 < W3.heap.size:=by omega
    by_cases hfull:zav se k=none∧256≤se.length
    ·have HR:=zH (show updS ⟨sa,se,sp⟩ p (dO,k,n,tx)=(zba,6) by rw [HRS3.out,if_pos hfull])
     have hlen:(se.length:Int) ≥ 256:=by have:=hfull.2;omega
     have hrlt:w.heap.size+1+1 < W3.heap.size:=by omega
     obtain rfl:is=false:=by rw [← HIS.out,hfull.1];rfl
     have b19:=(show RowIs W3 w.heap.size 30 [.slice A1 sa.length n1,.slice A2 se.length n2,.slice A3 sp.length n3] [] from by
      have:=rB3;unfold RowIs at this ⊢;rw [← this];symm;exact hxb.block _ (by omega)).cell (j:=1) rfl
     have rR39:=(show RowIs W3 (w.heap.size+1+1) 30 [.slice none 0 0,.slice none 0 0,.slice none 0 0] [] from by
      have:=rR3;unfold RowIs at this ⊢;rw [← this];symm;exact hxb.block _ (by omega))
     obtain⟨r0,r1,r2⟩:=rR39.p3
     obtain⟨f0,f1,f2⟩:=rR39.q3
     have HX:=zH hx3w
     clear hx3w hx03 rB3 rR3 rO3 H3 HRS3 hfull hxb rE rR39 HU
     go_wp2_with fail
     (try simp only [Exit.inBlock,Exit.then])
     refine bodyPost_ret (v:=.tuple #[stV (.slice none 0 0) (.slice none 0 0) (.slice none 0 0),I 6]) (by simp [results,Tryz.f11,go_sem,r0,r1,r2,hrlt]) rfl ?_
     have hq:=(zcw (q:=w.heap.size+1+1) HX.out (by omega) (.slice none 0 0) (.slice none 0 0) (.slice none 0 0)).alloc (.cells (entL e (.slice C1 e.seen.length c1) (.slice C2 e.counts.length c2) (.slice C3 e.items.length c3)).toArray 37)
     refine ⟨.slice none 0 0,.slice none 0 0,.slice none 0 0,by (rw [HR.out];try rfl),?_⟩
     rw [HR.out]
     exact⟨StAt.none _ _ _ _ _,hq⟩
    ·have HRS4:=zH (show updS ⟨sa,se,sp⟩ p (dO,k,n,tx)=if (updE e (dO,k,n,tx) (p,z+1)).2=0 then (⟨setM sa p (z+1),zb7 se k (updE e (dO,k,n,tx) (p,z+1)).1,sp⟩,0) else (zba,(updE e (dO,k,n,tx) (p,z+1)).2) by rw [HRS3.out,if_neg hfull])
     obtain⟨e0,e1,e2,e3,e4,e5,e6⟩:=rE.p7
     have o0:=rO3.cell (j:=0) rfl
     have o2:=rO3.cell (j:=2) rfl
     have o3:=rO3.cell (j:=3) rfl
     obtain⟨q,hq⟩:∃ q,updE e (dO,k,n,tx) (p,z+1)=q:=⟨_,rfl⟩
     have HU2:=HU.out
     rw [hq] at HU2 HRS4
     have HUU:=zH HU2
     obtain⟨e9,err⟩:=q
     clear HU HU2 hq
     have hbne:¬ (w.heap.size=W3.heap.size):=by omega
     have hone:¬ (w.heap.size+1=W3.heap.size):=by omega
     have hrne:¬ (w.heap.size+1+1=W3.heap.size):=by omega
     have hways:(is=true∧∃ m,zav se k=some m) ∨ (is=false∧¬ (se.length:Int) ≥ 256∧zav se k=none):=by
      have h9:=HIS.out
      cases hf:zav se k with
      | none=>rw [hf] at h9;exact .inr ⟨h9.symm,fun h=>hfull ⟨hf,by omega⟩,rfl⟩
      | some m=>rw [hf] at h9;exact .inl ⟨h9.symm,m,rfl⟩
     have HSW:=zH hways
     clear hways hfull HIS HE
     obtain⟨w0,w1,w2,w3⟩:=rOw.p4
     have hwa:=HWA.out
     rcases HSW.out with ⟨rfl,m0,hsome⟩ | ⟨rfl,hlen,hsome⟩
     ·have HSO:=zH hsome
      clear hsome HSW
      go_wp2_with fail
      refine HUU.out.mono ?_
      rintro r W4 ⟨y1,y2,y3,rfl,hA4,hx4⟩
      rename_i K1 hK1 K0 hK0
      have HK1:=zH hK1
      clear hK1
      simp only at hA4 ⊢
      obtain⟨Y1,y1n,rfl,-,-⟩:=hA4.seen.form
      obtain⟨Y2,y2n,rfl,-,-⟩:=hA4.counts.form
      obtain⟨Y3,y3n,rfl,-,-⟩:=hA4.items.form
      have hz4:=hx4.size
      have rB4:=rB3.ext hx4
      have rO4:=rO3.ext hx4
      have rR4:=rR3.ext hx4
      have rE4:=rE.ext hx4
      have hkp:=zf6 W4 W3.heap.size e9 (.slice Y1 e9.seen.length y1n) (.slice Y2 e9.counts.length y2n) (.slice Y3 e9.items.length y3n)
      have hPs:W4.heap.size≤(put7 W4 W3.heap.size e9 (.slice Y1 e9.seen.length y1n) (.slice Y2 e9.counts.length y2n) (.slice Y3 e9.items.length y3n)).heap.size∧(put7 W4 W3.heap.size e9 (.slice Y1 e9.seen.length y1n) (.slice Y2 e9.counts.length y2n) (.slice Y3 e9.items.length y3n)).heap.size≤W4.heap.size:=by have:=zo4 W4 W3.heap.size e9 (.slice Y1 e9.seen.length y1n) (.slice Y2 e9.counts.length y2n) (.slice Y3 e9.items.length y3n);omega
      have rB5:RowIs (put7 W4 W3.heap.size e9 (.slice Y1 e9.seen.length y1n) (.slice Y2 e9.counts.length y2n) (.slice Y3 e9.items.length y3n)) _ _ _ _:=rB4.keep (hkp _ hbne)
      have rO5:RowIs (put7 W4 W3.heap.size e9 (.slice Y1 e9.seen.length y1n) (.slice Y2 e9.counts.length y2n) (.slice Y3 e9.items.length y3n)) _ _ _ _:=rO4.keep (hkp _ hone)
      have rR5:RowIs (put7 W4 W3.heap.size e9 (.slice Y1 e9.seen.length y1n) (.slice Y2 e9.counts.length y2n) (.slice Y3 e9.items.length y3n)) _ _ _ _:=rR4.keep (hkp _ hrne)
      have rG5:RowIs (put7 W4 W3.heap.size e9 (.slice Y1 e9.seen.length y1n) (.slice Y2 e9.counts.length y2n) (.slice Y3 e9.items.length y3n)) _ _ _ _:=zq2 (e:=e9) (v1:=.slice Y1 e9.seen.length y1n) (v2:=.slice Y2 e9.counts.length y2n) (v3:=.slice Y3 e9.items.length y3n) rE4
      have hx5:Ext w (put7 W4 W3.heap.size e9 (.slice Y1 e9.seen.length y1n) (.slice Y2 e9.counts.length y2n) (.slice Y3 e9.items.length y3n)):=zdq (hx03.trans hx4) (by omega) e9 _ _ _
      have hEW:W3.heap.size < W4.heap.size:=by omega
      have HA5:Hid (EntAt (put7 W4 W3.heap.size e9 (.slice Y1 e9.seen.length y1n) (.slice Y2 e9.counts.length y2n) (.slice Y3 e9.items.length y3n)) (fun b=>W3.heap.size < b∧b < W4.heap.size) e9 _ _ _):=zH ((hA4.mono (S':=fun b=>W3.heap.size < b∧b < W4.heap.size) (fun b hb h=>⟨by omega,hb⟩)).keep fun b hb _=>hkp b (by omega))
      have H5:Hid (StAt (put7 W4 W3.heap.size e9 (.slice Y1 e9.seen.length y1n) (.slice Y2 e9.counts.length y2n) (.slice Y3 e9.items.length y3n)) (fun b=>b < w.heap.size) ⟨sa,se,sp⟩ _ _ _):=zH ((H3.out.ext hx4).keep fun b hb _=>hkp b (by omega))
      obtain⟨e40,e41,e42,e43,e44,e45,e46⟩:=rE4.p7
      obtain⟨ef0,ef1,ef2,ef3,ef4,ef5,ef6⟩:=rE4.q7
      have HP5:=zH (show _∧_∧_∧_∧_∧_ from ⟨rB5,rO5,rR5,rG5,hx5,hPs⟩)
      clear hA4 hx4 hkp HUU rB4 rE4 rO4 rR4 rB5 rO5 rR5 rG5 hx5 hPs rB3 rO3 rR3 rE rBw rOw rRw hx03 H3 hx3w hxb hz3 hEz
      clear e0 e1 e2 e3 e4 e5 e6 o0 o2 o3 o1' b1' w0 w1 w2 w3 bw1 hwa
      refine hK0 _ _ ?_
      clear hK0 K0
      go_wp
      refine HK1.out _ (put7 W4 W3.heap.size e9 (.slice Y1 e9.seen.length y1n) (.slice Y2 e9.counts.length y2n) (.slice Y3 e9.items.length y3n)) ?_
      clear HK1 K1 e40 e41 e42 e43 e44 e45 e46 ef0 ef1 ef2 ef3 ef4 ef5 ef6
      generalize (put7 W4 W3.heap.size e9 (.slice Y1 e9.seen.length y1n) (.slice Y2 e9.counts.length y2n) (.slice Y3 e9.items.length y3n))=W5 at *
      obtain⟨rB5,rO5,rR5,rG5,hx5,hPs⟩:=HP5.out
      clear HP5
      obtain⟨b50,b51,b52⟩:=rB5.p3
      by_cases herr:err=0
      ·subst herr
       have HR:=zH (show updS ⟨sa,se,sp⟩ p (dO,k,n,tx)=(⟨setM sa p (z+1),zb7 se k e9,sp⟩,0) from HRS4.out)
       have HC:=zH (zim H5.out SM.out)
       clear HRS4
       refine wp_seq_k ?_
       intro K2 hK2
       have HK2:=zH hK2
       clear hK2
       go_wp
       refine HK2.out _ _ ?_
       clear HK2 K2
       refine wp_seq_k ?_
       intro K3 hK3
       have HK3:=zH hK3
       clear hK3
       go_wp
       refine HC.out.mono ?_
       rintro r W6 ⟨u1,u2,u3,rfl,hn6,hx6⟩
       obtain⟨B1,m1,rfl,-,-⟩:=hn6.all.form
       obtain⟨B2,m2,rfl,-,-⟩:=hn6.entries.form
       obtain⟨B3,m3,rfl,-,-⟩:=hn6.pruned.form
       clear HC b50 b51 b52
       have hz6:=hx6.size
       have rS6:=zah W6 30 [.slice B1 sa.length m1,.slice B2 se.length m2,.slice B3 sp.length m3]
       have hxa:=(Ext.refl W6).alloc (.cells #[.slice B1 sa.length m1,.slice B2 se.length m2,.slice B3 sp.length m3] 30)
       have hol6:w.heap.size+1 < W6.heap.size:=by omega
       have hx67:=hx6.trans hxa
       have o61:=(rO5.ext hx67).cell (j:=1) rfl
       have s71:=rS6.cell (j:=1) rfl
       have rG7:=rG5.ext hx67
       have rR7:=rR5.ext hx67
       have hx7:=hx5.trans hx67
       have HA7:=zH (HA5.out.ext hx67)
       have HN7:=zH ((hn6.at.mono (S':=fun b=>W5.heap.size≤b∧b < W6.heap.size) (fun b hb h=>⟨h,hb⟩)).ext hxa)
       have HE7:=zH (OwnL.ext (OwnL.mono hn6.entries (S':=fun b=>(W5.heap.size≤b∧¬ zab (.slice B2 se.length m2) b)∧b < W6.heap.size) (fun b hb h=>⟨h,hb⟩)) hxa)
       have hE6:∀ b,zab (.slice B2 se.length m2) b→W5.heap.size≤b∧b < W6.heap.size:=fun b hb=>hn6.entries.base_le hb
       have HSR:=zH (zl5 k HN7.out.entries hri.out (Nat.le_trans SM.out.entries (by decide)))
       have hS6:=rS6.lt
       have HO6:=zH (show Own (W6.alloc (.cells #[.slice B1 sa.length m1,.slice B2 se.length m2,.slice B3 sp.length m3] 30)) W5.heap.size 25 2 (.slice B1 sa.length m1) sa.length (sa.flatMap zal)∧Own (W6.alloc (.cells #[.slice B1 sa.length m1,.slice B2 se.length m2,.slice B3 sp.length m3] 30)) W5.heap.size 9 1 (.slice B3 sp.length m3) sp.length (sp.flatMap strC)∧(∀ b,zab (.slice B1 sa.length m1) b→¬ zab (.slice B2 se.length m2) b)∧(∀ b,zab (.slice B3 sp.length m3) b→¬ zab (.slice B2 se.length m2) b) from by
        obtain⟨xE,hoE⟩:=hn6.entries.own
        exact⟨hn6.all.ext hxa,hn6.pruned.ext hxa,hn6.all.apart2 hoE (by decide),hn6.pruned.apart2 hoE (by decide)⟩)
       clear hn6 hx6 hxa hx67 rG5 rR5 hx5 HA5 H5 rO5
       rename_i K hK
       refine hK _ _ ?_
       clear hK K
       go_wp
       refine HK3.out _ _ ?_
       clear HK3 K3
       generalize W6.alloc (.cells #[.slice B1 sa.length m1,.slice B2 se.length m2,.slice B3 sp.length m3] 30)=W7 at *
       refine wp_seq_k ?_
       intro K5 hK5
       have HK5:=zH hK5
       clear hK5
       go_wp
       refine HSR.out.mono ?_
       rintro r W8 ⟨i,is2,rfl,hF,hx8⟩
       have rS8:=rS6.ext hx8
       have rG8:=rG7.ext hx8
       have rR8:=rR7.ext hx8
       have hx08:=hx7.trans hx8
       have hz8:=hx8.size
       clear rS6 rG7 rR7 hx7 HSR o61 s71
       obtain⟨hil,hput⟩:=zwn (e:=e9) hri.out hF HSO.out
       obtain⟨g,cap,X1,X2,tl,c0,c1x,c2x,c3x,c4,c5,c6,hv,hgb,hg,hX1,hfin⟩:=zyk (S:=fun b=>W3.heap.size < b∧b < W4.heap.size) (Sx:=fun b=>W3.heap.size < b∧b < W6.heap.size) (OwnL.ext HE7.out hx8) hil (HA7.out.ext hx8) (fun b hb=>⟨fun ho=>by have:=hE6 b ho;omega,by omega⟩) (fun b hb=>⟨hb.1.2,by have:=hb.1.1;have:=hb.2;omega⟩) (fun b hb=>by have:=hE6 b hb;omega)
       obtain⟨e1,e2⟩:B2=some ⟨g,0,none⟩∧m2=cap:=by injection hv with a b c;exact⟨a,c⟩
       subst e1;subst e2
       clear hv
       have hm2:0 < m2:=by obtain⟨_,c,e,h1,_⟩:=HE7.out.form;injection e with _ _ e3;subst e3;exact Nat.lt_of_lt_of_le (Nat.lt_of_le_of_lt (Nat.zero_le i) hil) h1
       have hgE:=hE6 g ⟨g,_,_,rfl,hm2,rfl⟩
       obtain⟨k0,k1,k2,k3,k4,k5,k6⟩:=yam hg hX1
       have kf0:=hg.frozen (i * 7)
       have kf1:=hg.frozen (i * 7+1)
       have kf2:=hg.frozen (i * 7+2)
       have kf3:=hg.frozen (i * 7+3)
       have kf4:=hg.frozen (i * 7+4)
       have kf5:=hg.frozen (i * 7+5)
       have kf6:=hg.frozen (i * 7+6)
       have hi1:(i:Int) < (se.length:Int):=by omega
       have s1:=rS8.cell (j:=1) rfl
       have s0:=rS8.cell (j:=0) rfl
       obtain⟨g0,g1,g2,g3,g4,g5,g6⟩:=rG8.p7
       have hgs:¬ (W6.heap.size=g):=by omega
       have hgs2:¬ (g=W6.heap.size):=by omega
       have hk9:∀ b,b ≠ g→(((((((W8.setCell ⟨g,i * 7,none⟩ (St e9.key)).setCell ⟨g,i * 7+1,none⟩ (.slice Y1 e9.seen.length y1n)).setCell ⟨g,i * 7+2,none⟩ (.slice Y2 e9.counts.length y2n)).setCell ⟨g,i * 7+3,none⟩ (.slice Y3 e9.items.length y3n)).setCell ⟨g,i * 7+4,none⟩ (U e9.cell.1)).setCell ⟨g,i * 7+5,none⟩ (St e9.cell.2.1)).setCell ⟨g,i * 7+6,none⟩ (.bool e9.cell.2.2)).heap[b]? = W8.heap[b]?:=fun b hb=>((((((Below.heap_setCell _ _ _ b hb).trans (Below.heap_setCell _ _ _ b hb)).trans (Below.heap_setCell _ _ _ b hb)).trans (Below.heap_setCell _ _ _ b hb)).trans (Below.heap_setCell _ _ _ b hb)).trans (Below.heap_setCell _ _ _ b hb)).trans (Below.heap_setCell _ _ _ b hb)
       have HE9:=zH (hfin (((((((W8.setCell ⟨g,i * 7,none⟩ (St e9.key)).setCell ⟨g,i * 7+1,none⟩ (.slice Y1 e9.seen.length y1n)).setCell ⟨g,i * 7+2,none⟩ (.slice Y2 e9.counts.length y2n)).setCell ⟨g,i * 7+3,none⟩ (.slice Y3 e9.items.length y3n)).setCell ⟨g,i * 7+4,none⟩ (U e9.cell.1)).setCell ⟨g,i * 7+5,none⟩ (St e9.cell.2.1)).setCell ⟨g,i * 7+6,none⟩ (.bool e9.cell.2.2)) (RowIs.set7 hg hX1 _ _ _ _ _ _ _) (fun b hb _=>hk9 b hb))
       have rS9:RowIs (((((((W8.setCell ⟨g,i * 7,none⟩ (St e9.key)).setCell ⟨g,i * 7+1,none⟩ (.slice Y1 e9.seen.length y1n)).setCell ⟨g,i * 7+2,none⟩ (.slice Y2 e9.counts.length y2n)).setCell ⟨g,i * 7+3,none⟩ (.slice Y3 e9.items.length y3n)).setCell ⟨g,i * 7+4,none⟩ (U e9.cell.1)).setCell ⟨g,i * 7+5,none⟩ (St e9.cell.2.1)).setCell ⟨g,i * 7+6,none⟩ (.bool e9.cell.2.2)) _ _ _ _:=rS8.keep (hk9 _ hgs)
       have rR9:RowIs (((((((W8.setCell ⟨g,i * 7,none⟩ (St e9.key)).setCell ⟨g,i * 7+1,none⟩ (.slice Y1 e9.seen.length y1n)).setCell ⟨g,i * 7+2,none⟩ (.slice Y2 e9.counts.length y2n)).setCell ⟨g,i * 7+3,none⟩ (.slice Y3 e9.items.length y3n)).setCell ⟨g,i * 7+4,none⟩ (U e9.cell.1)).setCell ⟨g,i * 7+5,none⟩ (St e9.cell.2.1)).setCell ⟨g,i * 7+6,none⟩ (.bool e9.cell.2.2)) _ _ _ _:=rR8.keep (hk9 _ (by omega))
       rw [hput] at HE9
       have hO1:=(HO6.out.1.ext hx8).keep (w':=(((((((W8.setCell ⟨g,i * 7,none⟩ (St e9.key)).setCell ⟨g,i * 7+1,none⟩ (.slice Y1 e9.seen.length y1n)).setCell ⟨g,i * 7+2,none⟩ (.slice Y2 e9.counts.length y2n)).setCell ⟨g,i * 7+3,none⟩ (.slice Y3 e9.items.length y3n)).setCell ⟨g,i * 7+4,none⟩ (U e9.cell.1)).setCell ⟨g,i * 7+5,none⟩ (St e9.cell.2.1)).setCell ⟨g,i * 7+6,none⟩ (.bool e9.cell.2.2))) fun b hb _=>hk9 b (fun e=>by subst e;exact HO6.out.2.2.1 _ hb ⟨_,_,_,rfl,hm2,rfl⟩)
       have hO3:=(HO6.out.2.1.ext hx8).keep (w':=(((((((W8.setCell ⟨g,i * 7,none⟩ (St e9.key)).setCell ⟨g,i * 7+1,none⟩ (.slice Y1 e9.seen.length y1n)).setCell ⟨g,i * 7+2,none⟩ (.slice Y2 e9.counts.length y2n)).setCell ⟨g,i * 7+3,none⟩ (.slice Y3 e9.items.length y3n)).setCell ⟨g,i * 7+4,none⟩ (U e9.cell.1)).setCell ⟨g,i * 7+5,none⟩ (St e9.cell.2.1)).setCell ⟨g,i * 7+6,none⟩ (.bool e9.cell.2.2))) fun b hb _=>hk9 b (fun e=>by subst e;exact HO6.out.2.2.2 _ hb ⟨_,_,_,rfl,hm2,rfl⟩)
       have hx9:Ext w (((((((W8.setCell ⟨g,i * 7,none⟩ (St e9.key)).setCell ⟨g,i * 7+1,none⟩ (.slice Y1 e9.seen.length y1n)).setCell ⟨g,i * 7+2,none⟩ (.slice Y2 e9.counts.length y2n)).setCell ⟨g,i * 7+3,none⟩ (.slice Y3 e9.items.length y3n)).setCell ⟨g,i * 7+4,none⟩ (U e9.cell.1)).setCell ⟨g,i * 7+5,none⟩ (St e9.cell.2.1)).setCell ⟨g,i * 7+6,none⟩ (.bool e9.cell.2.2)):=((((((hx08.set (p:=⟨g,i * 7,none⟩) (by simp;omega) _).set (p:=⟨g,i * 7+1,none⟩) (by simp;omega) _).set (p:=⟨g,i * 7+2,none⟩) (by simp;omega) _).set (p:=⟨g,i * 7+3,none⟩) (by simp;omega) _).set (p:=⟨g,i * 7+4,none⟩) (by simp;omega) _).set (p:=⟨g,i * 7+5,none⟩) (by simp;omega) _).set (p:=⟨g,i * 7+6,none⟩) (by simp;omega) _
       have hz9:(((((((W8.setCell ⟨g,i * 7,none⟩ (St e9.key)).setCell ⟨g,i * 7+1,none⟩ (.slice Y1 e9.seen.length y1n)).setCell ⟨g,i * 7+2,none⟩ (.slice Y2 e9.counts.length y2n)).setCell ⟨g,i * 7+3,none⟩ (.slice Y3 e9.items.length y3n)).setCell ⟨g,i * 7+4,none⟩ (U e9.cell.1)).setCell ⟨g,i * 7+5,none⟩ (St e9.cell.2.1)).setCell ⟨g,i * 7+6,none⟩ (.bool e9.cell.2.2)).heap.size=W8.heap.size:=by simp only [World.size_setCell]
       have HS:=zH (zk8 p (z+1) (zbt hO1) (Nat.le_trans SM.out.all (by decide)))
       clear HE7 HA7 HN7 hfin hg hk9 rS8 rG8 rR8 hx08 hx8 HO6 hgE hgb hF hput
       rename_i K hK
       refine hK _ _ ?_
       clear hK K
       go_wp
       refine HK5.out _ _ ?_
       clear HK5 K5
       refine wp_seq_k ?_
       intro K6 hK6
       have HK6:=zH hK6
       clear hK6
       go_wp
       refine HK6.out _ (((((((W8.setCell ⟨g,i * 7,none⟩ (St e9.key)).setCell ⟨g,i * 7+1,none⟩ (.slice Y1 e9.seen.length y1n)).setCell ⟨g,i * 7+2,none⟩ (.slice Y2 e9.counts.length y2n)).setCell ⟨g,i * 7+3,none⟩ (.slice Y3 e9.items.length y3n)).setCell ⟨g,i * 7+4,none⟩ (U e9.cell.1)).setCell ⟨g,i * 7+5,none⟩ (St e9.cell.2.1)).setCell ⟨g,i * 7+6,none⟩ (.bool e9.cell.2.2)) ?_
       clear HK6 K6
       generalize (((((((W8.setCell ⟨g,i * 7,none⟩ (St e9.key)).setCell ⟨g,i * 7+1,none⟩ (.slice Y1 e9.seen.length y1n)).setCell ⟨g,i * 7+2,none⟩ (.slice Y2 e9.counts.length y2n)).setCell ⟨g,i * 7+3,none⟩ (.slice Y3 e9.items.length y3n)).setCell ⟨g,i * 7+4,none⟩ (U e9.cell.1)).setCell ⟨g,i * 7+5,none⟩ (St e9.cell.2.1)).setCell ⟨g,i * 7+6,none⟩ (.bool e9.cell.2.2))=W9 at *
       have s90:=rS9.cell (j:=0) rfl
       have hwa2:=HWA.out
       refine wp_seq_k ?_
       intro K7 hK7
       have HK7:=zH hK7
       clear hK7
       go_wp
       clear s90 hwa2
       refine HS.out.mono ?_
       rintro r W10 ⟨u,rfl,ho,hx10⟩
       obtain⟨U1,un,rfl,-,-⟩:=ho.form
       have hz10:=hx10.size
       have rS10:=rS9.ext hx10
       have rR10:=rR9.ext hx10
       obtain⟨y0,y1,y2⟩:=rS10.p3
       have yf:=rS10.frozen 0
       have rS11:=rS10.set (j:=0) (by simp) (.slice U1 (setM sa p (z+1)).length un)
       simp only [List.set_cons_zero] at rS11
       obtain⟨z0,z1,z2⟩:=rS11.p3
       obtain⟨rr0,rr1,rr2⟩:=rR10.p3
       obtain⟨ff0,ff1,ff2⟩:=rR10.q3
       have rR11:=rR10.other (p:=⟨W6.heap.size,0,none⟩) (by simp;omega) (.slice U1 (setM sa p (z+1)).length un)
       obtain⟨r0,r1,r2⟩:=rR11.p3
       obtain⟨f0,f1,f2⟩:=rR11.q3
       have HX:=zH ((hx9.trans hx10).set (p:=⟨W6.heap.size,0,none⟩) (by simp;omega) (.slice U1 (setM sa p (z+1)).length un))
       have HO:=zH ho
       have HE10:=zH (HE9.out.ext (by decide) hx10)
       have HP10:=zH (hO3.ext hx10)
       have hP3:∀ b,zab (.slice B3 sp.length m3) b→b ≠ W6.heap.size:=fun b hb e=>(hO3.ext hx10).apart rS10 (by decide) (by rw [← e];exact hb)
       clear ho rS9 rR9 rS10 rR10 rS11 rR11 hx9 hx10 HS HE9 hO1 hO3
       rename_i K hK
       refine hK _ _ ?_
       clear hK K
       go_wp
       refine HK7.out _ _ ?_
       clear HK7 K7
       go_wp2_with fail
       (try simp only [Exit.inBlock,Exit.then])
       refine bodyPost_ret (v:=.tuple #[stV (.slice U1 (setM sa p (z+1)).length un) (.slice (some ⟨g,0,none⟩) se.length m2) (.slice B3 sp.length m3),I 0]) (by simp [results,Tryz.f11,go_sem,r0,r1,r2,rr0,rr1,rr2]) rfl ?_
       have hq:=zcw (q:=w.heap.size+1+1) HX.out (by omega) (.slice U1 (setM sa p (z+1)).length un) (.slice (some ⟨g,0,none⟩) se.length m2) (.slice B3 sp.length m3)
       refine ⟨(.slice U1 (setM sa p (z+1)).length un),(.slice (some ⟨g,0,none⟩) se.length m2),.slice B3 sp.length m3,by (rw [HR.out];try rfl),?_⟩
       rw [HR.out]
       refine ⟨?_,hq⟩
       have hkp:∀ b,b ≠ W6.heap.size→b ≠ w.heap.size+1+1→(put3 (W10.setCell ⟨W6.heap.size,0,none⟩ (.slice U1 (setM sa p (z+1)).length un)) (w.heap.size+1+1) (.slice U1 (setM sa p (z+1)).length un) (.slice (some ⟨g,0,none⟩) se.length m2) (.slice B3 sp.length m3)).heap[b]? = W10.heap[b]?:=fun b h1 h2=>(zfb _ _ _ _ _ b h2).trans (Below.heap_setCell _ _ _ _ h1)
       refine ⟨?_,?_,?_⟩
       ·exact (zbt (HO.out.keep fun b hb _=>hkp b (by have:=(HO.out.base_le hb).1;omega) (by have:=(HO.out.base_le hb).1;omega))).mono (by decide) fun b _ h=>by omega
       ·exact (HE10.out.keep (by decide) fun b hb _=>hkp b (by omega) (by omega)).mono (by decide) fun b _ hb=>by omega
       ·exact ((OwnL.flat_iff (S:=fun b=>W5.heap.size≤b)).2 (HP10.out.keep fun b hb _=>hkp b (hP3 b hb) (by have:=(HP10.out.base_le hb).1;omega))).sl (by decide) (fun b _ h=>by omega) (fun b h _=>by omega)
      ·have HR:=zH (show updS ⟨sa,se,sp⟩ p (dO,k,n,tx)=(zba,err) by rw [HRS4.out];exact if_neg herr)
       have hne9:((err:Int) == 0)=false:=neI (by omega)
       obtain⟨r0,r1,r2⟩:=rR5.p3
       obtain⟨f0,f1,f2⟩:=rR5.q3
       have HX:=zH hx5
       clear hx5 rB5 rR5 rO5 rG5 HA5 H5 HRS4
       go_wp2_with fail
       (try simp only [Exit.inBlock,Exit.then])
       refine bodyPost_ret (v:=.tuple #[stV (.slice none 0 0) (.slice none 0 0) (.slice none 0 0),I err]) (by simp [results,Tryz.f11,go_sem,r0,r1,r2]) rfl ?_
       have hq:=zcw (q:=w.heap.size+1+1) HX.out (by omega) (.slice none 0 0) (.slice none 0 0) (.slice none 0 0)
       refine ⟨.slice none 0 0,.slice none 0 0,.slice none 0 0,by (rw [HR.out];try rfl),?_⟩
       rw [HR.out]
       exact⟨StAt.none _ _ _ _ _,hq⟩
     ·have HSO:=zH hsome
      clear hsome HSW
      go_wp2_with fail
      refine HUU.out.mono ?_
      rintro r W4 ⟨y1,y2,y3,rfl,hA4,hx4⟩
      rename_i K1 hK1 K0 hK0
      have HK1:=zH hK1
      clear hK1
      simp only at hA4 ⊢
      obtain⟨Y1,y1n,rfl,-,-⟩:=hA4.seen.form
      obtain⟨Y2,y2n,rfl,-,-⟩:=hA4.counts.form
      obtain⟨Y3,y3n,rfl,-,-⟩:=hA4.items.form
      have hz4:=hx4.size
      have rB4:=rB3.ext hx4
      have rO4:=rO3.ext hx4
      have rR4:=rR3.ext hx4
      have rE4:=rE.ext hx4
      have hkp:=zf6 W4 W3.heap.size e9 (.slice Y1 e9.seen.length y1n) (.slice Y2 e9.counts.length y2n) (.slice Y3 e9.items.length y3n)
      have hPs:W4.heap.size≤(put7 W4 W3.heap.size e9 (.slice Y1 e9.seen.length y1n) (.slice Y2 e9.counts.length y2n) (.slice Y3 e9.items.length y3n)).heap.size∧(put7 W4 W3.heap.size e9 (.slice Y1 e9.seen.length y1n) (.slice Y2 e9.counts.length y2n) (.slice Y3 e9.items.length y3n)).heap.size≤W4.heap.size:=by have:=zo4 W4 W3.heap.size e9 (.slice Y1 e9.seen.length y1n) (.slice Y2 e9.counts.length y2n) (.slice Y3 e9.items.length y3n);omega
      have rB5:RowIs (put7 W4 W3.heap.size e9 (.slice Y1 e9.seen.length y1n) (.slice Y2 e9.counts.length y2n) (.slice Y3 e9.items.length y3n)) _ _ _ _:=rB4.keep (hkp _ hbne)
      have rO5:RowIs (put7 W4 W3.heap.size e9 (.slice Y1 e9.seen.length y1n) (.slice Y2 e9.counts.length y2n) (.slice Y3 e9.items.length y3n)) _ _ _ _:=rO4.keep (hkp _ hone)
      have rR5:RowIs (put7 W4 W3.heap.size e9 (.slice Y1 e9.seen.length y1n) (.slice Y2 e9.counts.length y2n) (.slice Y3 e9.items.length y3n)) _ _ _ _:=rR4.keep (hkp _ hrne)
      have rG5:RowIs (put7 W4 W3.heap.size e9 (.slice Y1 e9.seen.length y1n) (.slice Y2 e9.counts.length y2n) (.slice Y3 e9.items.length y3n)) _ _ _ _:=zq2 (e:=e9) (v1:=.slice Y1 e9.seen.length y1n) (v2:=.slice Y2 e9.counts.length y2n) (v3:=.slice Y3 e9.items.length y3n) rE4
      have hx5:Ext w (put7 W4 W3.heap.size e9 (.slice Y1 e9.seen.length y1n) (.slice Y2 e9.counts.length y2n) (.slice Y3 e9.items.length y3n)):=zdq (hx03.trans hx4) (by omega) e9 _ _ _
      have hEW:W3.heap.size < W4.heap.size:=by omega
      have HA5:Hid (EntAt (put7 W4 W3.heap.size e9 (.slice Y1 e9.seen.length y1n) (.slice Y2 e9.counts.length y2n) (.slice Y3 e9.items.length y3n)) (fun b=>W3.heap.size < b∧b < W4.heap.size) e9 _ _ _):=zH ((hA4.mono (S':=fun b=>W3.heap.size < b∧b < W4.heap.size) (fun b hb h=>⟨by omega,hb⟩)).keep fun b hb _=>hkp b (by omega))
      have H5:Hid (StAt (put7 W4 W3.heap.size e9 (.slice Y1 e9.seen.length y1n) (.slice Y2 e9.counts.length y2n) (.slice Y3 e9.items.length y3n)) (fun b=>b < w.heap.size) ⟨sa,se,sp⟩ _ _ _):=zH ((H3.out.ext hx4).keep fun b hb _=>hkp b (by omega))
      obtain⟨e40,e41,e42,e43,e44,e45,e46⟩:=rE4.p7
      obtain⟨ef0,ef1,ef2,ef3,ef4,ef5,ef6⟩:=rE4.q7
      have HP5:=zH (show _∧_∧_∧_∧_∧_ from ⟨rB5,rO5,rR5,rG5,hx5,hPs⟩)
      clear hA4 hx4 hkp HUU rB4 rE4 rO4 rR4 rB5 rO5 rR5 rG5 hx5 hPs rB3 rO3 rR3 rE rBw rOw rRw hx03 H3 hx3w hxb hz3 hEz
      clear e0 e1 e2 e3 e4 e5 e6 o0 o2 o3 o1' b1' w0 w1 w2 w3 bw1 hwa
      refine hK0 _ _ ?_
      clear hK0 K0
      go_wp
      refine HK1.out _ (put7 W4 W3.heap.size e9 (.slice Y1 e9.seen.length y1n) (.slice Y2 e9.counts.length y2n) (.slice Y3 e9.items.length y3n)) ?_
      clear HK1 K1 e40 e41 e42 e43 e44 e45 e46 ef0 ef1 ef2 ef3 ef4 ef5 ef6
      generalize (put7 W4 W3.heap.size e9 (.slice Y1 e9.seen.length y1n) (.slice Y2 e9.counts.length y2n) (.slice Y3 e9.items.length y3n))=W5 at *
      obtain⟨rB5,rO5,rR5,rG5,hx5,hPs⟩:=HP5.out
      clear HP5
      obtain⟨b50,b51,b52⟩:=rB5.p3
      by_cases herr:err=0
      ·subst herr
       have HR:=zH (show updS ⟨sa,se,sp⟩ p (dO,k,n,tx)=(⟨setM sa p (z+1),zb7 se k e9,sp⟩,0) from HRS4.out)
       have HC:=zH (zim H5.out SM.out)
       clear HRS4
       refine wp_seq_k ?_
       intro K2 hK2
       have HK2:=zH hK2
       clear hK2
       go_wp
       refine HK2.out _ _ ?_
       clear HK2 K2
       refine wp_seq_k ?_
       intro K3 hK3
       have HK3:=zH hK3
       clear hK3
       go_wp
       refine HC.out.mono ?_
       rintro r W6 ⟨u1,u2,u3,rfl,hn6,hx6⟩
       obtain⟨B1,m1,rfl,-,-⟩:=hn6.all.form
       obtain⟨B2,m2,rfl,-,-⟩:=hn6.entries.form
       obtain⟨B3,m3,rfl,-,-⟩:=hn6.pruned.form
       clear HC b50 b51 b52
       have hz6:=hx6.size
       have rS6:=zah W6 30 [.slice B1 sa.length m1,.slice B2 se.length m2,.slice B3 sp.length m3]
       have hxa:=(Ext.refl W6).alloc (.cells #[.slice B1 sa.length m1,.slice B2 se.length m2,.slice B3 sp.length m3] 30)
       have hol6:w.heap.size+1 < W6.heap.size:=by omega
       have hx67:=hx6.trans hxa
       have o61:=(rO5.ext hx67).cell (j:=1) rfl
       have s71:=rS6.cell (j:=1) rfl
       have rG7:=rG5.ext hx67
       have rR7:=rR5.ext hx67
       have hx7:=hx5.trans hx67
       have HA7:=zH (HA5.out.ext hx67)
       have HN7:=zH ((hn6.at.mono (S':=fun b=>W5.heap.size≤b∧b < W6.heap.size) (fun b hb h=>⟨h,hb⟩)).ext hxa)
       have HE7:=zH (OwnL.ext (OwnL.mono hn6.entries (S':=fun b=>(W5.heap.size≤b∧¬ zab (.slice B2 se.length m2) b)∧b < W6.heap.size) (fun b hb h=>⟨h,hb⟩)) hxa)
       have hE6:∀ b,zab (.slice B2 se.length m2) b→W5.heap.size≤b∧b < W6.heap.size:=fun b hb=>hn6.entries.base_le hb
       have HSR:=zH (zl5 k HN7.out.entries hri.out (Nat.le_trans SM.out.entries (by decide)))
       have hS6:=rS6.lt
       have HO6:=zH (show Own (W6.alloc (.cells #[.slice B1 sa.length m1,.slice B2 se.length m2,.slice B3 sp.length m3] 30)) W5.heap.size 25 2 (.slice B1 sa.length m1) sa.length (sa.flatMap zal)∧Own (W6.alloc (.cells #[.slice B1 sa.length m1,.slice B2 se.length m2,.slice B3 sp.length m3] 30)) W5.heap.size 9 1 (.slice B3 sp.length m3) sp.length (sp.flatMap strC)∧(∀ b,zab (.slice B1 sa.length m1) b→¬ zab (.slice B2 se.length m2) b)∧(∀ b,zab (.slice B3 sp.length m3) b→¬ zab (.slice B2 se.length m2) b) from by
        obtain⟨xE,hoE⟩:=hn6.entries.own
        exact⟨hn6.all.ext hxa,hn6.pruned.ext hxa,hn6.all.apart2 hoE (by decide),hn6.pruned.apart2 hoE (by decide)⟩)
       clear hn6 hx6 hxa hx67 rG5 rR5 hx5 HA5 H5 rO5
       rename_i K hK
       refine hK _ _ ?_
       clear hK K
       go_wp
       refine HK3.out _ _ ?_
       clear HK3 K3
       generalize W6.alloc (.cells #[.slice B1 sa.length m1,.slice B2 se.length m2,.slice B3 sp.length m3] 30)=W7 at *
       refine wp_seq_k ?_
       intro K5 hK5
       have HK5:=zH hK5
       clear hK5
       go_wp
       refine HSR.out.mono ?_
       rintro r W8 ⟨i,is2,rfl,hF,hx8⟩
       have rS8:=rS6.ext hx8
       have rG8:=rG7.ext hx8
       have rR8:=rR7.ext hx8
       have hx08:=hx7.trans hx8
       have hz8:=hx8.size
       clear rS6 rG7 rR7 hx7 HSR o61 s71
       obtain⟨hil,hput⟩:=zzw (e:=e9) hri.out hF HSO.out
       have hxv:=(Ext.refl W8).alloc (.cells (entL e9 (.slice Y1 e9.seen.length y1n) (.slice Y2 e9.counts.length y2n) (.slice Y3 e9.items.length y3n)).toArray 37)
       have rV:=zah W8 37 (entL e9 (.slice Y1 e9.seen.length y1n) (.slice Y2 e9.counts.length y2n) (.slice Y3 e9.items.length y3n))
       have hVl:=rV.lt
       obtain⟨xs,hown,hone1,hfin⟩:=zrz (S:=fun b=>W3.heap.size < b∧b < W4.heap.size) (Sx:=fun b=>W3.heap.size < b∧b ≠ W6.heap.size) (OwnL.ext HE7.out (hx8.trans hxv)) hil (HA7.out.ext (hx8.trans hxv)) (fun b hb=>⟨fun ho=>by have:=hE6 b ho;omega,by omega,by omega⟩) (fun b hb=>⟨hb.1.2,by have:=hb.1.1;have:=hb.2;omega,by have:=hb.2;omega⟩) (fun b hb=>by have:=hE6 b hb;omega) (by omega)
       have hoV:=zfy ((HA7.out.ext (hx8.trans hxv)).rd (S':=fun _=>True) (fun _ _ _=>trivial))
       have HI:=zH (zry hown rV rfl hoV hone1 hil SM.out.entries (by omega) (fun ho=>by have:=hE6 _ ho;omega))
       obtain⟨g0,g1,g2,g3,g4,g5,g6⟩:=rG8.p7
       have s1:=rS8.cell (j:=1) rfl
       have hso:∀ b,zab (.slice B2 se.length m2) b→b ≠ W6.heap.size:=fun b hb=>by have:=hE6 b hb;omega
       have rSv:=rS8.ext hxv
       have rRv:=rR8.ext hxv
       have hx0v:=hx08.trans hxv
       have HO8:=zH ((⟨HO6.out.1.ext (hx8.trans hxv),HO6.out.2.1.ext (hx8.trans hxv)⟩:_∧_))
       clear HE7 HA7 HN7 rG8 rR8 hx08 rS8 hF
       rename_i K hK
       refine hK _ _ ?_
       clear hK K
       go_wp
       refine HK5.out _ _ ?_
       clear HK5 K5
       refine wp_seq_k ?_
       intro K6 hK6
       have HK6:=zH hK6
       clear hK6
       go_wp
       generalize W8.alloc (.cells (entL e9 (.slice Y1 e9.seen.length y1n) (.slice Y2 e9.counts.length y2n) (.slice Y3 e9.items.length y3n)).toArray 37)=Wv at *
       refine HI.out.mono ?_
       rintro r W9 ⟨v9,rfl,hown9,hgr⟩
       have HE9a:=hfin W9 v9 hown9 hgr
       rw [hput] at HE9a
       have hlen9:(zb7 se k e9).length=se.length+1:=by rw [← hput];simp;omega
       obtain⟨AV,cV,rfl,-,-⟩:=hown9.form
       have rSw:=rSv.keep (hgr.same _ rSv.lt (fun ho=>hso _ ho rfl))
       have rRw9:=rRv.keep (hgr.same _ rRv.lt (fun ho=>by have:=hE6 _ ho;omega))
       have hO1w:=HO8.out.1.keep fun b hb hlt=>hgr.same b hlt (fun ho=>HO6.out.2.2.1 b hb ho)
       have hO3w:=HO8.out.2.keep fun b hb hlt=>hgr.same b hlt (fun ho=>HO6.out.2.2.2 b hb ho)
       have hx0w:=hx0v.grew hgr (fun b hb=>by have:=hE6 b hb;omega)
       have sw0:=rSw.cell (j:=0) rfl
       have sw1:=rSw.cell (j:=1) rfl
       have swf:=rSw.frozen 1
       have rS9:=rSw.set (j:=1) (by simp) (.slice AV (se.length+1) cV)
       simp only [List.set_cons_succ,List.set_cons_zero] at rS9
       have rR9:=rRw9.other (p:=⟨W6.heap.size,1,none⟩) (by simp;omega) (.slice AV (se.length+1) cV)
       have hO1:=hO1w.keep (w':=W9.setCell ⟨W6.heap.size,1,none⟩ (.slice AV (se.length+1) cV)) fun b hb _=>Below.heap_setCell _ _ _ _ (fun e=>hO1w.apart rSw (by decide) (by have e2:b=W6.heap.size:=e;rw [← e2];exact hb))
       have hO3:=hO3w.keep (w':=W9.setCell ⟨W6.heap.size,1,none⟩ (.slice AV (se.length+1) cV)) fun b hb _=>Below.heap_setCell _ _ _ _ (fun e=>hO3w.apart rSw (by decide) (by have e2:b=W6.heap.size:=e;rw [← e2];exact hb))
       have HE9:=zH (HE9a.keep (w':=W9.setCell ⟨W6.heap.size,1,none⟩ (.slice AV (se.length+1) cV)) (by decide) fun b hb _=>Below.heap_setCell _ _ _ _ (fun e=>hb.2 e))
       have hx9:=hx0w.set (p:=⟨W6.heap.size,1,none⟩) (by simp;omega) (.slice AV (se.length+1) cV)
       have hz9:(W9.setCell ⟨W6.heap.size,1,none⟩ (.slice AV (se.length+1) cV)).heap.size=W9.heap.size:=World.size_setCell _ _ _
       have hz9b:=hgr.size
       have HS:=zH (zk8 p (z+1) (zbt hO1) (Nat.le_trans SM.out.all (by decide)))
       clear rSv rRv hx0v hO1w hO3w hx0w HE9a hown9 hgr hfin hown HI rSw rRw9 hx8 HO6 HO8
       rename_i K hK
       refine hK _ _ ?_
       clear hK K
       go_wp
       refine HK6.out _ _ ?_
       clear HK6 K6
       generalize W9.setCell ⟨W6.heap.size,1,none⟩ (.slice AV (se.length+1) cV)=W9s at *
       have s90:=rS9.cell (j:=0) rfl
       have hwa2:=HWA.out
       refine wp_seq_k ?_
       intro K7 hK7
       have HK7:=zH hK7
       clear hK7
       go_wp
       clear s90 hwa2
       refine HS.out.mono ?_
       rintro r W10 ⟨u,rfl,ho,hx10⟩
       obtain⟨U1,un,rfl,-,-⟩:=ho.form
       have hz10:=hx10.size
       have rS10:=rS9.ext hx10
       have rR10:=rR9.ext hx10
       obtain⟨y0,y1,y2⟩:=rS10.p3
       have yf:=rS10.frozen 0
       have rS11:=rS10.set (j:=0) (by simp) (.slice U1 (setM sa p (z+1)).length un)
       simp only [List.set_cons_zero] at rS11
       obtain⟨z0,z1,z2⟩:=rS11.p3
       obtain⟨rr0,rr1,rr2⟩:=rR10.p3
       obtain⟨ff0,ff1,ff2⟩:=rR10.q3
       have rR11:=rR10.other (p:=⟨W6.heap.size,0,none⟩) (by simp;omega) (.slice U1 (setM sa p (z+1)).length un)
       obtain⟨r0,r1,r2⟩:=rR11.p3
       obtain⟨f0,f1,f2⟩:=rR11.q3
       have HX:=zH ((hx9.trans hx10).set (p:=⟨W6.heap.size,0,none⟩) (by simp;omega) (.slice U1 (setM sa p (z+1)).length un))
       have HO:=zH ho
       have HE10:=zH (HE9.out.ext (by decide) hx10)
       have HP10:=zH (hO3.ext hx10)
       have hP3:∀ b,zab (.slice B3 sp.length m3) b→b ≠ W6.heap.size:=fun b hb e=>(hO3.ext hx10).apart rS10 (by decide) (by rw [← e];exact hb)
       clear ho rS9 rR9 rS10 rR10 rS11 rR11 hx9 hx10 HS HE9 hO1 hO3
       rename_i K hK
       refine hK _ _ ?_
       clear hK K
       go_wp
       refine HK7.out _ _ ?_
       clear HK7 K7
       go_wp2_with fail
       (try simp only [Exit.inBlock,Exit.then])
       refine bodyPost_ret (v:=.tuple #[stV (.slice U1 (setM sa p (z+1)).length un) (.slice AV (se.length+1) cV) (.slice B3 sp.length m3),I 0]) (by simp [results,Tryz.f11,go_sem,r0,r1,r2,rr0,rr1,rr2]) rfl ?_
       have hq:=zcw (q:=w.heap.size+1+1) HX.out (by omega) (.slice U1 (setM sa p (z+1)).length un) (.slice AV (se.length+1) cV) (.slice B3 sp.length m3)
       refine ⟨(.slice U1 (setM sa p (z+1)).length un),(.slice AV (se.length+1) cV),.slice B3 sp.length m3,by (rw [HR.out];try rfl),?_⟩
       rw [HR.out]
       refine ⟨?_,hq⟩
       have hkp:∀ b,b ≠ W6.heap.size→b ≠ w.heap.size+1+1→(put3 (W10.setCell ⟨W6.heap.size,0,none⟩ (.slice U1 (setM sa p (z+1)).length un)) (w.heap.size+1+1) (.slice U1 (setM sa p (z+1)).length un) (.slice AV (se.length+1) cV) (.slice B3 sp.length m3)).heap[b]? = W10.heap[b]?:=fun b h1 h2=>(zfb _ _ _ _ _ b h2).trans (Below.heap_setCell _ _ _ _ h1)
       refine ⟨?_,?_,?_⟩
       ·exact (zbt (HO.out.keep fun b hb _=>hkp b (by have:=(HO.out.base_le hb).1;omega) (by have:=(HO.out.base_le hb).1;omega))).mono (by decide) fun b _ h=>by omega
       ·exact (HE10.out.keep (by decide) fun b hb _=>hkp b (by omega) (by omega)).mono (by decide) fun b _ hb=>by omega
       ·exact ((OwnL.flat_iff (S:=fun b=>W5.heap.size≤b)).2 (HP10.out.keep fun b hb _=>hkp b (hP3 b hb) (by have:=(HP10.out.base_le hb).1;omega))).sl (by decide) (fun b _ h=>by omega) (fun b h _=>by omega)
      ·have HR:=zH (show updS ⟨sa,se,sp⟩ p (dO,k,n,tx)=(zba,err) by rw [HRS4.out];exact if_neg herr)
       have hne9:((err:Int) == 0)=false:=neI (by omega)
       obtain⟨r0,r1,r2⟩:=rR5.p3
       obtain⟨f0,f1,f2⟩:=rR5.q3
       have HX:=zH hx5
       clear hx5 rB5 rR5 rO5 rG5 HA5 H5 HRS4
       go_wp2_with fail
       (try simp only [Exit.inBlock,Exit.then])
       refine bodyPost_ret (v:=.tuple #[stV (.slice none 0 0) (.slice none 0 0) (.slice none 0 0),I err]) (by simp [results,Tryz.f11,go_sem,r0,r1,r2]) rfl ?_
       have hq:=zcw (q:=w.heap.size+1+1) HX.out (by omega) (.slice none 0 0) (.slice none 0 0) (.slice none 0 0)
       refine ⟨.slice none 0 0,.slice none 0 0,.slice none 0 0,by (rw [HR.out];try rfl),?_⟩
       rw [HR.out]
       exact⟨StAt.none _ _ _ _ _,hq⟩
end
section
abbrev opA:OpD:=(1,[35,110],5,[])
abbrev opB:OpD:=(1,[35,110],2,[])
abbrev op0:OpD:=(0,[],0,[])
def entA:Entry:=⟨[35,110],[([49],1)],[([49],5,0)],[],0,[],false⟩
def entB:Entry:=⟨[35,110],[([49,46,49],1)],[([49,46,49],2,0)],[],0,[],false⟩
def entJ:Entry:=⟨[35,110],[([49],1),([49,46,49],1)],[([49],5,0),([49,46,49],2,0)],[],0,[],false⟩
def stA:State:=⟨[([49],1)],[entA],[]⟩
def stB:State:=⟨[([49,46,49],1)],[entB],[]⟩
def stJ:State:=⟨[([49],1),([49,46,49],1)],[entJ],[]⟩
def stR:State:=⟨[([49],4)],[entA],[]⟩
def stE:State:=⟨[([49],1),([49,46,49],1)],[],[]⟩
theorem zz0:updS zba [49] opA=(stA,0):=by kernel_rfl
theorem zz1:updS zba [49,46,49] opB=(stB,0):=by kernel_rfl
theorem zz2:zes stA [49] 3=(stR,0):=by kernel_rfl
theorem zz3:updS stA [] op0=(zba,2):=by kernel_rfl
theorem zz4:zgj stJ stA.all=stJ:=by kernel_rfl
theorem zy2:zau stA.all []=stA.all:=by kernel_rfl
theorem zz5:zgj stJ stJ.all=stE:=by kernel_rfl
theorem zz6:zav stJ.entries [35,110]=some entJ:=by kernel_rfl
theorem zz7:atE stJ.entries [35,110]=entJ:=by kernel_rfl
theorem zz8:zap entJ.key=1:=by kernel_rfl
theorem zz9:zcg entJ.counts=7:=by kernel_rfl
theorem yaa:ofM stR.all [49]=4:=by kernel_rfl
theorem zw1:mayS stJ=true:=by kernel_rfl
theorem zy3 (a:Str):zb0 [a] [a] = [a]:=by rw [zqj];simp [zb0]
theorem zua:zbk [[49],[49,46,49]] = [[49],[49,46,49]]:=List.mergeSort_of_pairwise (by decide)
theorem zo5 {a b:List zak} (h:(za7 (a++b)).map Prod.fst = [[49],[49,46,49]]):zcx a b=zbs (za7 (a++b)) (zbe (a++b)) [[49],[49,46,49]]:=by
 unfold zcx zej
 rw [h,zua]
theorem znb {a b:Entry} (h1:zbv a zag=false) (h2:a.key=b.key):zbf a b=⟨a.key,zau a.seen b.seen,zcx a.counts b.counts,zec a.items a.seen b.items b.seen,zd1 a.cell b.cell⟩:=by
 unfold zbf
 rw [h1,if_neg (by simp),if_pos h2]
theorem znc {a b:Entry} {k:Str} (h1:a.key=k) (h2:b.key=k):zef [a] [b] = [zbf a b]:=by
 unfold zef
 rw [show zbu [a] [b] = [k] by unfold zbu;simp only [List.map_cons,List.map_nil,h1,h2];exact zy3 _]
 simp [getE,zav,h1,h2]
theorem zo6:Lib.compact (zbk ([]++[])) = []:=by kernel_rfl
theorem zy4:zbf entA entB=entJ:=by
 rw [znb (a:=entA) (b:=entB) (by kernel_rfl) rfl,zo5 (by kernel_rfl)]
 kernel_rfl
theorem zw2:zbf entA entJ=entJ:=by
 rw [znb (a:=entA) (b:=entJ) (by kernel_rfl) rfl,zo5 (by kernel_rfl)]
 kernel_rfl
theorem yab:zca stA stB=stJ:=by
 unfold zca
 rw [show zef stA.entries stB.entries = [entJ] from (znc (k:=[35,110]) rfl rfl).trans (by rw [zy4]),show Lib.compact (zbk (stA.pruned++stB.pruned)) = [] from zo6]
 kernel_rfl
theorem zy5:zca stA stJ=stJ:=by
 unfold zca
 rw [show zef stA.entries stJ.entries = [entJ] from (znc (k:=[35,110]) rfl rfl).trans (by rw [zw2]),show Lib.compact (zbk (stA.pruned++stJ.pruned)) = [] from zo6]
 kernel_rfl
theorem yac:zeg stA stA.all stJ=(stJ,0):=by
 unfold zeg
 rw [zy5,if_pos (by kernel_rfl)]
theorem zy6:zeg zba stA.all stJ=(zba,160):=by
 unfold zeg
 rw [if_neg (by rw [Bool.not_eq_true];kernel_rfl)]
theorem ziy:SmallS zba:=⟨by decide,by decide,by decide,fun e h=>by cases h⟩
theorem zub:SmallE entA:=⟨by decide,by decide,by decide,(fun it h=>by cases h),by decide⟩
theorem zuc:SmallE entJ:=⟨by decide,by decide,by decide,(fun it h=>by cases h),by decide⟩
theorem zud:SmallE entB:=⟨by decide,by decide,by decide,(fun it h=>by cases h),by decide⟩
theorem ziq:SmallS stA:=⟨by decide,by decide,by decide,fun e h=>by rw [List.mem_singleton.1 h];exact zub⟩
theorem zw3:SmallS stB:=⟨by decide,by decide,by decide,fun e h=>by rw [List.mem_singleton.1 h];exact zud⟩
theorem small_stJ:SmallS stJ:=⟨by decide,by decide,by decide,fun e h=>by rw [List.mem_singleton.1 h];exact zuc⟩
end
section
open Go.RowKit Go.Shelf
theorem zo7 (w:World):Calls Tryz.prog 12 #[] w fun r w'=>r=.returned (.bool true)∧Ext w w':=by
 have C1:=zH (zj0 (w:=w) [49] opA (by decide) (by decide) (StAt.none w (fun _=>True) none none none) ziy)
 have hxw:=Ext.refl w
 go_enter Tryz.func12,Tryz.ntmps12
 go_wp2_with fail
 refine C1.out.mono ?_
 clear C1
 rintro r V ⟨u1,u2,u3,rfl,hS,hxV⟩
 rw [zz0] at hS ⊢
 obtain⟨A1,na1,rfl,-,-⟩:∃ A c,u1=Value.slice A 1 c∧1≤c∧c≤9223372036854775807:=hS.all.form
 obtain⟨A2,na2,rfl,-,-⟩:∃ A c,u2=Value.slice A 1 c∧1≤c∧c≤9223372036854775807:=hS.entries.form
 obtain⟨A3,na3,rfl,-,-⟩:∃ A c,u3=Value.slice A 0 c∧0≤c∧c≤9223372036854775807:=hS.pruned.form
 have hxa:=(Ext.refl V).alloc (.cells #[.slice A1 1 na1,.slice A2 1 na2,.slice A3 0 na3] 30)
 have rr1:=zah V 30 [.slice A1 1 na1,.slice A2 1 na2,.slice A3 0 na3]
 have hsz1:V.heap.size < (V.alloc (.cells #[.slice A1 1 na1,.slice A2 1 na2,.slice A3 0 na3] 30)).heap.size:=by simp
 have hxw':=(hxw.trans hxV).trans hxa
 have sA:=hS.ext hxa
 clear hxw hxa hxV hsz1
 have hxw:=hxw'
 clear hxw'
 obtain⟨W1,hW1⟩:∃ W,V.alloc (.cells #[.slice A1 1 na1,.slice A2 1 na2,.slice A3 0 na3] 30)=W:=⟨_,rfl⟩
 rw [hW1] at rr1 hxw sA
 obtain⟨g1,hg1⟩:∃ g,V.heap.size=g:=⟨_,rfl⟩
 rw [hg1] at rr1
 replace sA:=sA.mono (S':=fun _=>True) (fun _ _ _=>trivial)
 have C2:=zH (zj0 (w:=W1) [49,46,49] opB (by decide) (by decide) (StAt.none W1 (fun _=>True) none none none) ziy)
 go_wp2_with fail
 (try rw [hg1])
 (try rw [hW1])
 clear hW1 hg1 V hS
 refine C2.out.mono ?_
 clear C2
 rintro r V ⟨u1,u2,u3,rfl,hS,hxV⟩
 rw [zz1] at hS ⊢
 obtain⟨B1,nb1,rfl,-,-⟩:∃ A c,u1=Value.slice A 1 c∧1≤c∧c≤9223372036854775807:=hS.all.form
 obtain⟨B2,nb2,rfl,-,-⟩:∃ A c,u2=Value.slice A 1 c∧1≤c∧c≤9223372036854775807:=hS.entries.form
 obtain⟨B3,nb3,rfl,-,-⟩:∃ A c,u3=Value.slice A 0 c∧0≤c∧c≤9223372036854775807:=hS.pruned.form
 have hxa:=(Ext.refl V).alloc (.cells #[.slice B1 1 nb1,.slice B2 1 nb2,.slice B3 0 nb3] 30)
 have rr2:=zah V 30 [.slice B1 1 nb1,.slice B2 1 nb2,.slice B3 0 nb3]
 have hsz2:V.heap.size < (V.alloc (.cells #[.slice B1 1 nb1,.slice B2 1 nb2,.slice B3 0 nb3] 30)).heap.size:=by simp
 have sA':=(sA.ext hxV).ext hxa
 have rr1':=(rr1.ext hxV).ext hxa
 have hxw':=(hxw.trans hxV).trans hxa
 have sB:=hS.ext hxa
 clear hxw hxa hxV hsz2 sA rr1
 have sA:=sA'
 have rr1:=rr1'
 have hxw:=hxw'
 clear hxw' sA' rr1'
 obtain⟨W2,hW2⟩:∃ W,V.alloc (.cells #[.slice B1 1 nb1,.slice B2 1 nb2,.slice B3 0 nb3] 30)=W:=⟨_,rfl⟩
 rw [hW2] at rr2 hxw sA rr1 sB
 obtain⟨g2,hg2⟩:∃ g,V.heap.size=g:=⟨_,rfl⟩
 rw [hg2] at rr2
 replace sB:=sB.mono (S':=fun _=>True) (fun _ _ _=>trivial)
 have C3:=zH (zkx sA sB ziq zw3)
 obtain⟨ka0,ka1,ka2⟩:=rr1.p3
 obtain⟨kb0,kb1,kb2⟩:=rr2.p3
 go_wp2_with fail
 (try rw [hg2])
 (try rw [hW2])
 clear hW2 hg2 V hS ka0 ka1 ka2 kb0 kb1 kb2
 refine C3.out.mono ?_
 clear C3
 rintro r V ⟨u1,u2,u3,rfl,hS,hxV⟩
 rw [yab] at hS
 obtain⟨J1,nj1,rfl,-,-⟩:∃ A c,u1=Value.slice A 2 c∧2≤c∧c≤9223372036854775807:=hS.all.form
 obtain⟨J2,nj2,rfl,-,-⟩:∃ A c,u2=Value.slice A 1 c∧1≤c∧c≤9223372036854775807:=hS.entries.form
 obtain⟨J3,nj3,rfl,-,-⟩:∃ A c,u3=Value.slice A 0 c∧0≤c∧c≤9223372036854775807:=hS.pruned.form
 have hxa:=(Ext.refl V).alloc (.cells #[.slice J1 2 nj1,.slice J2 1 nj2,.slice J3 0 nj3] 30)
 have rr3:=zah V 30 [.slice J1 2 nj1,.slice J2 1 nj2,.slice J3 0 nj3]
 have hsz3:V.heap.size < (V.alloc (.cells #[.slice J1 2 nj1,.slice J2 1 nj2,.slice J3 0 nj3] 30)).heap.size:=by simp
 have sA':=(sA.ext hxV).ext hxa
 have rr1':=(rr1.ext hxV).ext hxa
 have sB':=(sB.ext hxV).ext hxa
 have rr2':=(rr2.ext hxV).ext hxa
 have hxw':=(hxw.trans hxV).trans hxa
 have sJ:=hS.at.ext hxa
 clear hxw hxa hxV hsz3 sA rr1 sB rr2
 have sA:=sA'
 have rr1:=rr1'
 have sB:=sB'
 have rr2:=rr2'
 have hxw:=hxw'
 clear hxw' sA' rr1' sB' rr2'
 obtain⟨W3,hW3⟩:∃ W,V.alloc (.cells #[.slice J1 2 nj1,.slice J2 1 nj2,.slice J3 0 nj3] 30)=W:=⟨_,rfl⟩
 rw [hW3] at rr3 hxw sA rr1 sB rr2 sJ
 obtain⟨g3,hg3⟩:∃ g,V.heap.size=g:=⟨_,rfl⟩
 rw [hg3] at rr3
 replace sJ:=sJ.mono (S':=fun _=>True) (fun _ _ _=>trivial)
 have C4:=zH (zjt sJ sA.all small_stJ (by decide))
 obtain⟨kj0,kj1,kj2⟩:=rr3.p3
 have ka0:=rr1.cell (j:=0) rfl
 go_wp2_with fail
 (try rw [hg3])
 (try rw [hW3])
 clear hW3 hg3 V hS kj0 kj1 kj2 ka0
 refine C4.out.mono ?_
 clear C4
 rintro r V ⟨u0,u1,u2,u3,rfl,hb,hS,hxV⟩
 rw [zz4] at hS
 rw [zy2] at hb
 obtain⟨D0,nd0,rfl,-,-⟩:∃ A c,u0=Value.slice A 1 c∧1≤c∧c≤9223372036854775807:=hb.form
 obtain⟨D1,nd1,rfl,-,-⟩:∃ A c,u1=Value.slice A 2 c∧2≤c∧c≤9223372036854775807:=hS.all.form
 obtain⟨D2,nd2,rfl,-,-⟩:∃ A c,u2=Value.slice A 1 c∧1≤c∧c≤9223372036854775807:=hS.entries.form
 obtain⟨D3,nd3,rfl,-,-⟩:∃ A c,u3=Value.slice A 0 c∧0≤c∧c≤9223372036854775807:=hS.pruned.form
 have hxa:=(Ext.refl V).alloc (.cells #[.slice D0 1 nd0,.slice D1 2 nd1,.slice D2 1 nd2,.slice D3 0 nd3] 64)
 have rr4:=zah V 64 [.slice D0 1 nd0,.slice D1 2 nd1,.slice D2 1 nd2,.slice D3 0 nd3]
 have hsz4:V.heap.size < (V.alloc (.cells #[.slice D0 1 nd0,.slice D1 2 nd1,.slice D2 1 nd2,.slice D3 0 nd3] 64)).heap.size:=by simp
 have sA':=(sA.ext hxV).ext hxa
 have rr1':=(rr1.ext hxV).ext hxa
 have sB':=(sB.ext hxV).ext hxa
 have rr2':=(rr2.ext hxV).ext hxa
 have sJ':=(sJ.ext hxV).ext hxa
 have rr3':=(rr3.ext hxV).ext hxa
 have hxw':=(hxw.trans hxV).trans hxa
 have sD:=hS.at.ext hxa
 have sD0:=hb.ext hxa
 clear hxw hxa hxV hsz4 sA rr1 sB rr2 sJ rr3
 have sA:=sA'
 have rr1:=rr1'
 have sB:=sB'
 have rr2:=rr2'
 have sJ:=sJ'
 have rr3:=rr3'
 have hxw:=hxw'
 clear hxw' sA' rr1' sB' rr2' sJ' rr3'
 obtain⟨W4,hW4⟩:∃ W,V.alloc (.cells #[.slice D0 1 nd0,.slice D1 2 nd1,.slice D2 1 nd2,.slice D3 0 nd3] 64)=W:=⟨_,rfl⟩
 rw [hW4] at rr4 hxw sA rr1 sB rr2 sJ rr3 sD sD0
 obtain⟨g4,hg4⟩:∃ g,V.heap.size=g:=⟨_,rfl⟩
 rw [hg4] at rr4
 replace sD:=sD.mono (S':=fun _=>True) (fun _ _ _=>trivial)
 replace sD0:=(zbt (l:=stA.all) sD0).mono (S':=fun _=>True) (by decide) (fun _ _ _=>trivial)
 have C5:=zH (zju sA sD sD0 ziq small_stJ (by decide))
 obtain⟨ka0,ka1,ka2⟩:=rr1.p3
 obtain⟨kd0,kd1,kd2,kd3⟩:=rr4.p4
 go_wp2_with fail
 (try rw [hg4])
 (try rw [hW4])
 clear hW4 hg4 V hS hb ka0 ka1 ka2 kd0 kd1 kd2 kd3
 refine C5.out.mono ?_
 clear C5
 rintro r V ⟨u1,u2,u3,rfl,hS,hxV⟩
 rw [yac] at hS ⊢
 obtain⟨K1,nk1,rfl,-,-⟩:∃ A c,u1=Value.slice A 2 c∧2≤c∧c≤9223372036854775807:=hS.all.form
 obtain⟨K2,nk2,rfl,-,-⟩:∃ A c,u2=Value.slice A 1 c∧1≤c∧c≤9223372036854775807:=hS.entries.form
 obtain⟨K3,nk3,rfl,-,-⟩:∃ A c,u3=Value.slice A 0 c∧0≤c∧c≤9223372036854775807:=hS.pruned.form
 have hxa:=(Ext.refl V).alloc (.cells #[.slice K1 2 nk1,.slice K2 1 nk2,.slice K3 0 nk3] 30)
 have rr5:=zah V 30 [.slice K1 2 nk1,.slice K2 1 nk2,.slice K3 0 nk3]
 have hsz5:V.heap.size < (V.alloc (.cells #[.slice K1 2 nk1,.slice K2 1 nk2,.slice K3 0 nk3] 30)).heap.size:=by simp
 have sA':=(sA.ext hxV).ext hxa
 have rr1':=(rr1.ext hxV).ext hxa
 have sB':=(sB.ext hxV).ext hxa
 have rr2':=(rr2.ext hxV).ext hxa
 have sJ':=(sJ.ext hxV).ext hxa
 have rr3':=(rr3.ext hxV).ext hxa
 have sD':=(sD.ext hxV).ext hxa
 have sD0':=(sD0.ext (by decide) hxV).ext (by decide) hxa
 have rr4':=(rr4.ext hxV).ext hxa
 have hxw':=(hxw.trans hxV).trans hxa
 have sK:=hS.ext hxa
 clear hxw hxa hxV hsz5 sA rr1 sB rr2 sJ rr3 sD sD0 rr4
 have sA:=sA'
 have rr1:=rr1'
 have sB:=sB'
 have rr2:=rr2'
 have sJ:=sJ'
 have rr3:=rr3'
 have sD:=sD'
 have sD0:=sD0'
 have rr4:=rr4'
 have hxw:=hxw'
 clear hxw' sA' rr1' sB' rr2' sJ' rr3' sD' sD0' rr4'
 obtain⟨W5,hW5⟩:∃ W,V.alloc (.cells #[.slice K1 2 nk1,.slice K2 1 nk2,.slice K3 0 nk3] 30)=W:=⟨_,rfl⟩
 rw [hW5] at rr5 hxw sA rr1 sB rr2 sJ rr3 sD sD0 rr4 sK
 obtain⟨g5,hg5⟩:∃ g,V.heap.size=g:=⟨_,rfl⟩
 rw [hg5] at rr5
 replace sK:=sK.mono (S':=fun _=>True) (fun _ _ _=>trivial)
 have C6:=zH (zju (w:=W5) (StAt.none W5 (fun _=>True) none none none) sD sD0 ziy small_stJ (by decide))
 obtain⟨kd0,kd1,kd2,kd3⟩:=rr4.p4
 go_wp2_with fail
 (try rw [hg5])
 (try rw [hW5])
 clear hW5 hg5 V hS kd0 kd1 kd2 kd3
 refine C6.out.mono ?_
 clear C6
 rintro r V ⟨u1,u2,u3,rfl,hS,hxV⟩
 rw [zy6] at hS ⊢
 obtain⟨H1,nh1,rfl,-,-⟩:∃ A c,u1=Value.slice A 0 c∧0≤c∧c≤9223372036854775807:=hS.all.form
 obtain⟨H2,nh2,rfl,-,-⟩:∃ A c,u2=Value.slice A 0 c∧0≤c∧c≤9223372036854775807:=hS.entries.form
 obtain⟨H3,nh3,rfl,-,-⟩:∃ A c,u3=Value.slice A 0 c∧0≤c∧c≤9223372036854775807:=hS.pruned.form
 have hxa:=(Ext.refl V).alloc (.cells #[.slice H1 0 nh1,.slice H2 0 nh2,.slice H3 0 nh3] 30)
 have rr6:=zah V 30 [.slice H1 0 nh1,.slice H2 0 nh2,.slice H3 0 nh3]
 have hsz6:V.heap.size < (V.alloc (.cells #[.slice H1 0 nh1,.slice H2 0 nh2,.slice H3 0 nh3] 30)).heap.size:=by simp
 have sA':=(sA.ext hxV).ext hxa
 have rr1':=(rr1.ext hxV).ext hxa
 have sB':=(sB.ext hxV).ext hxa
 have rr2':=(rr2.ext hxV).ext hxa
 have sJ':=(sJ.ext hxV).ext hxa
 have rr3':=(rr3.ext hxV).ext hxa
 have sD':=(sD.ext hxV).ext hxa
 have sD0':=(sD0.ext (by decide) hxV).ext (by decide) hxa
 have rr4':=(rr4.ext hxV).ext hxa
 have sK':=(sK.ext hxV).ext hxa
 have rr5':=(rr5.ext hxV).ext hxa
 have hxw':=(hxw.trans hxV).trans hxa
 clear hxw hxa hxV hsz6 sA rr1 sB rr2 sJ rr3 sD sD0 rr4 sK rr5
 have sA:=sA'
 have rr1:=rr1'
 have sB:=sB'
 have rr2:=rr2'
 have sJ:=sJ'
 have rr3:=rr3'
 have sD:=sD'
 have sD0:=sD0'
 have rr4:=rr4'
 have sK:=sK'
 have rr5:=rr5'
 have hxw:=hxw'
 clear hxw' sA' rr1' sB' rr2' sJ' rr3' sD' sD0' rr4' sK' rr5'
 obtain⟨W6,hW6⟩:∃ W,V.alloc (.cells #[.slice H1 0 nh1,.slice H2 0 nh2,.slice H3 0 nh3] 30)=W:=⟨_,rfl⟩
 rw [hW6] at rr6 hxw sA rr1 sB rr2 sJ rr3 sD sD0 rr4 sK rr5
 obtain⟨g6,hg6⟩:∃ g,V.heap.size=g:=⟨_,rfl⟩
 rw [hg6] at rr6
 have C7:=zH (zqh (w:=W6) [49] 3 (by decide) sA ziq)
 obtain⟨ka0,ka1,ka2⟩:=rr1.p3
 go_wp2_with fail
 (try rw [hg6])
 (try rw [hW6])
 clear hW6 hg6 V hS ka0 ka1 ka2
 refine C7.out.mono ?_
 clear C7
 rintro r V ⟨u1,u2,u3,rfl,hS,hxV⟩
 rw [zz2] at hS ⊢
 obtain⟨R1,nr1,rfl,-,-⟩:∃ A c,u1=Value.slice A 1 c∧1≤c∧c≤9223372036854775807:=hS.all.form
 obtain⟨R2,nr2,rfl,-,-⟩:∃ A c,u2=Value.slice A 1 c∧1≤c∧c≤9223372036854775807:=hS.entries.form
 obtain⟨R3,nr3,rfl,-,-⟩:∃ A c,u3=Value.slice A 0 c∧0≤c∧c≤9223372036854775807:=hS.pruned.form
 have hxa:=(Ext.refl V).alloc (.cells #[.slice R1 1 nr1,.slice R2 1 nr2,.slice R3 0 nr3] 30)
 have rr7:=zah V 30 [.slice R1 1 nr1,.slice R2 1 nr2,.slice R3 0 nr3]
 have hsz7:V.heap.size < (V.alloc (.cells #[.slice R1 1 nr1,.slice R2 1 nr2,.slice R3 0 nr3] 30)).heap.size:=by simp
 have sA':=(sA.ext hxV).ext hxa
 have rr1':=(rr1.ext hxV).ext hxa
 have sB':=(sB.ext hxV).ext hxa
 have rr2':=(rr2.ext hxV).ext hxa
 have sJ':=(sJ.ext hxV).ext hxa
 have rr3':=(rr3.ext hxV).ext hxa
 have sD':=(sD.ext hxV).ext hxa
 have sD0':=(sD0.ext (by decide) hxV).ext (by decide) hxa
 have rr4':=(rr4.ext hxV).ext hxa
 have sK':=(sK.ext hxV).ext hxa
 have rr5':=(rr5.ext hxV).ext hxa
 have rr6':=(rr6.ext hxV).ext hxa
 have hxw':=(hxw.trans hxV).trans hxa
 have sR:=hS.ext hxa
 clear hxw hxa hxV hsz7 sA rr1 sB rr2 sJ rr3 sD sD0 rr4 sK rr5 rr6
 have sA:=sA'
 have rr1:=rr1'
 have sB:=sB'
 have rr2:=rr2'
 have sJ:=sJ'
 have rr3:=rr3'
 have sD:=sD'
 have sD0:=sD0'
 have rr4:=rr4'
 have sK:=sK'
 have rr5:=rr5'
 have rr6:=rr6'
 have hxw:=hxw'
 clear hxw' sA' rr1' sB' rr2' sJ' rr3' sD' sD0' rr4' sK' rr5' rr6'
 obtain⟨W7,hW7⟩:∃ W,V.alloc (.cells #[.slice R1 1 nr1,.slice R2 1 nr2,.slice R3 0 nr3] 30)=W:=⟨_,rfl⟩
 rw [hW7] at rr7 hxw sA rr1 sB rr2 sJ rr3 sD sD0 rr4 sK rr5 rr6 sR
 obtain⟨g7,hg7⟩:∃ g,V.heap.size=g:=⟨_,rfl⟩
 rw [hg7] at rr7
 replace sR:=sR.mono (S':=fun _=>True) (fun _ _ _=>trivial)
 have C8:=zH (zj0 (w:=W7) [] op0 (by decide) (by decide) sA ziq)
 obtain⟨ka0,ka1,ka2⟩:=rr1.p3
 go_wp2_with fail
 (try rw [hg7])
 (try rw [hW7])
 clear hW7 hg7 V hS ka0 ka1 ka2
 refine C8.out.mono ?_
 clear C8
 rintro r V ⟨u1,u2,u3,rfl,hS,hxV⟩
 rw [zz3] at hS ⊢
 obtain⟨M1,nm1,rfl,-,-⟩:∃ A c,u1=Value.slice A 0 c∧0≤c∧c≤9223372036854775807:=hS.all.form
 obtain⟨M2,nm2,rfl,-,-⟩:∃ A c,u2=Value.slice A 0 c∧0≤c∧c≤9223372036854775807:=hS.entries.form
 obtain⟨M3,nm3,rfl,-,-⟩:∃ A c,u3=Value.slice A 0 c∧0≤c∧c≤9223372036854775807:=hS.pruned.form
 have hxa:=(Ext.refl V).alloc (.cells #[.slice M1 0 nm1,.slice M2 0 nm2,.slice M3 0 nm3] 30)
 have rr8:=zah V 30 [.slice M1 0 nm1,.slice M2 0 nm2,.slice M3 0 nm3]
 have hsz8:V.heap.size < (V.alloc (.cells #[.slice M1 0 nm1,.slice M2 0 nm2,.slice M3 0 nm3] 30)).heap.size:=by simp
 have sA':=(sA.ext hxV).ext hxa
 have rr1':=(rr1.ext hxV).ext hxa
 have sB':=(sB.ext hxV).ext hxa
 have rr2':=(rr2.ext hxV).ext hxa
 have sJ':=(sJ.ext hxV).ext hxa
 have rr3':=(rr3.ext hxV).ext hxa
 have sD':=(sD.ext hxV).ext hxa
 have sD0':=(sD0.ext (by decide) hxV).ext (by decide) hxa
 have rr4':=(rr4.ext hxV).ext hxa
 have sK':=(sK.ext hxV).ext hxa
 have rr5':=(rr5.ext hxV).ext hxa
 have rr6':=(rr6.ext hxV).ext hxa
 have sR':=(sR.ext hxV).ext hxa
 have rr7':=(rr7.ext hxV).ext hxa
 have hxw':=(hxw.trans hxV).trans hxa
 clear hxw hxa hxV hsz8 sA rr1 sB rr2 sJ rr3 sD sD0 rr4 sK rr5 rr6 sR rr7
 have sA:=sA'
 have rr1:=rr1'
 have sB:=sB'
 have rr2:=rr2'
 have sJ:=sJ'
 have rr3:=rr3'
 have sD:=sD'
 have sD0:=sD0'
 have rr4:=rr4'
 have sK:=sK'
 have rr5:=rr5'
 have rr6:=rr6'
 have sR:=sR'
 have rr7:=rr7'
 have hxw:=hxw'
 clear hxw' sA' rr1' sB' rr2' sJ' rr3' sD' sD0' rr4' sK' rr5' rr6' sR' rr7'
 obtain⟨W8,hW8⟩:∃ W,V.alloc (.cells #[.slice M1 0 nm1,.slice M2 0 nm2,.slice M3 0 nm3] 30)=W:=⟨_,rfl⟩
 rw [hW8] at rr8 hxw sA rr1 sB rr2 sJ rr3 sD sD0 rr4 sK rr5 rr6 sR rr7
 obtain⟨g8,hg8⟩:∃ g,V.heap.size=g:=⟨_,rfl⟩
 rw [hg8] at rr8
 have C9:=zH (zzr (w:=W8) [35,110] sJ small_stJ.each)
 obtain⟨kj0,kj1,kj2⟩:=rr3.p3
 go_wp2_with fail
 (try rw [hg8])
 (try rw [hW8])
 clear hW8 hg8 V hS kj0 kj1 kj2
 refine C9.out.mono ?_
 clear C9
 rintro r V ⟨u1,u2,u3,rfl,hn,hxV⟩
 rw [zz6] at hn ⊢
 simp only [Option.getD_some,Option.isSome_some] at hn ⊢
 obtain⟨X1,nx1,rfl,-,-⟩:∃ A c,u1=Value.slice A 2 c∧2≤c∧c≤9223372036854775807:=hn.seen.form
 obtain⟨X2,nx2,rfl,-,-⟩:∃ A c,u2=Value.slice A 2 c∧2≤c∧c≤9223372036854775807:=hn.counts.form
 obtain⟨X3,nx3,rfl,-,-⟩:∃ A c,u3=Value.slice A 0 c∧0≤c∧c≤9223372036854775807:=hn.items.form
 have hxa:=(Ext.refl V).alloc (.cells #[St entJ.key,.slice X1 2 nx1,.slice X2 2 nx2,.slice X3 0 nx3,U entJ.cell.1,St entJ.cell.2.1,.bool entJ.cell.2.2] 37)
 have rr9:=zah V 37 [St entJ.key,.slice X1 2 nx1,.slice X2 2 nx2,.slice X3 0 nx3,U entJ.cell.1,St entJ.cell.2.1,.bool entJ.cell.2.2]
 have hsz9:V.heap.size < (V.alloc (.cells #[St entJ.key,.slice X1 2 nx1,.slice X2 2 nx2,.slice X3 0 nx3,U entJ.cell.1,St entJ.cell.2.1,.bool entJ.cell.2.2] 37)).heap.size:=by simp
 have sA':=(sA.ext hxV).ext hxa
 have rr1':=(rr1.ext hxV).ext hxa
 have sB':=(sB.ext hxV).ext hxa
 have rr2':=(rr2.ext hxV).ext hxa
 have sJ':=(sJ.ext hxV).ext hxa
 have rr3':=(rr3.ext hxV).ext hxa
 have sD':=(sD.ext hxV).ext hxa
 have sD0':=(sD0.ext (by decide) hxV).ext (by decide) hxa
 have rr4':=(rr4.ext hxV).ext hxa
 have sK':=(sK.ext hxV).ext hxa
 have rr5':=(rr5.ext hxV).ext hxa
 have rr6':=(rr6.ext hxV).ext hxa
 have sR':=(sR.ext hxV).ext hxa
 have rr7':=(rr7.ext hxV).ext hxa
 have rr8':=(rr8.ext hxV).ext hxa
 have hxw':=(hxw.trans hxV).trans hxa
 clear hxw hxa hxV hsz9 sA rr1 sB rr2 sJ rr3 sD sD0 rr4 sK rr5 rr6 sR rr7 rr8
 have sA:=sA'
 have rr1:=rr1'
 have sB:=sB'
 have rr2:=rr2'
 have sJ:=sJ'
 have rr3:=rr3'
 have sD:=sD'
 have sD0:=sD0'
 have rr4:=rr4'
 have sK:=sK'
 have rr5:=rr5'
 have rr6:=rr6'
 have sR:=sR'
 have rr7:=rr7'
 have rr8:=rr8'
 have hxw:=hxw'
 clear hxw' sA' rr1' sB' rr2' sJ' rr3' sD' sD0' rr4' sK' rr5' rr6' sR' rr7' rr8'
 obtain⟨W9,hW9⟩:∃ W,V.alloc (.cells #[St entJ.key,.slice X1 2 nx1,.slice X2 2 nx2,.slice X3 0 nx3,U entJ.cell.1,St entJ.cell.2.1,.bool entJ.cell.2.2] 37)=W:=⟨_,rfl⟩
 rw [hW9] at rr9 hxw sA rr1 sB rr2 sJ rr3 sD sD0 rr4 sK rr5 rr6 sR rr7 rr8
 obtain⟨g9,hg9⟩:∃ g,V.heap.size=g:=⟨_,rfl⟩
 rw [hg9] at rr9
 have C10:=zH (zqg (w:=W9) [35,110] sJ small_stJ.each)
 obtain⟨kj0,kj1,kj2⟩:=rr3.p3
 go_wp2_with fail
 (try rw [hg9])
 (try rw [hW9])
 clear hW9 hg9 V hn kj0 kj1 kj2
 refine C10.out.mono ?_
 clear C10
 rintro r V ⟨v,rfl,hv,hxV⟩
 rw [zz7] at hv
 unfold ValAt at hv
 rw [zz8,if_pos rfl,zz9] at hv
 subst hv
 have CI:=zH (zw5 7 7 none 0 0 [] false V)
 have sA:=sA.ext hxV
 have rr1:=rr1.ext hxV
 have sB:=sB.ext hxV
 have rr2:=rr2.ext hxV
 have sJ:=sJ.ext hxV
 have rr3:=rr3.ext hxV
 have sD:=sD.ext hxV
 have sD0:=sD0.ext (by decide) hxV
 have rr4:=rr4.ext hxV
 have sK:=sK.ext hxV
 have rr5:=rr5.ext hxV
 have rr6:=rr6.ext hxV
 have sR:=sR.ext hxV
 have rr7:=rr7.ext hxV
 have rr8:=rr8.ext hxV
 have rr9:=rr9.ext hxV
 have hxw:=hxw.trans hxV
 clear hxV
 go_wp2_with fail
 refine CI.out.mono ?_
 clear CI
 rintro r Z ⟨rfl,hxV⟩
 have sA:=sA.ext hxV
 have rr1:=rr1.ext hxV
 have sB:=sB.ext hxV
 have rr2:=rr2.ext hxV
 have sJ:=sJ.ext hxV
 have rr3:=rr3.ext hxV
 have sD:=sD.ext hxV
 have sD0:=sD0.ext (by decide) hxV
 have rr4:=rr4.ext hxV
 have sK:=sK.ext hxV
 have rr5:=rr5.ext hxV
 have rr6:=rr6.ext hxV
 have sR:=sR.ext hxV
 have rr7:=rr7.ext hxV
 have rr8:=rr8.ext hxV
 have rr9:=rr9.ext hxV
 have hxw:=hxw.trans hxV
 clear hxV
 go_wp2_with fail
 have hend:=trivial
 clear hend
 refine za3 [fun v _=>v=I 0,
   fun v _=>v=.bool true,
   fun v _=>v=.bool true,
   fun v _=>v=I 0,
   fun v _=>v=.bool true,
   fun v _=>v=.bool true,
   fun v _=>v=.bool true,
   fun v _=>v=.bool true,
   fun v _=>v=.bool true,
   fun v _=>v=.bool true,
   fun v _=>v=.pointer (some ⟨g4,1,none⟩),
   fun v _=>v=.pointer (some ⟨g4,2,none⟩),
   fun v _=>v=.slice D2 1 nd2,
   fun v _=>v=I 1,
   fun v _=>v=.bool true,
   fun v _=>v=.bool true,
   fun v _=>v=.bool true,
   fun v _=>v=.agg #[.slice J1 2 nj1,.slice J2 1 nj2,.slice J3 0 nj3],
   fun v _=>v=.pointer (some ⟨g3,0,none⟩),
   fun v _=>v=.slice J1 2 nj1,
   fun v _=>∃ A0 n0 A1 n1 A2 n2 A3 n3,v=dltV (.slice A0 2 n0) (.slice A1 2 n1) (.slice A2 0 n2) (.slice A3 0 n3),
   fun v _=>∃ A1 n1 A2 n2 A3 n3,v=stV (.slice A1 2 n1) (.slice A2 0 n2) (.slice A3 0 n3),
   fun v _=>∃ A2 n2,v=.slice A2 0 n2,
   fun v _=>v=I 0,
   fun v _=>v=.bool true,
   fun v _=>v=.bool true,
   fun v _=>v=.bool true,
   fun v _=>v=.agg #[.slice K1 2 nk1,.slice K2 1 nk2,.slice K3 0 nk3],
   fun v _=>v=.agg #[.slice J1 2 nj1,.slice J2 1 nj2,.slice J3 0 nj3],
   fun v _=>v=.bool true,
   fun v _=>v=.bool true,
   fun v _=>v=.bool true,
   fun v _=>v=I 0,
   fun v _=>v=.bool true,
   fun v _=>v=.bool true,
   fun v _=>v=.bool true,
   fun v _=>v=I 160,
   fun v _=>v=.bool true,
   fun v _=>v=.bool true,
   fun v _=>v=.bool true,
   fun v _=>v=.pointer (some ⟨g7,0,none⟩),
   fun v _=>v=.slice R1 1 nr1,
   fun v _=>v=U 4,
   fun v _=>v=.bool true,
   fun v _=>v=.bool true,
   fun v _=>v=.bool true,
   fun v _=>v=I 0,
   fun v _=>v=.bool true,
   fun v _=>v=.bool true,
   fun v _=>v=.bool true,
   fun v _=>v=I 2,
   fun v _=>v=.bool true,
   fun v _=>v=.bool true,
   fun v _=>v=.bool true,
   fun v _=>v=.pointer (some ⟨g9,0,none⟩),
   fun v _=>v=St [35,110],
   fun v _=>v=.bool true,
   fun v _=>v=.bool true,
   fun v _=>v=.bool true,
   fun v _=>v=.bool true,
   fun v _=>v=.bool true,
   fun v _=>v=.bool true,
   fun v _=>v=.agg #[.slice J1 2 nj1,.slice J2 1 nj2,.slice J3 0 nj3],
   fun v _=>v=.bool true,
   fun v _=>v=.bool true,
   fun v _=>v=.bool true,
   fun v _=>v=.agg #[.slice J1 2 nj1,.slice J2 1 nj2,.slice J3 0 nj3],
   fun v W=>∃ A1 n1 A2 n2 A3 n3,v=stV (.slice A1 2 n1) (.slice A2 1 n2) (.slice A3 0 n3)∧StAt W (fun _=>True) stJ (.slice A1 2 n1) (.slice A2 1 n2) (.slice A3 0 n3),
   fun v _=>v=.agg #[.slice J1 2 nj1,.slice J2 1 nj2,.slice J3 0 nj3],
   fun v _=>v=.bool true,
   fun v _=>v=.bool true] rfl (by kernel_rfl) ?hR ?hstep ?hend
 case hR =>
  simp only [List.mem_cons,List.not_mem_nil,or_false,forall_eq_or_imp,forall_eq]
  exact⟨kP,kP,kP,kP,kP,kP,kP,kP,kP,kP,kP,kP,kP,kP,kP,kP,kP,kP,kP,kP,kP,kP,kP,kP,kP,kP,kP,kP,kP,kP,kP,kP,kP,kP,kP,kP,kP,kP,kP,kP,kP,kP,kP,kP,kP,kP,kP,kP,kP,kP,kP,kP,kP,kP,kP,kP,kP,kP,kP,kP,kP,kP,kP,kP,kP,kP,kP,fun v _ _ h he=>by obtain⟨A1,n1,A2,n2,A3,n3,e,a⟩:=h;exact⟨A1,n1,A2,n2,A3,n3,e,a.ext he⟩,kP,kP,kP⟩
 case hstep =>
  simp only [List.append_eq,List.cons_append,List.nil_append,List.length_cons,List.length_nil,Nat.reduceAdd,List.take_succ_cons,List.take_zero,zb3,and_true]
  refine ⟨?_,?_,?_,?_,?_,?_,?_,?_,?_,?_,?_,?_,?_,?_,?_,?_,?_,?_,?_,?_,?_,?_,?_,?_,?_,?_,?_,?_,?_,?_,?_,?_,?_,?_,?_,?_,?_,?_,?_,?_,?_,?_,?_,?_,?_,?_,?_,?_,?_,?_,?_,?_,?_,?_,?_,?_,?_,?_,?_,?_,?_,?_,?_,?_,?_,?_,?_,?_,?_,?_,?_⟩
  ·intro x W he f
   have h0:x 2=I 0:=f.1
   go_wp
   exact sQ
  ·intro x W he f
   have h0:x 69=I 0:=f.1
   go_wp
   exact sQ
  ·intro x W he f
   have h0:x 70=.bool true:=f.1
   go_wp
   exact sQ
  ·intro x W he f
   have h0:x 4=I 0:=f.1
   have hg:x 71=.bool true:=f.2.1
   go_wp
   exact sQ
  ·intro x W he f
   have h0:x 72=I 0:=f.1
   have hg:x 71=.bool true:=f.2.1
   go_wp
   exact sQ
  ·intro x W he f
   have h0:x 71=.bool true:=f.1
   have h1:x 73=.bool true:=f.2.1
   go_wp
   exact sQ
  ·intro x W he f
   have h0:x 74=.bool true:=f.1
   go_wp
   exact sQ
  ·intro x W he f
   have h0:x 17=.bool true:=f.1
   have hg:x 75=.bool true:=f.2.1
   go_wp
   exact sQ
  ·intro x W he f
   have h0:x 75=.bool true:=f.1
   have h1:x 76=.bool true:=f.2.1
   go_wp
   exact sQ
  ·intro x W he f
   have h0:x 77=.bool true:=f.1
   go_wp
   exact sQ
  ·intro x W he f
   have h0:x 6=.pointer (some ⟨g4,0,none⟩):=f.1
   have hg:x 78=.bool true:=f.2.1
   go_wp
   exact sQ
  ·intro x W he f
   have h0:x 79=.pointer (some ⟨g4,1,none⟩):=f.1
   have hg:x 78=.bool true:=f.2.1
   go_wp
   exact sQ
  ·intro x W he f
   have h0:x 80=.pointer (some ⟨g4,2,none⟩):=f.1
   have hg:x 78=.bool true:=f.2.1
   have c2:=(rr4.ext he).cell (j:=2) rfl
   go_wp
   exact sQ
  ·intro x W he f
   have h0:x 81=.slice D2 1 nd2:=f.1
   have hg:x 78=.bool true:=f.2.1
   go_wp
   exact sQ
  ·intro x W he f
   have h0:x 82=I 1:=f.1
   have hg:x 78=.bool true:=f.2.1
   go_wp
   exact sQ
  ·intro x W he f
   have h0:x 78=.bool true:=f.1
   have h1:x 83=.bool true:=f.2.1
   go_wp
   exact sQ
  ·intro x W he f
   have h0:x 84=.bool true:=f.1
   go_wp
   exact sQ
  ·intro x W he f
   have h0:x 5=.pointer (some ⟨g3,0,none⟩):=f.1
   have hg:x 85=.bool true:=f.2.1
   have c0:=(rr3.ext he).cell (j:=0) rfl
   have c1:=(rr3.ext he).cell (j:=1) rfl
   have c2:=(rr3.ext he).cell (j:=2) rfl
   go_wp
   exact sQ
  ·intro x W he f
   have h0:x 5=.pointer (some ⟨g3,0,none⟩):=f.1
   have hg:x 85=.bool true:=f.2.1
   go_wp
   exact sQ
  ·intro x W he f
   have h0:x 87=.pointer (some ⟨g3,0,none⟩):=f.1
   have hg:x 85=.bool true:=f.2.1
   have c0:=(rr3.ext he).cell (j:=0) rfl
   go_wp
   exact sQ
  ·intro x W he f
   have h0:x 86=.agg #[.slice J1 2 nj1,.slice J2 1 nj2,.slice J3 0 nj3]:=f.1
   have h1:x 88=.slice J1 2 nj1:=f.2.1
   have hg:x 85=.bool true:=f.2.2.1
   have HC:=zH (zjt (sJ.ext he) (sJ.ext he).all small_stJ (by decide))
   go_wp
   refine HC.out.mono ?_
   rintro r W2 ⟨u0,u1,u2,u3,rfl,hb,hn,hx2⟩
   rw [zz5] at hn
   rw [show zau stJ.all []=stJ.all by kernel_rfl] at hb
   obtain⟨E0,ne0,rfl,-,-⟩:∃ A c,u0=Value.slice A 2 c∧2≤c∧c≤9223372036854775807:=hb.form
   obtain⟨E1,ne1,rfl,-,-⟩:∃ A c,u1=Value.slice A 2 c∧2≤c∧c≤9223372036854775807:=hn.all.form
   obtain⟨E2,ne2,rfl,-,-⟩:∃ A c,u2=Value.slice A 0 c∧0≤c∧c≤9223372036854775807:=hn.entries.form
   obtain⟨E3,ne3,rfl,-,-⟩:∃ A c,u3=Value.slice A 0 c∧0≤c∧c≤9223372036854775807:=hn.pruned.form
   dsimp only
   go_wp
   exact zaa ⟨E0,ne0,E1,ne1,E2,ne2,E3,ne3,rfl⟩ hx2
  ·intro x W he f
   obtain⟨A0,n0,A1,n1,A2,n2,A3,n3,h0⟩:∃ A0 n0 A1 n1 A2 n2 A3 n3,x 89=dltV (.slice A0 2 n0) (.slice A1 2 n1) (.slice A2 0 n2) (.slice A3 0 n3):=f.1
   have hg:x 85=.bool true:=f.2.1
   have hfl:=zsg (.slice A0 2 n0) (.slice A1 2 n1) (.slice A2 0 n2) (.slice A3 0 n3) W
   go_wp
   exact zaa (v:=.agg #[.slice A1 2 n1,.slice A2 0 n2,.slice A3 0 n3]) ⟨A1,n1,A2,n2,A3,n3,rfl⟩ (Ext.refl _)
  ·intro x W he f
   obtain⟨A1,n1,A2,n2,A3,n3,h0⟩:∃ A1 n1 A2 n2 A3 n3,x 90=stV (.slice A1 2 n1) (.slice A2 0 n2) (.slice A3 0 n3):=f.1
   have hg:x 85=.bool true:=f.2.1
   have hfl:=zq3 (.slice A1 2 n1) (.slice A2 0 n2) (.slice A3 0 n3) W
   go_wp
   exact zaa (v:=.slice A2 0 n2) ⟨A2,n2,rfl⟩ (Ext.refl _)
  ·intro x W he f
   obtain⟨A2,n2,h0⟩:∃ A2 n2,x 91=.slice A2 0 n2:=f.1
   have hg:x 85=.bool true:=f.2.1
   go_wp
   exact sQ
  ·intro x W he f
   have h0:x 92=I 0:=f.1
   have hg:x 85=.bool true:=f.2.1
   go_wp
   exact sQ
  ·intro x W he f
   have h0:x 85=.bool true:=f.1
   have h1:x 93=.bool true:=f.2.1
   go_wp
   exact sQ
  ·intro x W he f
   have h0:x 94=.bool true:=f.1
   go_wp
   exact sQ
  ·intro x W he f
   have h0:x 7=.pointer (some ⟨g5,0,none⟩):=f.1
   have hg:x 95=.bool true:=f.2.1
   have c0:=(rr5.ext he).cell (j:=0) rfl
   have c1:=(rr5.ext he).cell (j:=1) rfl
   have c2:=(rr5.ext he).cell (j:=2) rfl
   go_wp
   exact sQ
  ·intro x W he f
   have h0:x 5=.pointer (some ⟨g3,0,none⟩):=f.1
   have hg:x 95=.bool true:=f.2.1
   have c0:=(rr3.ext he).cell (j:=0) rfl
   have c1:=(rr3.ext he).cell (j:=1) rfl
   have c2:=(rr3.ext he).cell (j:=2) rfl
   go_wp
   exact sQ
  ·intro x W he f
   have h0:x 96=.agg #[.slice K1 2 nk1,.slice K2 1 nk2,.slice K3 0 nk3]:=f.1
   have h1:x 97=.agg #[.slice J1 2 nj1,.slice J2 1 nj2,.slice J3 0 nj3]:=f.2.1
   have hg:x 95=.bool true:=f.2.2.1
   have HC:=zH (zoo (sK.ext he) (sJ.ext he))
   rw [show zi2 stJ stJ=true from sameSt_iff.2 rfl] at HC
   go_wp
   refine HC.out.mono ?_
   rintro r W2 ⟨rfl,hx2⟩
   dsimp only
   go_wp
   exact zaa rfl hx2
  ·intro x W he f
   have h0:x 95=.bool true:=f.1
   have h1:x 98=.bool true:=f.2.1
   go_wp
   exact sQ
  ·intro x W he f
   have h0:x 99=.bool true:=f.1
   go_wp
   exact sQ
  ·intro x W he f
   have h0:x 8=I 0:=f.1
   have hg:x 100=.bool true:=f.2.1
   go_wp
   exact sQ
  ·intro x W he f
   have h0:x 101=I 0:=f.1
   have hg:x 100=.bool true:=f.2.1
   go_wp
   exact sQ
  ·intro x W he f
   have h0:x 100=.bool true:=f.1
   have h1:x 102=.bool true:=f.2.1
   go_wp
   exact sQ
  ·intro x W he f
   have h0:x 103=.bool true:=f.1
   go_wp
   exact sQ
  ·intro x W he f
   have h0:x 10=I 160:=f.1
   have hg:x 104=.bool true:=f.2.1
   go_wp
   exact sQ
  ·intro x W he f
   have h0:x 105=I 160:=f.1
   have hg:x 104=.bool true:=f.2.1
   go_wp
   exact sQ
  ·intro x W he f
   have h0:x 104=.bool true:=f.1
   have h1:x 106=.bool true:=f.2.1
   go_wp
   exact sQ
  ·intro x W he f
   have h0:x 107=.bool true:=f.1
   go_wp
   exact sQ
  ·intro x W he f
   have h0:x 11=.pointer (some ⟨g7,0,none⟩):=f.1
   have hg:x 108=.bool true:=f.2.1
   go_wp
   exact sQ
  ·intro x W he f
   have h0:x 109=.pointer (some ⟨g7,0,none⟩):=f.1
   have hg:x 108=.bool true:=f.2.1
   have c0:=(rr7.ext he).cell (j:=0) rfl
   go_wp
   exact sQ
  ·intro x W he f
   have h0:x 110=.slice R1 1 nr1:=f.1
   have hg:x 108=.bool true:=f.2.1
   have HC:=zH (zw4 [49] (sR.ext he).all)
   rw [yaa] at HC
   go_wp
   refine HC.out.mono ?_
   rintro r W2 ⟨rfl,rfl⟩
   dsimp only
   go_wp
   exact sQ
  ·intro x W he f
   have h0:x 111=U 4:=f.1
   have hg:x 108=.bool true:=f.2.1
   go_wp
   exact sQ
  ·intro x W he f
   have h0:x 108=.bool true:=f.1
   have h1:x 112=.bool true:=f.2.1
   go_wp
   exact sQ
  ·intro x W he f
   have h0:x 113=.bool true:=f.1
   go_wp
   exact sQ
  ·intro x W he f
   have h0:x 12=I 0:=f.1
   have hg:x 114=.bool true:=f.2.1
   go_wp
   exact sQ
  ·intro x W he f
   have h0:x 115=I 0:=f.1
   have hg:x 114=.bool true:=f.2.1
   go_wp
   exact sQ
  ·intro x W he f
   have h0:x 114=.bool true:=f.1
   have h1:x 116=.bool true:=f.2.1
   go_wp
   exact sQ
  ·intro x W he f
   have h0:x 117=.bool true:=f.1
   go_wp
   exact sQ
  ·intro x W he f
   have h0:x 14=I 2:=f.1
   have hg:x 118=.bool true:=f.2.1
   go_wp
   exact sQ
  ·intro x W he f
   have h0:x 119=I 2:=f.1
   have hg:x 118=.bool true:=f.2.1
   go_wp
   exact sQ
  ·intro x W he f
   have h0:x 118=.bool true:=f.1
   have h1:x 120=.bool true:=f.2.1
   go_wp
   exact sQ
  ·intro x W he f
   have h0:x 121=.bool true:=f.1
   go_wp
   exact sQ
  ·intro x W he f
   have h0:x 15=.pointer (some ⟨g9,0,none⟩):=f.1
   have hg:x 122=.bool true:=f.2.1
   go_wp
   exact sQ
  ·intro x W he f
   have h0:x 123=.pointer (some ⟨g9,0,none⟩):=f.1
   have hg:x 122=.bool true:=f.2.1
   have c0:=(rr9.ext he).cell (j:=0) rfl
   go_wp
   exact sQ
  ·intro x W he f
   have h0:x 124=St [35,110]:=f.1
   have hg:x 122=.bool true:=f.2.1
   go_wp
   exact sQ
  ·intro x W he f
   have h0:x 122=.bool true:=f.1
   have h1:x 125=.bool true:=f.2.1
   go_wp
   exact sQ
  ·intro x W he f
   have h0:x 126=.bool true:=f.1
   go_wp
   exact sQ
  ·intro x W he f
   have h0:x 16=.bool true:=f.1
   have hg:x 127=.bool true:=f.2.1
   go_wp
   exact sQ
  ·intro x W he f
   have h0:x 127=.bool true:=f.1
   have h1:x 128=.bool true:=f.2.1
   go_wp
   exact sQ
  ·intro x W he f
   have h0:x 129=.bool true:=f.1
   go_wp
   exact sQ
  ·intro x W he f
   have h0:x 5=.pointer (some ⟨g3,0,none⟩):=f.1
   have hg:x 130=.bool true:=f.2.1
   have c0:=(rr3.ext he).cell (j:=0) rfl
   have c1:=(rr3.ext he).cell (j:=1) rfl
   have c2:=(rr3.ext he).cell (j:=2) rfl
   go_wp
   exact sQ
  ·intro x W he f
   have h0:x 131=.agg #[.slice J1 2 nj1,.slice J2 1 nj2,.slice J3 0 nj3]:=f.1
   have hg:x 130=.bool true:=f.2.1
   have HC:=zH (zjr (sJ.ext he) small_stJ)
   rw [zw1] at HC
   go_wp
   refine HC.out.mono ?_
   rintro r W2 ⟨rfl,hx2⟩
   dsimp only
   go_wp
   exact zaa rfl hx2
  ·intro x W he f
   have h0:x 130=.bool true:=f.1
   have h1:x 132=.bool true:=f.2.1
   go_wp
   exact sQ
  ·intro x W he f
   have h0:x 133=.bool true:=f.1
   go_wp
   exact sQ
  ·intro x W he f
   have h0:x 5=.pointer (some ⟨g3,0,none⟩):=f.1
   have hg:x 134=.bool true:=f.2.1
   have c0:=(rr3.ext he).cell (j:=0) rfl
   have c1:=(rr3.ext he).cell (j:=1) rfl
   have c2:=(rr3.ext he).cell (j:=2) rfl
   go_wp
   exact sQ
  ·intro x W he f
   have h0:x 135=.agg #[.slice J1 2 nj1,.slice J2 1 nj2,.slice J3 0 nj3]:=f.1
   have hg:x 134=.bool true:=f.2.1
   have HC:=zH (zim (sJ.ext he) small_stJ)
   go_wp
   refine HC.out.mono ?_
   rintro r W2 ⟨u1,u2,u3,rfl,hn,hx2⟩
   have hn:=hn.at.mono (S':=fun _=>True) (fun _ _ _=>trivial)
   obtain⟨E1,ne1,rfl,-,-⟩:∃ A c,u1=Value.slice A 2 c∧2≤c∧c≤9223372036854775807:=hn.all.form
   obtain⟨E2,ne2,rfl,-,-⟩:∃ A c,u2=Value.slice A 1 c∧1≤c∧c≤9223372036854775807:=hn.entries.form
   obtain⟨E3,ne3,rfl,-,-⟩:∃ A c,u3=Value.slice A 0 c∧0≤c∧c≤9223372036854775807:=hn.pruned.form
   have HN:=zH hn
   clear hn
   dsimp only
   go_wp
   exact zaa ⟨E1,ne1,E2,ne2,E3,ne3,rfl,HN.out⟩ hx2
  ·intro x W he f
   have h0:x 5=.pointer (some ⟨g3,0,none⟩):=f.1
   have hg:x 134=.bool true:=f.2.1
   have c0:=(rr3.ext he).cell (j:=0) rfl
   have c1:=(rr3.ext he).cell (j:=1) rfl
   have c2:=(rr3.ext he).cell (j:=2) rfl
   go_wp
   exact sQ
  ·intro x W he f
   obtain⟨A1,n1,A2,n2,A3,n3,h0,hs⟩:∃ A1 n1 A2 n2 A3 n3,x 136=stV (.slice A1 2 n1) (.slice A2 1 n2) (.slice A3 0 n3)∧StAt W (fun _=>True) stJ (.slice A1 2 n1) (.slice A2 1 n2) (.slice A3 0 n3):=f.1
   have h1:x 137=.agg #[.slice J1 2 nj1,.slice J2 1 nj2,.slice J3 0 nj3]:=f.2.1
   have hg:x 134=.bool true:=f.2.2.1
   have HC:=zH (zoo hs (sJ.ext he))
   rw [show zi2 stJ stJ=true from sameSt_iff.2 rfl] at HC
   clear hs
   go_wp
   refine HC.out.mono ?_
   rintro r W2 ⟨rfl,hx2⟩
   dsimp only
   go_wp
   exact zaa rfl hx2
  ·intro x W he f
   have h0:x 134=.bool true:=f.1
   have h1:x 138=.bool true:=f.2.1
   go_wp
   exact sQ
 case hend =>
  intro x W he f
  have h139:x 139=.bool true:=f.2.2.2.2.2.2.2.2.2.2.2.2.2.2.2.2.2.2.2.2.2.2.2.2.2.2.2.2.2.2.2.2.2.2.2.2.2.2.2.2.2.2.2.2.2.2.2.2.2.2.2.2.2.2.2.2.2.2.2.2.2.2.2.2.2.2.2.2.2.2.1
  clear f
  have HX:=zH (hxw.trans he)
  clear he sA rr1 sB rr2 sJ rr3 sD sD0 rr4 sK rr5 rr6 sR rr7 rr8 rr9
  simp only [List.length_cons,List.length_nil,Nat.reduceAdd,List.take_succ_cons,List.take_zero,List.filterMap_cons,List.filterMap_nil,List.drop_succ_cons,List.drop_zero,zay,Act.put,List.setIfInBounds_toArray,List.set_cons_succ,List.set_cons_zero,List.append_eq,List.cons_append,List.nil_append,h139]
  go_wp
  go_wp2_with fail
  go_ret
  exact⟨rfl,HX.out⟩
end
section
open Go.Sort
structure LimE (n:Nat) (e:Entry):Prop where
 seen:e.seen.length≤n
 counts:e.counts.length≤n
 items:e.items.length≤n
 dots:∀ it ∈ e.items,it.2.length≤n
 places:(zad e.items).length≤n
structure LimS (n:Nat) (s:State):Prop where
 all:s.all.length≤n
 entries:s.entries.length≤n
 pruned:s.pruned.length≤n
 each:∀ e ∈ s.entries,LimE n e
theorem LimE.small {n:Nat} {e:Entry} (h:LimE n e) (hn:n≤549755813888):SmallE e :=
 ⟨Nat.le_trans h.seen hn,Nat.le_trans h.counts hn,Nat.le_trans h.items hn,fun it hit=>Nat.le_trans (h.dots it hit) hn,Nat.le_trans h.places hn⟩
theorem LimS.small {n:Nat} {s:State} (h:LimS n s) (hn:n≤549755813888):SmallS s :=
 ⟨Nat.le_trans h.all hn,Nat.le_trans h.entries hn,Nat.le_trans h.pruned hn,fun e he=>(h.each e he).small hn⟩
theorem LimE.mono {n m:Nat} {e:Entry} (h:LimE n e) (hn:n≤m):LimE m e :=
 ⟨Nat.le_trans h.seen hn,Nat.le_trans h.counts hn,Nat.le_trans h.items hn,fun it hit=>Nat.le_trans (h.dots it hit) hn,Nat.le_trans h.places hn⟩
theorem zy8 {l:List Item} {it:Item} (h:it ∈ l):it.2.length≤(zad l).length:=by
 obtain⟨a,b,rfl⟩:=List.append_of_mem h
 simp only [zad,List.flatMap_append,List.flatMap_cons,List.length_append,List.length_map]
 omega
end
section
open Go.RowKit
theorem zue {E:List Ev} {V:Vec} {k:Str} {x:Entry} (hx:IsE E V k x):(zad x.items).length≤E.length:=by
 have hd:(zad x.items).Nodup:=by
  have h:=hx.itG.2.2.2
  rw [zcy] at h
  unfold List.Nodup at h ⊢
  rw [List.pairwise_map] at h
  exact h.imp fun hab e=>hab (by rw [e])
 have h:=zdf (zad x.items) (E.map fun e=>((e.tx,e.path,e.num):zan)) hd fun q hq=>by
  obtain⟨i,e,h1,-,-,-,rfl,-⟩:=(hx.items q).1 hq
  exact List.mem_map.2 ⟨e,List.mem_of_getElem? h1,rfl⟩
 rwa [List.length_map] at h
theorem zw8 {l:List Item} (h:∀ it ∈ l,it.2 ≠ []):l.length≤(zad l).length:=by
 induction l with
 | nil=>exact Nat.zero_le _
 | cons it r ih =>
  have h1:=ih fun x hx=>h x (by simp [hx])
  have h2:=h it (by simp)
  have h3:0 < it.2.length:=List.length_pos_iff.2 h2
  simp only [zad,List.flatMap_cons,List.length_append,List.length_map,List.length_cons] at h1 ⊢
  omega
theorem IsE.lim {E:List Ev} (H:HistOk E) {pr ps:List Str} {s:State} (hs:IsS E pr s) (hv:VecOk ps s) {x:Entry} {k:Str} (hx:IsE E (vecS s) k x):LimE 400 x:=by
 have hle:=zlc hs hx
 have hm:=H.most
 have hf:=hv.few
 have hp:=zue hx
 have h1:x.seen.length≤ps.length:=zhd hx.seenG fun p hp=>hv.paths p (by have:=hle p;omega)
 have hcn:(x.counts.map (·.1)).Nodup:=by
  unfold List.Nodup
  rw [List.pairwise_map]
  exact hx.cntG.1.imp fun h=>zcb h
 have h2:=zdf (x.counts.map (·.1)) ps hcn fun p hp=>by
  obtain⟨c,hc,rfl⟩:=List.mem_map.1 hp
  have:=(hx.count_seen H.toHist hc).2
  exact hv.paths c.1 (by have:=hle c.1;omega)
 rw [List.length_map] at h2
 have h3:=zw8 fun it hit=>(hx.itG.2.1 it hit).2.1
 exact⟨by omega,by omega,by omega,fun it hit=>by have:=zy8 hit;omega,by omega⟩
theorem IsS.lim {E:List Ev} (H:HistOk E) {ps:List Str} {s:State} (hs:IsS E [] s) (hv:VecOk ps s):LimS 400 s:=by
 have hm:=H.most
 have hf:=hv.few
 have h1:=zhd hs.all hv.paths
 have hkn:(s.entries.map (·.key)).Nodup:=hs.rise.imp fun h=>zcb h
 have h2:=zdf (s.entries.map (·.key)) (E.map (·.key)) hkn fun k hk=>by
  obtain⟨e,he,-,hke⟩:=(hs.has k).1 hk
  exact List.mem_map.2 ⟨e,he,hke⟩
 rw [List.length_map,List.length_map] at h2
 exact⟨by omega,by omega,by rw [hs.pruned];exact Nat.zero_le _,fun x hx=>((hs.each x hx).1).lim H hs hv⟩
end
section
open Go.RowKit
structure Deed where
 key:Nat
 do_:Nat
 n:Nat
 by_:Int
 text:Nat
 other:Nat
 asks:Bool
structure DeedOk (d:Deed):Prop where
 key:d.key < 256
 do_:d.do_ < 256
 n:d.n < 256
 lo:-32768≤d.by_
 hi:d.by_≤32767
 text:d.text < 256
 other:d.other < 256
def keyD (d:Deed):Str:=if d.key % 3=0 then keyN else if d.key % 3=1 then keyA else keyC
def opD (d:Deed):Nat:=if d.key % 3=0 then 1 else if d.key % 3=1 then (if d.do_ % 3=1 then 3 else 2) else 4
def txD (d:Deed):Str:=[UInt8.ofNat (97+d.text % 2)]
theorem zq4 {d:Deed} (h:DeedOk d):OpOk (keyD d) (opD d) d.by_ (txD d) where
 kind:=by
  unfold keyD opD
  by_cases h0:d.key % 3=0
  ·rw [if_pos h0,if_pos h0];exact .inl ⟨rfl,rfl⟩
  ·rw [if_neg h0,if_neg h0]
   by_cases h1:d.key % 3=1
   ·rw [if_pos h1,if_pos h1]
    refine .inr (.inl ⟨rfl,?_⟩)
    by_cases h2:d.do_ % 3=1
    ·rw [if_pos h2];exact .inr rfl
    ·rw [if_neg h2];exact .inl rfl
   ·rw [if_neg h1,if_neg h1];exact .inr (.inr ⟨rfl,rfl⟩)
 lo:=h.lo
 hi:=h.hi
 text:=by
  unfold txD
  rcases Nat.mod_two_eq_zero_or_one d.text with h | h
  ·rw [h];exact .inl rfl
  ·rw [h];exact .inr rfl
theorem RepsOk.apply {E:List Ev} {n:Nat} {rs:List Rep} (h:RepsOk E n rs) {k o:Nat} {r q:Rep} (hk:rs[k]? = some r) (ho:rs[o]? = some q):zeg r.s (zau r.asked []) (zgj q.s r.asked)=(zca r.s q.s,0) :=
 zr7 h.hist.toHist (h.each k r hk).is (h.each o q ho).is (h.each k r hk).asked
def zg5 (E:List Ev) (rs:List Rep) (d:Deed):List Ev × List Rep :=
 if 3≤d.do_ % 5 then (E,zle (if d.asks then askR rs (d.n % rs.length) else rs) (d.n % rs.length) (d.other % rs.length))
 else updR E (if d.asks then askR rs (d.n % rs.length) else rs) (d.n % rs.length) (keyD d) (opD d) d.by_ (txD d)
theorem RepsOk.asks {E:List Ev} {n:Nat} {rs:List Rep} (h:RepsOk E n rs) (b:Bool) (k:Nat):RepsOk E n (if b then askR rs k else rs):=by
 cases b with
 | true=>exact h.ask k
 | false=>exact h
theorem RepsOk.does {E:List Ev} {n:Nat} {rs:List Rep} (h:RepsOk E n rs) (hn:0 < n) (hl:E.length < 200) {d:Deed} (hd:DeedOk d):RepsOk (zg5 E rs d).1 n (zg5 E rs d).2:=by
 unfold zg5
 split
 ·exact (h.asks _ _).join _ _
 ·exact ((h.asks _ _).upd (k:=d.n % rs.length) (by rw [h.len];exact Nat.mod_lt _ hn) hl (zq4 hd)).2
theorem zy9 (E:List Ev) (rs:List Rep) (d:Deed):(zg5 E rs d).1.length≤E.length+1:=by
 unfold zg5
 split
 ·exact Nat.le_succ _
 ·unfold updR
  split
  ·simp
  ·exact Nat.le_succ _
section
variable {E:List Ev} {a b c:State}
theorem zq5 (a b:State) (p:Str):ofM (zca a b).all p=max (ofM a.all p) (ofM b.all p):=ze6 _ _ p
theorem VecOk.join {ps:List Str} (ha:VecOk ps a) (hb:VecOk ps b):VecOk ps (zca a b) :=
 ⟨fun p hp=>by
  rw [zq5] at hp
  by_cases h:ofM a.all p=0
  ·exact hb.paths p (by omega)
  ·exact ha.paths p h,ha.few,fun p=>by rw [zq5];have:=ha.most p;have:=hb.most p;omega⟩
end
end
end Go.Proofs.YtdikcgmdmcfpfaaGreat
