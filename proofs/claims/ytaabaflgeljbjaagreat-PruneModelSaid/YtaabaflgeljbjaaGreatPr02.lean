/- Laws. -/
import Derived.Test.YtaabaflgeljbjaaGreatPr01
import Derived.MapKept
import Derived.Carry
import Derived.RangeFuncRecord
set_option linter.unusedVariables false
set_option linter.unusedSimpArgs false
set_option maxRecDepth 100000
set_option maxHeartbeats 40000000
set_option linter.unusedSectionVars false
open List renaming getElem?_eq_getElem→Qa,mem_map→Qb,findIdx?_cons→Qd,getElem?_map→Qe,findIdx?_eq_some_iff_getElem→Qf,eraseIdx_eq_take_drop_succ→Qh,getElem?_eq_some_iff→Qk,map_append→Ql,nodup_append→Qn,map_map→Qp,getElem?_cons_succ→Qr,findIdx?_isSome→Qu,map_cons→Qv,filter_eq_self→Qw,filter_append→Qx,ext_getElem?→Qz,lookup_cons→Ya,any_eq_true→Yb,cons.injEq→Yc,mem_append→Yd
open Go.World renaming putObj_heap_same→Qi
open Bool renaming false_eq_true→Qm
open Option renaming map_some→Qc,bind_some→Qg,bind_none→Qq,some.injEq→Qy
open _root_.Array renaming getElem?_eq_some_iff→Qj,toList_push→Qo,getElem?_toList→Qs,getElem?_modify→Qt
namespace Go.Proofs.YtaabaflgeljbjaaGreat
open Go.RowKit
def MapIs {κ ν:Type}(K:κ->Value)(V:ν->Value)(w:World)(b:Nat)(L:List (κ×ν)):Prop :=
 ∃es clock,w.heap[b]? = some (.map es clock)/\es.toList.map (fun e=>(e.key,e.val))=L.map (fun p=>(K p.1,V p.2))/\(L.map Prod.fst).Nodup/\(∀e∈es.toList,e.born<clock)/\(es.toList.map (·.born)).Nodup
section
variable {κ ν:Type} [DecidableEq κ] {K:κ->Value} {V:ν->Value} {w w':World} {b:Nat} {L:List (κ × ν)}
def getL (z:ν)(L:List (κ×ν))(k:κ):ν:=(L.lookup k).getD z
def putL (L:List (κ×ν))(k:κ)(v:ν):List (κ×ν):=if k∈L.map Prod.fst then L.map (fun p=>if p.1=k then(k,v)else p)else L++[(k,v)]
def delL (L:List (κ×ν))(k:κ):List (κ×ν):=L.filter fun p=>decide (p.1≠k)
theorem MapIs.lt (h:MapIs K V w b L):b<w.heap.size:=by obtain⟨_,_,h,_⟩:=h;exact(Qj.1 h).1
theorem MapIs.keep (a:MapIs K V w b L)(e:w'.heap[b]? = w.heap[b]?):MapIs K V w' b L:=by
 obtain⟨es,c,h1,d⟩:=a;exact⟨es,c,e.trans h1,d⟩
theorem MapIs.ext (a:MapIs K V w b L)(c:Ext w w'):MapIs K V w' b L:=a.keep (c.block b a.lt)
theorem MapIs.new (w:World):MapIs K V (w.alloc (.map #[] 0)) w.heap.size ([]:List (κ×ν)) :=
 ⟨#[],0,Go.heap_alloc_new w _,rfl,by simp,by simp,by simp⟩
theorem MapIs.nodup (h:MapIs K V w b L):(L.map Prod.fst).Nodup:=by obtain⟨_,_,_,_,h,_⟩:=h;exact h
structure KeyOk (P:Program) (kt:TypeId) (K:κ->Value):Prop where
 check:∀e x w,(Instr.checkKey e 10000 kt (K x)).run P w=.ok () w
 find:∀x (es:List MapEntry) (ks:List κ) w,es.map (·.key)=ks.map K->(Instr.findKey kt (K x) es).run P w=.ok ((ks.findIdx? (fun y=>decide (y=x))).bind fun i=>(es[i]?).map fun e=>(i,e.val)) w
 same:∀x,Instr.sameBits 10000 (K x) (K x)=true
omit [DecidableEq κ]in
theorem zyw (L:List (κ×ν))[DecidableEq κ](x:κ):((L.map Prod.fst).findIdx? (fun y=>decide (y=x)))=L.findIdx? (fun p=>decide (p.1=x)):=by
 rw[List.findIdx?_map];rfl
theorem zi2 (a b:Str):((⟨a.toArray⟩:ByteArray)==⟨b.toArray⟩)=decide (b=a):=by
 by_cases c:b=a
 ·subst c;rw[decide_eq_true rfl];exact(MapKept.bytes_beq _ _).2 rfl
 rw[decide_eq_false c]
 cases hb:((⟨a.toArray⟩:ByteArray)==⟨b.toArray⟩)
 case false=>rfl
 have:=(MapKept.bytes_beq _ _).1 hb;injection this with e
 have d:=congrArg Array.toList e;exact absurd d.symm c
theorem zml (x:Str):∀(es:List MapEntry) (ks:List Str) (i:Nat),es.map (·.key)=ks.map St ->
  Instr.findNow .string (St x) es i=some ((ks.findIdx? (fun y=>decide (y=x))).bind fun j=>(es[j]?).map fun e=>(i+j,e.val))
 | [],[],_,_=>rfl
 | [],_::_,_,h=>by simp at h
 | _::_,[],_,h=>by simp at h
 | e::es,k::ks,i,h=>by
  simp only[Qv,Yc]at h;obtain⟨h1,a⟩:=h;unfold Instr.findNow;rw[h1];simp only[Instr.sameNow,zi2]
  by_cases hk:k=x
  ·subst hk;simp[Qd]
  simp only[zml x es ks (i+1) a,Qd,hk,decide_false,Qm,if_false]
  cases c:ks.findIdx? (fun y=>decide (y=x))
  case none=>rfl
  rename_i j
  simp only[Qg,Qc,Qr,Qy]
  congr 1
  funext e
  simp;omega
theorem zv6 {P:Program}{a:TypeId}(hk:P.underlying a=some .string):KeyOk P a St where
 check e x w:=by unfold Instr.checkKey;simp[run_underlying hk]
 find x es ks w h:=by refine Go.MapKept.run_findKey hk ?_;rw[zml x es ks 0 h];simp
 same x:=by unfold Instr.sameBits;simp[zi2]
theorem zqi {L:List (κ×ν)}{k:κ}:L.lookup k=(L.findIdx? (fun p=>decide (p.1=k))).bind fun i=>(L[i]?).map Prod.snd:=by
 induction L with
 | nil=>rfl
 | cons p r f =>
  obtain⟨a,v⟩:=p
  by_cases c:a=k
  ·subst c;simp[Ya,Qd]
  have d:(k==a)=false:=by rw[beq_eq_false_iff_ne];exact fun e=>c e.symm
  rw[Ya,d,Qd];simp only[c,decide_false,Qm,if_false,f];cases r.findIdx? (fun p=>decide (p.1=k))<;>simp
theorem MapIs.find {P:Program}{f:TypeId}(g:KeyOk P f K){es:Array MapEntry}(c:es.toList.map (fun e=>(e.key,e.val))=L.map (fun p=>(K p.1,V p.2)))(k:κ)(w:World) :
  (Instr.findKey f (K k) es.toList).run P w=.ok ((L.findIdx? (fun p=>decide (p.1=k))).bind fun i=>(L[i]?).map fun p=>(i,V p.2)) w:=by
 have h1:es.toList.map (·.key)=(L.map Prod.fst).map K:=by have:=congrArg (List.map Prod.fst) c;rw[Qp,Qp]at this;rw[Qp];exact this
 rw[g.find k es.toList (L.map Prod.fst) w h1,zyw]
 congr 1
 cases h:L.findIdx? (fun p=>decide (p.1=k))
 case none=>rfl
 rename_i i
 simp only[Qg];have:=congrArg (fun l=>l[i]?) c;simp only[Qe]at this
 cases d:es.toList[i]?
 case none=>
  rw[d]at this
  cases a:L[i]? with
  | none=>rfl
  | some p=>rw[a]at this;simp at this
 rename_i e
 rw[d]at this
 cases a:L[i]? with
 | none=>rw[a]at this;simp at this
 | some p=>rw[a]at this;simp at this;simp[this.2]
theorem zbi {P:Program}{t m g:TypeId}(l:P.underlying t=some (.map m g))(d:KeyOk P m K){z:ν}(r:∀w,(zeroValue g).run P w=.ok (V z) w)(n:MapIs K V w b L)(k:κ) :
  (Instr.lookup t (.map (some b)) (K k) false).run P w=.ok (V (getL z L k)) w/\(Instr.lookup t (.map (some b)) (K k) true).run P w=.ok (.tuple #[V (getL z L k),.bool (decide (k∈L.map Prod.fst))]) w:=by
 obtain⟨es,c,h1,o,s,-⟩:=n;have a:=MapIs.find d o k w;have h:(getObj b).run P w=.ok (.map es c) w:=MapKept.run_getObj_map h1
 have q:decide (k∈L.map Prod.fst)=(L.findIdx? (fun p=>decide (p.1=k))).isSome:=by
  rw[Qu]
  by_cases hk:k∈L.map Prod.fst
  ·rw[decide_eq_true hk];obtain⟨p,f,rfl⟩:=Qb.1 hk
   symm
   rw[Yb];exact⟨p,f,by simp⟩
  rw[decide_eq_false hk]
  symm
  rw[List.any_eq_false];intro p f;simp;intro e;exact hk (Qb.2 ⟨p,f,e⟩)
 rw[q];unfold getL;rw[zqi]
 cases hi:L.findIdx? (fun p=>decide (p.1=k))
 case none=>
  rw[hi]at a;simp only[Qq]at a
  constructor<;>simp[Instr.lookup,run_underlying l,h,d.check,a,r]
 rename_i i
 rw[hi]at a
 have j:i<L.length:=by have:=Qf.1 hi;exact this.1
 simp only[Qg,Qa j,Qc]at a
 constructor<;>simp[Instr.lookup,run_underlying l,h,d.check,a,Qa j]
theorem zts {k:κ}:(k∈L.map Prod.fst)↔(L.findIdx? (fun p=>decide (p.1=k))).isSome=true:=by
 rw[Qu,Yb]
 constructor
 ·intro hk;obtain⟨p,a,rfl⟩:=Qb.1 hk;exact⟨p,a,by simp⟩
 rintro⟨p,a,e⟩;exact Qb.2 ⟨p,a,by simpa using e⟩
theorem zjo (L:List (κ×ν))(k:κ)(v:ν):(putL L k v).map Prod.fst=if k∈L.map Prod.fst then L.map Prod.fst else L.map Prod.fst++[k]:=by
 unfold putL
 split
 ·rw[Qp]
  apply List.map_congr_left
  intro p _;simp only[Function.comp]
  split
  ·rename_i h;exact h.symm
  rfl
 simp
theorem zij (h:(L.map Prod.fst).Nodup)(k:κ)(v:ν):((putL L k v).map Prod.fst).Nodup:=by
 rw[zjo]
 split
 ·exact h
 rename_i hk;rw[Qn];exact⟨h,by simp,fun a ha b hb=>by simp at hb;subst hb;rintro rfl;exact hk ha⟩
structure Turned (w w':World) (b:Nat):Prop where
 os:w'.os=w.os
 tape:w'.tape=w.tape
 output:w'.output=w.output
 size:w'.heap.size=w.heap.size
 other:∀j,j≠b->w'.heap[j]? = w.heap[j]?
theorem Turned.put (w:World)(b:Nat)(o:Obj):Turned w (w.putObj b o) b:=⟨rfl,rfl,rfl,World.putObj_size,fun _ h=>World.putObj_heap_other h⟩
theorem Ext.turned {w0:World}(h:Ext w0 w)(t:Turned w w' b)(hb:w0.heap.size<=b):Ext w0 w' :=
 ⟨t.os.trans h.os,t.tape.trans h.tape,t.output.trans h.output,by rw[t.size];exact h.size,fun k hk=>(t.other k (by omega)).trans (h.block k hk)⟩
theorem Turned.cell (t:Turned w w' b){c o:Nat}{v:Value}(d:w.cell? ⟨c,o,none⟩=some v)(e:c≠b):w'.cell? ⟨c,o,none⟩=some v :=
 (World.cell?_of_block (a:=⟨c,o,none⟩) (t.other c e)).trans d
theorem MapIs.turned {κ' ν':Type}[DecidableEq κ']{c:κ'->Value}{e:ν'->Value}{a:Nat}{d:List (κ'×ν')}(f:MapIs c e w a d)(t:Turned w w' b)(hb:a≠b):MapIs c e w' a d:=f.keep (t.other a hb)
theorem zo5 {l:List κ}(g:l.Nodup){i j:Nat}{x:κ}(hi:l[i]? = some x)(h:l[j]? = some x):i=j:=by
 obtain⟨a,c⟩:=Qk.1 hi;obtain⟨d,e⟩:=Qk.1 h;have f:=List.pairwise_iff_getElem.1 g;rcases Nat.lt_trichotomy i j with h1|h1|h1
 ·exact absurd (c.trans e.symm) (f i j a d h1)
 ·exact h1
 exact absurd (e.trans c.symm) (f j i d a h1)
omit [DecidableEq κ]in
theorem zmm (es:Array MapEntry)(i:Nat)(k v:Value):(es.modify i fun e=>{ e with key:=k,val:=v }).toList.map (·.born)=es.toList.map (·.born):=by
 apply Qz
 intro j;simp only[Qe,Qs,Qt]
 split
 ·cases es[j]?<;>rfl
 rfl
theorem zhj {P:Program}{t I M:TypeId}(G:P.underlying t=some (.map I M))(m:KeyOk P I K)(N:MapIs K V w b L)(k:κ)(v:ν) :
  ∃o,∀W:World,W.heap[b]? = w.heap[b]?->(Instr.mapUpdate t (.map (some b)) (K k) (V v)).run P W=.ok () (W.putObj b o)/\MapIs K V (W.putObj b o) b (putL L k v):=by
 obtain⟨es,c,h1,h,r,s,z⟩:=N;have f:=fun W=>MapIs.find (P:=P) m h k W
 have B:∀W:World,W.heap[b]? = w.heap[b]?->(getObj b).run P W=.ok (.map es c) W:=fun W a=>MapKept.run_getObj_map (a.trans h1)
 have F:∀W:World,W.heap[b]? = w.heap[b]?->∀o,(setObj b o).run P W=.ok () (W.putObj b o):=fun W a o=>MapKept.run_setObj_map o (a.trans h1)
 have Y:es.size=L.length:=by
  have:=congrArg List.length h
  simpa using this
 have A:∀W:World,W.heap[b]? = w.heap[b]?->b<W.heap.size:=fun W a=>(Qj.1 (a.trans h1)).1
 cases hi:L.findIdx? (fun p=>decide (p.1=k))
 case none=>
  rw[hi]at f;simp only[Qq]at f;have hk:k∉L.map Prod.fst:=fun hk=>by rw[zts,hi]at hk;cases hk
  refine⟨.map (es.push { key:=K k,val:=V v,born:=c }) (c+1),fun W a=>⟨?_,es.push { key:=K k,val:=V v,born:=c },c+1,Qi (A W a),?_,zij r k v,?_,?_⟩⟩
  ·simp[Instr.mapUpdate,run_underlying G,B W a,m.check,f,F W a]
  ·unfold putL;rw[zN hk,Qo,Ql,h,Ql]
   rfl
  ·intro e d;rw[Qo,Yd]at d;rcases d with d|d
   ·exact Nat.lt_succ_of_lt (s e d)
   simp at d;subst d;exact Nat.lt_succ_self _
  rw[Qo,Ql,Qn];refine⟨z,by simp,fun x U y H=>?_⟩;simp at H;subst H;obtain⟨e,d,rfl⟩:=Qb.1 U;have:=s e d;omega
 rename_i i
 rw[hi]at f;obtain⟨g,R,-⟩:=Qf.1 hi;have q:(L[i]'g).1=k:=by simpa using R
 have hk:k∈L.map Prod.fst:=Qb.2 ⟨L[i],List.getElem_mem g,q⟩;simp only[Qg,Qa g,Qc]at f;have n:i<es.size:=by omega
 have S:(es[i]'n).key=K k:=by have:=congrArg (fun l=>l[i]?) h;simp only[Qe,Qa g,Qc]at this;rw[Qa (by simpa using n)]at this;simp at this;rw[this.1,q]
 refine⟨.map (es.modify i fun e=>{ e with key:=K k,val:=V v }) c,fun W a=>⟨?_,es.modify i fun e=>{ e with key:=K k,val:=V v },c,Qi (A W a),?_,zij r k v,?_,?_⟩⟩
 ·simp[Instr.mapUpdate,run_underlying G,B W a,m.check,f,F W a,Instr.keyThatStays,n,S,m.same]
 ·unfold putL;rw[zP hk]
  apply Qz
  intro j;have C:=congrArg (fun l=>l[j]?) h;simp only[Qe,Qs]at C ⊢;rw[Qt]
  by_cases u:i=j
  ·subst u;simp[n,g,q]
  rw[zN u,C]
  cases D:L[j]?
  case none=>rfl
  rename_i p
  have X:=(Qk.1 D).1
  have T:p.1≠k:=fun e=>by exact u (zo5 r (x:=k) (by simp only[Qe,Qa g,Qc,q]) (by simp only[Qe,D,Qc,e]))
  simp[T]
 ·intro e d;have E:e.born∈(es.modify i fun e=>{ e with key:=K k,val:=V v }).toList.map (·.born):=Qb.2 ⟨e,d,rfl⟩;rw[zmm]at E;obtain⟨J,Q,O⟩:=Qb.1 E;rw[<- O];exact s J Q
 rw[zmm];exact z
theorem zaw {P:Program}{t c e:TypeId}(g:P.underlying t=some (.map c e))(d:KeyOk P c K)(f:MapIs K V w b L)(k:κ)(v:ν) :
  ∃w',(Instr.mapUpdate t (.map (some b)) (K k) (V v)).run P w=.ok () w'/\MapIs K V w' b (putL L k v)/\Turned w w' b:=by
 obtain⟨o,a⟩:=zhj g d f k v;exact⟨_,(a w rfl).1,(a w rfl).2,Turned.put _ _ _⟩
theorem zlg {α β:Type}(f:α->β)(l:List α)(i:Nat):(l.eraseIdx i).map f=(l.map f).eraseIdx i:=by
 rw[Qh,Qh,Ql,List.map_take,List.map_drop]
theorem zi3 {P:Program}{t n B:TypeId}(I:TypeId)(A:P.underlying t=some (.map n B))(g:KeyOk P n K)(C:MapIs K V w b L)(k:κ) :
  ∃w',(Builtin.delete_ #[t,n] I #[.map (some b),K k]).run P w=.ok (.tuple #[]) w'/\MapIs K V w' b (delL L k)/\Turned w w' b:=by
 obtain⟨es,c,h1,f,h,r,s⟩:=C;have d:=MapIs.find g f k w;have u:(getObj b).run P w=.ok (.map es c) w:=MapKept.run_getObj_map h1;have y:∀o,(setObj b o).run P w=.ok () (w.putObj b o):=fun o=>MapKept.run_setObj_map o h1
 have J:es.size=L.length:=by
  have:=congrArg List.length f
  simpa using this
 have hb:b<w.heap.size:=(Qj.1 h1).1;have x:((delL L k).map Prod.fst).Nodup:=h.sublist ((List.filter_sublist (l:=L)).map _)
 cases hi:L.findIdx? (fun p=>decide (p.1=k))
 case none=>
  rw[hi]at d;simp only[Qq]at d;have hk:k∉L.map Prod.fst:=fun hk=>by rw[zts,hi]at hk;cases hk
  have j:delL L k=L:=Qw.2 fun p a=>by simp only[decide_eq_true_eq];rintro rfl;exact hk (Qb.2 ⟨p,a,rfl⟩)
  refine⟨w.putObj b (.map es c),?_,⟨es,c,Qi hb,by rw[j];exact f,x,r,s⟩,Turned.put _ _ _⟩;simp[Builtin.delete_,run_underlying A,u,g.check,d,y]
 rename_i i
 rw[hi]at d;obtain⟨v,G,-⟩:=Qf.1 hi;have m:(L[i]'v).1=k:=by simpa using G
 simp only[Qg,Qa v,Qc]at d;have F:i<es.size:=by omega
 have j:delL L k=L.eraseIdx i:=by
  have z:L=L.take i++L[i]::L.drop (i+1):=by rw[List.getElem_cons_drop,List.take_append_drop]
  have H:∀p∈L.take i++L.drop (i+1),p.1≠k:=by
   intro p a e;rw[z,Ql,Qv,Qn]at h;obtain⟨-,q,D⟩:=h;rcases Yd.1 a with a|a
   ·exact D p.1 (Qb.2 ⟨p,a,rfl⟩) k (by rw[m];simp) e
   rw[List.nodup_cons]at q;exact q.1 (by rw[m,<- e];exact Qb.2 ⟨p,a,rfl⟩)
  rw[Qh]
  conv=>lhs;rw[z]
  unfold delL;rw[Qx,List.filter_cons_of_neg (by simp[m]),<- Qx];exact Qw.2 fun p a=>by simpa using H p a
 refine⟨w.putObj b (.map (es.eraseIdxIfInBounds i) c),?_,⟨es.eraseIdxIfInBounds i,c,Qi hb,?_,x,?_,?_⟩,Turned.put _ _ _⟩
 ·simp[Builtin.delete_,run_underlying A,u,g.check,d,y]
 all_goals rw[Array.eraseIdxIfInBounds_eq,dif_pos F,Array.toList_eraseIdx]
 ·rw[j,zlg,f,zlg]
 ·exact fun e E=>r e (List.mem_of_mem_eraseIdx E)
 rw[zlg];exact s.sublist (List.eraseIdx_sublist _ _)
end
end Go.Proofs.YtaabaflgeljbjaaGreat
namespace Go.Proofs.YtaabaflgeljbjaaGreat
section
open Go.RowKit
abbrev K8 (n:Nat):Value:=.int .u8 n
theorem zn4 (c:IntKind)(x:Nat):∀(es:List MapEntry) (ks:List Nat) (i:Nat),es.map (·.key)=ks.map K8 ->
  Instr.findNow (.int c) (K8 x) es i=some ((ks.findIdx? (fun y=>decide (y=x))).bind fun j=>(es[j]?).map fun e=>(i+j,e.val))
 | [],[],_,_=>rfl
 | [],_::_,_,a=>by simp at a
 | _::_,[],_,a=>by simp at a
 | e::es,k::ks,i,a=>by
  simp only[Qv,Yc]at a;obtain⟨h1,d⟩:=a;unfold Instr.findNow;rw[h1]
  have hb:((x:Int)==(k:Int))=decide (k=x):=by
   by_cases a:k=x
   ·subst a;simp
   have:¬(x:Int)=k:=fun e=>a (by omega)
   simp[a,this]
  simp only[Instr.sameNow,if_true,hb]
  by_cases hk:k=x
  ·subst hk;simp[Qd]
  simp only[zn4 c x es ks (i+1) d,Qd,hk,decide_false,Qm,if_false]
  cases f:ks.findIdx? (fun y=>decide (y=x))
  case none=>rfl
  rename_i j
  simp only[Qg,Qc,Qr,Qy]
  congr 1
  funext e
  simp;omega
theorem zzh {P:Program}{c:TypeId}{a:IntKind}(hk:P.underlying c=some (.int a)):KeyOk P c K8 where
 check e x w:=by unfold Instr.checkKey;simp[run_underlying hk]
 find x es ks w h:=by refine Go.MapKept.run_findKey hk ?_;rw[zn4 a x es ks 0 h];simp
 same x:=by unfold Instr.sameBits;simp
end
end Go.Proofs.YtaabaflgeljbjaaGreat
