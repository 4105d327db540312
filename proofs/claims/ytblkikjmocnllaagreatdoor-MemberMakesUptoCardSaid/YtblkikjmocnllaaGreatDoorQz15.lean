/- Laws. -/
import Derived.Test.YtblkikjmocnllaaGreatDoorQz13
import Derived.Test.YtblkikjmocnllaaGreatDoorQz14
import Derived.Test.YtblkikjmocnllaaGreatDoorQz02
set_option linter.unusedVariables false
set_option linter.unusedSimpArgs false
set_option maxRecDepth 100000
set_option maxHeartbeats 40000000
namespace Go.Proofs.YtblkikjmocnllaaGreatDoor
section
open Go.RowKit Go.Shelf
abbrev Pow (w : World) : Prop := Lib.TabIs Tryz.prog w "internal/strconv.uint64pow10" .u64 Lib.pow10Tab
def childP (p:Str) (n:Int):Str × Nat :=
 if deepP p=0 then ([],100) else if n < 1 ∨ 1073741824 < n then ([],2) else if deepP p=8 then ([],6) else (p++46 :: Lib.itoa n,0)
theorem digits_len (u:Nat):(Lib.decDigits u).length<=u+1:=by
 induction u using Nat.strongRecOn with
 | ind u ih =>
  rw [Lib.decDigits]
  split
  ·simp
  ·rename_i h
   have:=ih (u / 10) (by omega)
   simp only [List.length_append,List.length_cons,List.length_nil]
   omega
theorem itoa_pos {n:Int} (h:1<=n):Lib.itoa n=Lib.decDigits n.toNat:=by unfold Lib.itoa;rw [if_neg (by omega)]
theorem bytes_append (a b:Str):(⟨a.toArray⟩:ByteArray)++⟨b.toArray⟩=⟨(a++b).toArray⟩:=by
 apply ByteArray.ext
 rw [ByteArray.data_append]
 simp
theorem grow_ext (w:World) (k:Nat) (os:Array Obj):Ext w (Go.Sort.grow (w.drewN k) os):=by
 refine ⟨rfl,rfl,rfl,?_,fun b hb=>?_⟩
 ·simp [Go.Sort.grow]
 ·simp [Go.Sort.grow,Array.getElem?_append,hb]
theorem Pow.below {w w':World} (h:Pow w) (hx:Ext w w'):Pow w':=by
 unfold Pow Lib.TabIs World.var? at h ⊢
 cases hg : Tryz.prog.globalNamed "internal/strconv.uint64pow10" with
 | none=>rw [hg] at h;cases h
 | some g =>
  rw [hg] at h
  simp only [Option.bind_some] at h ⊢
  have hlt:g < w.heap.size:=by
   rcases Nat.lt_or_ge g w.heap.size with h' | h'
   ·exact h'
   ·rw [Array.getElem?_eq_none h'] at h;cases h
  rw [hx.block g hlt]
  exact h
theorem child_any (p:Str) (hp:p.length < 4611686018427387904) (n:Int) (w:World) (ht:Pow w) (hn:-9223372036854775808<=n/\n<=9223372036854775807) :
  Calls Tryz.prog 38 #[St p,I n] w fun e w'=>e=.returned (.tuple #[St (childP p n).1,I (childP p n).2])/\Ext w w':=by
 have H:=Lib.hid (deep_any p hp)
 obtain⟨K,hK⟩:∃ K,childP p n=K:=⟨_,rfl⟩
 rw [hK]
 have HK:=Lib.hid hK
 clear hK
 unfold childP at HK
 have h8:deepP p<=8:=splitP_len p
 generalize deepP p=d at *
 by_cases h0:d=0
 ·subst h0
  have HF:=Lib.hid (show ([],100)=K by rw [<- HK.out,if_pos rfl])
  clear HK
  go_enter Tryz.func38,Tryz.ntmps38
  go_wp2_with fail
  refine (H.out _).mono ?_
  rintro e w1 ⟨rfl,hx⟩
  go_wp2
  refine bodyPost_ret (results_tmp2 rfl _ _ _) rfl ?_
  exact⟨by rw [<- HF.out];rfl,hx⟩
 ·have e0:((d:Int) == 0)=false:=by rw [beq_eq_false_iff_ne];omega
  by_cases h1:n < 1
  ·have HF:=Lib.hid (show ([],2)=K by rw [<- HK.out,if_neg h0,if_pos (.inl h1)])
   clear HK h0
   go_enter Tryz.func38,Tryz.ntmps38
   go_wp2_with fail
   refine (H.out _).mono ?_
   rintro e w1 ⟨rfl,hx⟩
   go_wp2
   refine bodyPost_ret (results_tmp2 rfl _ _ _) rfl ?_
   exact⟨by rw [<- HF.out];rfl,hx⟩
  ·have d1:decide (n < 1)=false:=by simp;omega
   by_cases h2:1073741824 < n
   ·have HF:=Lib.hid (show ([],2)=K by rw [<- HK.out,if_neg h0,if_pos (.inr h2)])
    have h2':n > 1073741824:=h2
    clear HK h0
    go_enter Tryz.func38,Tryz.ntmps38
    go_wp2_with fail
    refine (H.out _).mono ?_
    rintro e w1 ⟨rfl,hx⟩
    go_wp2
    refine bodyPost_ret (results_tmp2 rfl _ _ _) rfl ?_
    exact⟨by rw [<- HF.out];rfl,hx⟩
   ·have d2:decide (1073741824 < n)=false:=by simp;omega
    have d3:decide (n > 1073741824)=false:=d2
    have hn1:n ≥ 1:=by omega
    have hn2:n<=1073741824:=by omega
    clear h1 h2
    by_cases h3:d=8
    ·subst h3
     have HF:=Lib.hid (show ([],6)=K by rw [<- HK.out,if_neg h0,if_neg (by omega),if_pos rfl])
     clear HK h0
     go_enter Tryz.func38,Tryz.ntmps38
     go_wp2_with fail
     refine (H.out _).mono ?_
     rintro e w1 ⟨rfl,hx⟩
     go_wp2
     refine bodyPost_ret (results_tmp2 rfl _ _ _) rfl ?_
     exact⟨by rw [<- HF.out];rfl,hx⟩
    ·have e3:((d:Int) == 8)=false:=by rw [beq_eq_false_iff_ne];omega
     have HF:=Lib.hid (show (p++46 :: Lib.itoa n,0)=K by rw [<- HK.out,if_neg h0,if_neg (by omega),if_neg h3])
     have HT:=Lib.hid ht
     have hlen:p.length+1+(Lib.itoa n).length<=9223372036854775807:=by
      have:=digits_len n.toNat
      rw [itoa_pos hn1]
      omega
     have HI:=Lib.hid (fun w (h:Pow w)=>Any.strconv_Itoa Tryz.laysM171 n hn.1 hn.2 w h)
     clear HK h0 h3 ht
     go_enter Tryz.func38,Tryz.ntmps38
     go_wp2_with fail
     refine (H.out _).mono ?_
     rintro e w1 ⟨rfl,hx⟩
     have HX:=Lib.hid hx
     clear hx
     go_wp2_with fail
     refine (HI.out _ (HT.out.below HX.out)).mono ?_
     rintro e w2 ⟨rfl,k,os,rfl⟩
     go_wp2
     refine bodyPost_ret (results_tmp2 rfl _ _ _) rfl ?_
     refine ⟨?_,HX.out.trans (grow_ext _ _ _)⟩
     rw [<- HF.out]
     show Ending.returned (.tuple #[.string (⟨p.toArray⟩++⟨[46].toArray⟩++⟨(Lib.itoa n).toArray⟩),I 0])=_
     rw [bytes_append,bytes_append,List.append_assoc]
     rfl
abbrev U8 (n:Nat):Value:=.int .u8 (n:Int)
abbrev Span:=Int × Int
structure Plan where
 keeper:Str
 round:Nat
 live:Str
 by_:Str
 cap:Nat
 owner:Str
 base:Nat
 done:Bool
deriving DecidableEq
structure Word where
 of:Str
 has:Nat
 keeper:Str
 round:Nat
 agreed:Bool
 cap:Nat
 pruned:Bool
deriving DecidableEq
structure Mbr where
 path:Str
 status:Nat
 kids:Int
 cut:Int
 last:Nat
 gone:List Span
 plan:Plan
 words:List Word
deriving DecidableEq
def plan0:Plan:=⟨[],0,[],[],0,[],0,false⟩
def mbr0:Mbr:=⟨[],0,0,0,0,[],plan0,[]⟩
def spanC (s:Span):List Value:=[I s.1,I s.2]
def wordC (w:Word):List Value:=[St w.of,U w.has,St w.keeper,U w.round,.bool w.agreed,U w.cap,.bool w.pruned]
def planC (p:Plan):List Value:=[St p.keeper,U p.round,St p.live,St p.by_,U p.cap,St p.owner,U p.base,.bool p.done]
def mbrC (x:Mbr) (v1 v2:Value):List Value:=[St x.path,U8 x.status,I x.kids,I x.cut,U x.last,v1,St x.plan.keeper,U x.plan.round,St x.plan.live,St x.plan.by_,U x.plan.cap,St x.plan.owner,U x.plan.base,.bool x.plan.done,v2]
def planV (p:Plan):Value:=.agg #[St p.keeper,U p.round,St p.live,St p.by_,U p.cap,St p.owner,U p.base,.bool p.done]
def mbrV (x:Mbr) (v1 v2:Value):Value:=.agg #[St x.path,U8 x.status,I x.kids,I x.cut,U x.last,v1,St x.plan.keeper,U x.plan.round,St x.plan.live,St x.plan.by_,U x.plan.cap,St x.plan.owner,U x.plan.base,.bool x.plan.done,v2]
def wordV (w:Word):Value:=.agg #[St w.of,U w.has,St w.keeper,U w.round,.bool w.agreed,U w.cap,.bool w.pruned]
def spanV (s:Span):Value:=.agg #[I s.1,I s.2]
abbrev spanT:Shape Span:=flat 2 spanC (fun _=>rfl) (fun _ u hu=>by simp [spanC] at hu;rcases hu with rfl | rfl <;> rfl)
abbrev wordT:Shape Word:=flat 7 wordC (fun _=>rfl) (fun _ u hu=>by simp [wordC] at hu;rcases hu with rfl | rfl | rfl | rfl | rfl | rfl | rfl <;> rfl)
theorem mbrC_one {x:Mbr} {v1 v2:Value} (h1:v1.oneCell'=true) (h2:v2.oneCell'=true):∀ u ∈ mbrC x v1 v2,u.oneCell'=true:=by
 intro u hu
 simp [mbrC] at hu
 rcases hu with rfl | rfl | rfl | rfl | rfl | rfl | rfl | rfl | rfl | rfl | rfl | rfl | rfl | rfl | rfl <;> first | rfl | assumption
def mbrT:Shape Mbr where
 k:=15
 rd w S x vs:=∃ v1 v2,vs=mbrC x v1 v2/\Sl spanT w S v1 x.gone/\Sl wordT w S v2 x.words
 len h:=by obtain⟨_,_,rfl,-⟩:=h;rfl
 one h:=by
  obtain⟨_,_,rfl,h1,h2⟩:=h
  exact mbrC_one h1.one h2.one
 keep h hs:=by
  obtain⟨v1,v2,e,h1,h2⟩:=h
  exact⟨v1,v2,e,h1.keep (by decide) hs,h2.keep (by decide) hs⟩
 mono h hs:=by
  obtain⟨v1,v2,e,h1,h2⟩:=h
  exact⟨v1,v2,e,h1.mono (by decide) hs,h2.mono (by decide) hs⟩
theorem info_span:(Tryz.prog.info? 76).map (fun i=>(i.zero,i.size,i.bytes))=some (some (spanV (0,0)),2,16):=by kernel_rfl
theorem info_word:(Tryz.prog.info? 71).map (fun i=>(i.zero,i.size,i.bytes))=some (some (wordV ⟨[],0,[],0,false,0,false⟩),7,72):=by kernel_rfl
theorem info_mbr:(Tryz.prog.info? 48).map (fun i=>(i.zero,i.size,i.bytes))=some (some (mbrV mbr0 (.slice none 0 0) (.slice none 0 0)),15,192):=by kernel_rfl
theorem Grew.ownL {α:Type} {T:Shape α} {e:Nat} {w w':World} {base:Nat} {S:Nat->Prop} {v v':Value} {l:List α} {y:α} {vs:List Value} {vss:List (List Value)} (hS:∀ b,S b->b < base) (h1:vss.length=l.length)
  (h2:∀ (i:Nat) x vs,l[i]? = some x->vss[i]? = some vs->T.rd w S x vs) (h3:Own w base e T.k v l.length vss.flatten) (hy:T.rd w S y vs) (h4:Own w' base e T.k v' (l.length+1) (vss.flatten++vs)) (hg:Grew w w' v v'):OwnL T e w' base S v' (l++[y]):=by
 have hk:∀ b,S b->b < w.heap.size->w'.heap[b]? = w.heap[b]?:=fun b hb hlt=>hg.same b hlt fun ho=>by
  have h5:=(h3.base_le ho).1
  have h6:=hS b hb
  omega
 exact OwnL.snoc h1 (fun i x vs hi hv=>T.keep (h2 i x vs hi hv) hk) (T.keep hy hk) h4
theorem wpList_append_OwnL {P:Program} {w:World} {ops:Array Oper} {rest:List Oper} {o:Oper} {a:Act} {Q:Exit->Act->World->Prop} (hgd:o.guard=none) (s x:Operand) (t:TypeId)
  (ho:o.op=.call { callee:=.builtin .append,args:=#[s,x],argTypes:=#[t,t] }) {α:Type} (T:Shape α)
  (base e bytes:Nat) (z:Value) (ht:P.underlying t=some (.slice e)) (hinfo:(P.info? e).map (fun i=>(i.zero,i.size,i.bytes))=some (some z,T.k,bytes)) (hzs:z.cells.size=T.k) (hsz:0 < T.k)
  (S:Nat->Prop) (hS:∀ b,S b->b < base) (v:Value) (l:List α) (hs:a.eval s=v) (hown:OwnL T e w base S v l)
  (A:Option Addr) (c:Nat) (y:α) (vs:List Value) (hx:a.eval x=.slice A 1 c) (hsrc:Src w T.k A 1 vs) (hy:T.rd w S y vs)
  (hbytes:(l.length+1) * bytes<=140737488355328) (h63:l.length+1<=9223372036854775807) (hbase:base<=w.heap.size)
  (h:∀ v' w',OwnL T e w' base S v' (l++[y])->Grew w w' v v'->wpList P ops Q rest (a.put o.dst v') w'):wpList P ops Q (o :: rest) a w:=by
 obtain⟨vss,h1,h2,h3⟩:=hown
 exact wpList_append_Own hgd s x t ho base e T.k bytes z ht hinfo hzs hsz v l.length vss.flatten hs h3 A 1 c vs hx hsrc hbytes h63 hbase fun v' w' h4 hg=>h v' w' (Grew.ownL hS h1 h2 h3 hy h4 hg) hg
theorem Ext.grewL {α:Type} {T:Shape α} {e:Nat} {w0 w w':World} {base:Nat} {S:Nat->Prop} {v v':Value} {l:List α} (h:Ext w0 w) (hg:Grew w w' v v') (ho:OwnL T e w base S v l) (hb:w0.heap.size<=base):Ext w0 w':=by
 obtain⟨_,h3⟩:=ho.own
 exact h.grewOwn hg h3 hb
theorem rowX_snoc {α:Type} {T:Shape α} {tid base:Nat} {R:Nat->Prop} {W W':World} {v v':Value} {l:List α} {x:α} {vs:List Value} {vss:List (List Value)} (h1:vss.length=l.length)
  (h2:∀ (i:Nat) x vs,l[i]? = some x->vss[i]? = some vs->T.rd W (fun b=>R b/\¬ ownBlk v b) x vs) (hx:T.rd W (fun b=>R b/\¬ ownBlk v b) x vs) (h3:Own W' base tid T.k v' (l.length+1) (vss.flatten++vs)) (hgr:Grew W W' v v') :
  OwnL T tid W' base (fun b=>R b/\¬ ownBlk v' b) v' (l++[x]):=by
 have lift:∀ x vs,T.rd W (fun b=>R b/\¬ ownBlk v b) x vs->T.rd W' (fun b=>R b/\¬ ownBlk v' b) x vs:=fun x vs h=>by
  have a:=T.mono (S':=fun b=>(R b/\¬ ownBlk v b)/\b < W.heap.size) h (fun b hb h=>⟨h,hb⟩)
  have b:=T.keep (w':=W') a (fun b hb hlt=>hgr.same b hlt hb.1.2)
  exact T.mono b fun b _ hb=>⟨hb.1.1,fun ho=>by
   rcases hgr.blk b ho with h | h
   ·exact hb.1.2 h
   ·have:=hb.2;omega⟩
 exact OwnL.snoc h1 (fun i x vs hi hv=>lift x vs (h2 i x vs hi hv)) (lift x vs hx) h3
theorem wpList_append_X {α:Type} {T:Shape α} {P:Program} {w0 w:World} {ops:Array Oper} {rest:List Oper} {o:Oper} {a:Act} {Q:Exit->Act->World->Prop} (hgd:o.guard=none) (s x:Operand) (t:TypeId)
  (ho:o.op=.call { callee:=.builtin .append,args:=#[s,x],argTypes:=#[t,t] })
  (base e bytes:Nat) (z:Value) (ht:P.underlying t=some (.slice e)) (hinfo:(P.info? e).map (fun i=>(i.zero,i.size,i.bytes))=some (some z,T.k,bytes)) (hzs:z.cells.size=T.k) (hsz:0 < T.k)
  (R:Nat->Prop) (v:Value) (l:List α) (hs:a.eval s=v) (hown:OwnL T e w base (fun b=>R b/\¬ ownBlk v b) v l)
  (A:Option Addr) (c:Nat) (y:α) (vs:List Value) (hx:a.eval x=.slice A 1 c) (hsrc:Src w T.k A 1 vs) (hrd:T.rd w (fun b=>R b/\¬ ownBlk v b) y vs)
  (hbytes:(l.length+1) * bytes<=140737488355328) (h63:l.length+1<=9223372036854775807) (hbase:base<=w.heap.size) (he:Ext w0 w) (hb0:w0.heap.size<=base)
  (h:∀ v' w',OwnL T e w' base (fun b=>R b/\¬ ownBlk v' b) v' (l++[y])->Ext w0 w'->Grew w w' v v'->wpList P ops Q rest (a.put o.dst v') w'):wpList P ops Q (o :: rest) a w:=by
 obtain⟨vss,q1,q2,q3⟩:=hown
 refine wpList_append_Own hgd s x t ho base e T.k bytes z ht hinfo hzs hsz v l.length vss.flatten hs q3 A 1 c vs hx hsrc hbytes h63 hbase fun v' w' h1 h2=>?_
 exact h v' w' (rowX_snoc q1 q2 hrd h1 h2) (Ext.grewOwn he h2 q3 hb0) h2
theorem rowX_sl {α:Type} {T:Shape α} {tid base:Nat} {R:Nat->Prop} {W:World} {v:Value} {l:List α} (h:OwnL T tid W base (fun b=>R b/\¬ ownBlk v b) v l) (hk:0 < T.k) (hR:∀ b,base<=b->R b):Sl T W R v l :=
 h.sl hk (fun _ _ h=>h.1) (fun b h _=>hR b h)
theorem dig_ofNat {d:Nat} (h:d < 10):(UInt8.ofNat (48+d)).toNat=48+d:=by
 rw [UInt8.toNat_ofNat']
 omega
theorem dec_step {u:Nat} (h:¬ u < 10):Lib.decDigits u=Lib.decDigits (u / 10)++[UInt8.ofNat (48+u % 10)]:=by rw [Lib.decDigits,dif_neg h]
theorem dec_dig (u:Nat):(Lib.decDigits u).all digB=true:=by
 induction u using Nat.strongRecOn with
 | _ u ih =>
  by_cases h:u < 10
  ·rw [Lib.decDigits_one h]
   simp only [List.all_cons,List.all_nil,Bool.and_true,digB,dig_ofNat h,Bool.and_eq_true,decide_eq_true_eq]
   omega
  ·rw [dec_step h,List.all_append,ih (u / 10) (by omega)]
   simp only [List.all_cons,List.all_nil,Bool.and_true,digB,dig_ofNat (show u % 10 < 10 by omega),Bool.and_eq_true,decide_eq_true_eq,Bool.true_and]
   omega
theorem dec_val (u:Nat):digV (Lib.decDigits u) 0=u:=by
 induction u using Nat.strongRecOn with
 | _ u ih =>
  by_cases h:u < 10
  ·rw [Lib.decDigits_one h]
   simp only [digV,dig_ofNat h]
   omega
  ·rw [dec_step h,digV_append,ih (u / 10) (by omega)]
   simp only [digV,dig_ofNat (show u % 10 < 10 by omega)]
   omega
theorem dec_head {u:Nat} (h1:1<=u):∃ b r,Lib.decDigits u=b :: r/\b ≠ 48:=by
 induction u using Nat.strongRecOn with
 | _ u ih =>
  by_cases h:u < 10
  ·refine ⟨_,[],Lib.decDigits_one h,fun e=>?_⟩
   have:=congrArg UInt8.toNat e
   rw [dig_ofNat h] at this
   have h48:(48:UInt8).toNat=48:=rfl
   omega
  ·obtain⟨b,r,e,hb⟩:=ih (u / 10) (by omega) (by omega)
   exact⟨b,r++[UInt8.ofNat (48+u % 10)],by rw [dec_step h,e];rfl,hb⟩
theorem dec_len {u:Nat} (h:u<=1073741824):(Lib.decDigits u).length<=10:=by
 rw [Lib.decDigits_length]
 have h1:=Lib.nDigits_pos u
 by_cases h0:u=0
 ·subst h0;rw [Lib.nDigits_small (by omega)];omega
 ·apply Nat.le_of_not_lt
  intro hc
  have key:∀ (k v:Nat),Lib.nDigits v=k+1->1<=k->10 ^ k<=v:=by
   intro k
   induction k with
   | zero=>intro v _ h;omega
   | succ k ih =>
    intro v hv _
    by_cases hs:v < 10
    ·rw [Lib.nDigits_small hs] at hv;omega
    ·rw [Lib.nDigits_big hs] at hv
     by_cases hk:1<=k
     ·have:=ih (v / 10) (by omega) hk
      rw [Nat.pow_succ]
      omega
     ·have:k=0:=by omega
      subst this
      simp
      omega
  have h2:=key (Lib.nDigits u - 1) u (by omega) (by omega)
  have h3:10 ^ 10<=10 ^ (Lib.nDigits u - 1):=Nat.pow_le_pow_right (by decide) (by omega)
  have h4:(10:Nat) ^ 10=10000000000:=by decide
  omega
theorem numS_dec {u:Nat} (h1:1<=u) (h2:u<=1073741824):numS (Lib.decDigits u)=u:=by
 obtain⟨b,r,e,hb⟩:=dec_head h1
 have hl:=dec_len h2
 have hd:=dec_dig u
 have hv:=dec_val u
 unfold numS
 rw [hv,hd]
 have hne:(Lib.decDigits u).isEmpty=false:=by rw [e];rfl
 have hh:((Lib.decDigits u).head? == some 48)=false:=by
  rw [e]
  simp only [List.head?_cons]
  exact beq_eq_false_iff_ne.2 (fun h=>hb (by injection h))
 rw [hne,hh,decide_eq_false (by omega)]
 simp
 omega
theorem numS_form {s:Str} (h:numS s ≠ 0):s=Lib.decDigits (numS s) :=
 have h1:numS (Lib.decDigits (numS s))=numS s:=numS_dec (by omega) (numS_le s)
 numS_inj h1.symm h
theorem conv_one (W:World) (T:TypeId) (d:Nat) (h:d < 256) (z:Int) (hz:z=(d:Int)):(convert 139 9 (.slice (some ⟨W.heap.size,0,none⟩) 1 1)).run Tryz.prog (W.alloc (.cells #[.int .u8 z] T))=.ok (.string ⟨#[UInt8.ofNat d]⟩) (W.alloc (.cells #[.int .u8 z] T)):=by
 have h2:=run_convert_bytes_back (P:=Tryz.prog) (W.alloc (.cells #[.int .u8 z] T)) 139 9 5 ⟨W.heap.size,0,none⟩ 1 [UInt8.ofNat d] Tryz.underlying139 Tryz.underlying5 Tryz.underlying9 (fun j hj=>by
  have hj0:j=0:=by simpa using hj
  subst hj0
  simp only [List.getElem_cons_zero]
  rw [UInt8.toNat_ofNat',show d % 2 ^ 8=d by omega,<- hz]
  have:=(rowNew W T [.int .u8 z]).cell (j:=0) rfl
  exact this)
 exact h2
theorem refNum_any (n:Nat) (hn:n<=4611686018427387904) (w:World):Calls Tryz.prog 78 #[I n] w fun e w'=>e=.returned (St (Lib.decDigits n))/\Ext w w':=by
 go_enter Tryz.func78,Tryz.ntmps78
 go_wp2_with fail
 go_loopw [0,3] (fun m s wr=>∃ (k:Nat) (acc:Str),m=I k/\s=St acc/\k<=4611686018427387904/\Hid (Lib.decDigits n=Lib.decDigits k++acc)/\Ext w wr) (fun m _ _=>(intOf m).toNat)
 case atStart=>exact⟨n,[],rfl,rfl,hn,Lib.hid (by simp),Ext.refl _⟩
 case round =>
  obtain⟨k,acc,rfl,rfl,hk,hd,hx⟩:=hrel
  have hal:acc.length<=4611686018427387905:=by
   have h1:=digits_len n
   rw [hd.out,List.length_append] at h1
   omega
  by_cases hlt:k < 10
  ·have e1:¬ (k:Int) > 9:=by omega
   have hcv:=conv_one wr 5 (48+k) (by omega) (48+(k:Int)) (by omega)
   have HF:=Lib.hid (show (⟨#[UInt8.ofNat (48+k)]⟩:ByteArray)++⟨acc.toArray⟩=⟨(Lib.decDigits n).toArray⟩ by rw [hd.out,Lib.decDigits_one hlt];exact bytes_append [_] acc)
   have HX:=Lib.hid hx
   generalize UInt8.ofNat (48+k)=dd at *
   clear hd hx hlt
   go_wp2_with fail
   go_ret
   exact⟨congrArg (fun b=>Ending.returned (Value.string b)) HF.out,HX.out.alloc _⟩
  ·have e1:(k:Int) > 9:=by omega
   have hcv:=conv_one wr 5 (48+k % 10) (by omega) (48+(k:Int) % 10) (by omega)
   have HX:=Lib.hid hx
   have HD:=Lib.hid (show Lib.decDigits n=Lib.decDigits (k / 10)++(UInt8.ofNat (48+k % 10) :: acc) by rw [hd.out,dec_step hlt];simp)
   have HB:=Lib.hid (show (⟨#[UInt8.ofNat (48+k % 10)]⟩:ByteArray)++⟨acc.toArray⟩=⟨(UInt8.ofNat (48+k % 10) :: acc).toArray⟩ from bytes_append [_] acc)
   generalize UInt8.ofNat (48+k % 10)=dd at *
   clear hd hx hlt
   go_wp2_with fail
   go_roundw
   case rel=>exact⟨k / 10,dd :: acc,rfl,congrArg Value.string HB.out,by omega,Lib.hid HD.out,HX.out.alloc _⟩
   case measure=>simp [intOf];omega
end
section
open Go.RowKit
theorem Sl.none_nil {α:Type} {T:Shape α} {w:World} {S:Nat->Prop} {n c:Nat} {l:List α} (h:Sl T w S (.slice none n c) l):l = []:=by
 cases l with
 | nil=>rfl
 | cons x r =>
  obtain⟨b,o,vs,c',hv',-⟩:=h.at_ (pre:=[]) rfl
  cases hv'
theorem no_ownBlk {A:Option Addr} {n:Nat} {b:Nat}:¬ ownBlk (.slice A n 0) b:=by
 rintro⟨g,n',c,h,hc,rfl⟩
 cases h
 omega
theorem clone_end {α:Type} {T:Shape α} {tid:Nat} {w w1 w':World} {S:Nat->Prop} {v':Value} {l:List α} {A:Option Addr} {vss:List (List Value)}
  (h1:vss.length=l.length) (h2:∀ (i:Nat) x vs,l[i]? = some x->vss[i]? = some vs->T.rd w S x vs) (hown:Own w' w.heap.size tid T.k v' (0+l.length) ([]++vss.flatten))
  (he:Ext w w1) (hg:Grew w1 w' (.slice A 0 0) v'):OwnL T tid w' w.heap.size S v' l/\Ext w w':=by
 have hx:Ext w w':=he.grew hg (fun b hb=>absurd hb no_ownBlk)
 exact⟨⟨vss,h1,fun i x vs hi hv=>T.keep (h2 i x vs hi hv) (fun b _ hb=>hx.block b hb),by simpa using hown⟩,hx⟩
theorem clone_span {S:Nat->Prop} {v:Value} {l:List (Span)} {w:World} (hv:Sl spanT w S v l) (hl:l.length<=4294967296) :
  Calls Tryz.prog 125 #[v] w fun e w'=>∃ v',e=.returned v'/\OwnL spanT 76 w' w.heap.size S v' l/\Ext w w':=by
 obtain⟨A,c,rfl,h1,h2⟩:=hv.form
 cases A with
 | none =>
  obtain rfl:=hv.none_nil
  have hq:=fun W=>Lib.run_eql_slice_nil (P:=Tryz.prog) W 41 76 none 0 c 0 0 Tryz.underlying41
  clear hv
  go_enter Tryz.func125,Tryz.ntmps125
  go_wp2
  go_ret
  exact⟨_,rfl,OwnL.nil _ _,Ext.refl _⟩
 | some A =>
  have hq:=fun W=>Lib.run_eql_slice_nil (P:=Tryz.prog) W 41 76 (some A) l.length c 0 0 Tryz.underlying41
  have HS:=Lib.hid hv.src
  clear hv
  go_enter Tryz.func125,Tryz.ntmps125
  go_wp2_with (at_builtin;refine wpList_append_Own rfl (.tmp 5) (.tmp 6) 41 rfl w.heap.size 76 2 16 (spanV (0,0)) Tryz.underlying41 info_span rfl (by omega) (.slice (some ⟨w.heap.size,0,none⟩) 0 0) 0 [] rfl (Own.nil _ _ _ _ _) (some A) l.length c (HS.out.choose).flatten rfl (Src.ext HS.out.choose_spec.2.2 ((Ext.refl w).alloc _)) (by omega) (by omega) (by simp) ?_;intro v' w' hown hgr;clear hq)
  go_ret
  exact⟨v',rfl,clone_end HS.out.choose_spec.1 HS.out.choose_spec.2.1 hown ((Ext.refl w).alloc _) hgr⟩
theorem clone_word {S:Nat->Prop} {v:Value} {l:List (Word)} {w:World} (hv:Sl wordT w S v l) (hl:l.length<=4294967296) :
  Calls Tryz.prog 126 #[v] w fun e w'=>∃ v',e=.returned v'/\OwnL wordT 71 w' w.heap.size S v' l/\Ext w w':=by
 obtain⟨A,c,rfl,h1,h2⟩:=hv.form
 cases A with
 | none =>
  obtain rfl:=hv.none_nil
  have hq:=fun W=>Lib.run_eql_slice_nil (P:=Tryz.prog) W 46 71 none 0 c 0 0 Tryz.underlying46
  clear hv
  go_enter Tryz.func126,Tryz.ntmps126
  go_wp2
  go_ret
  exact⟨_,rfl,OwnL.nil _ _,Ext.refl _⟩
 | some A =>
  have hq:=fun W=>Lib.run_eql_slice_nil (P:=Tryz.prog) W 46 71 (some A) l.length c 0 0 Tryz.underlying46
  have HS:=Lib.hid hv.src
  clear hv
  go_enter Tryz.func126,Tryz.ntmps126
  go_wp2_with (at_builtin;refine wpList_append_Own rfl (.tmp 5) (.tmp 6) 46 rfl w.heap.size 71 7 72 (wordV ⟨[],0,[],0,false,0,false⟩) Tryz.underlying46 info_word rfl (by omega) (.slice (some ⟨w.heap.size,0,none⟩) 0 0) 0 [] rfl (Own.nil _ _ _ _ _) (some A) l.length c (HS.out.choose).flatten rfl (Src.ext HS.out.choose_spec.2.2 ((Ext.refl w).alloc _)) (by omega) (by omega) (by simp) ?_;intro v' w' hown hgr;clear hq)
  go_ret
  exact⟨v',rfl,clone_end HS.out.choose_spec.1 HS.out.choose_spec.2.1 hown ((Ext.refl w).alloc _) hgr⟩
theorem clone_mbr {S:Nat->Prop} {v:Value} {l:List (Mbr)} {w:World} (hv:Sl mbrT w S v l) (hl:l.length<=4294967296) :
  Calls Tryz.prog 75 #[v] w fun e w'=>∃ v',e=.returned v'/\OwnL mbrT 48 w' w.heap.size S v' l/\Ext w w':=by
 obtain⟨A,c,rfl,h1,h2⟩:=hv.form
 cases A with
 | none =>
  obtain rfl:=hv.none_nil
  have hq:=fun W=>Lib.run_eql_slice_nil (P:=Tryz.prog) W 22 48 none 0 c 0 0 Tryz.underlying22
  clear hv
  go_enter Tryz.func75,Tryz.ntmps75
  go_wp2
  go_ret
  exact⟨_,rfl,OwnL.nil _ _,Ext.refl _⟩
 | some A =>
  have hq:=fun W=>Lib.run_eql_slice_nil (P:=Tryz.prog) W 22 48 (some A) l.length c 0 0 Tryz.underlying22
  have HS:=Lib.hid hv.src
  clear hv
  go_enter Tryz.func75,Tryz.ntmps75
  go_wp2_with (at_builtin;refine wpList_append_Own rfl (.tmp 5) (.tmp 6) 22 rfl w.heap.size 48 15 192 (mbrV mbr0 (.slice none 0 0) (.slice none 0 0)) Tryz.underlying22 info_mbr rfl (by omega) (.slice (some ⟨w.heap.size,0,none⟩) 0 0) 0 [] rfl (Own.nil _ _ _ _ _) (some A) l.length c (HS.out.choose).flatten rfl (Src.ext HS.out.choose_spec.2.2 ((Ext.refl w).alloc _)) (by omega) (by omega) (by simp) ?_;intro v' w' hown hgr;clear hq)
  go_ret
  exact⟨v',rfl,clone_end HS.out.choose_spec.1 HS.out.choose_spec.2.1 hown ((Ext.refl w).alloc _) hgr⟩
theorem span_at {w wr:World} {S:Nat->Prop} {A:Option Addr} {n c:Nat} {l pre post:List Span} {m:Span} (h:Sl spanT w S (.slice A n c) l) (hb:Ext w wr) (hl:l=pre++m :: post) :
  ∃ b o,A=some ⟨b,o,none⟩/\wr.cell? ⟨b,o+pre.length * 2,none⟩=some (I m.1)/\wr.cell? ⟨b,o+pre.length * 2+1,none⟩=some (I m.2):=by
 obtain⟨b,o,vs,c',hv,hS,rfl,hc⟩:=h.at_ hl
 injection hv with e1 e2 e3
 subst e1
 exact⟨b,o,rfl,hb.cell (hc 0 _ rfl),hb.cell (hc 1 _ rfl)⟩
structure PredS (P:Program) (g:Nat) (cb:Array Value) (base:Nat) (C:World->Prop) (p:Span->Bool):Prop where
 enters:∀ args w,(callFunc g args).run P w=.ok (.enter g args) w
 keep:∀ W W',C W->Below base W W'->C W'
 does:∀ m W,C W->Calls P g (#[.agg #[I m.1,I m.2]]++cb) W fun e w'=>e=.returned (.bool (p m))/\Ext W w'
theorem Ext.below {w w':World} (h:Ext w w') {n:Nat} (hn:n<=w.heap.size):Below n w w':=Below.mono h hn
theorem snoc_all {α:Type} {Q:α->Prop} {pre:List α} {m:α} (h:∀ x ∈ pre,Q x) (hm:Q m):∀ x ∈ pre++[m],Q x:=fun x hx=>by
 rcases List.mem_append.1 hx with h1 | h1
 ·exact h x h1
 ·rw [List.mem_singleton.1 h1];exact hm
def idxS (p:Span->Bool) (l:List Span):Int:=match l.findIdx? p with | some i=>i | none=>-1
theorem idxS_none {p:Span->Bool} {l:List Span} (h:∀ m ∈ l,p m=false):idxS p l = -1:=by
 unfold idxS
 rw [List.findIdx?_eq_none_iff.2 (fun x hx=>h x hx)]
theorem idxS_some {p:Span->Bool} {pre post:List Span} {m:Span} (h:∀ x ∈ pre,p x=false) (hm:p m=true):idxS p (pre++m :: post)=pre.length:=by
 unfold idxS
 have:(pre++m :: post).findIdx? p=some pre.length:=by
  rw [List.findIdx?_append,List.findIdx?_eq_none_iff.2 (fun x hx=>h x hx)]
  simp [List.findIdx?_cons,hm]
 rw [this]
theorem index_span {S:Nat->Prop} {v:Value} {l:List Span} {w:World} {g base:Nat} {cb:Array Value} {C:World->Prop} {p:Span->Bool} (hv:Sl spanT w S v l) (hp:PredS Tryz.prog g cb base C p) (hC:C w) (hbase:base<=w.heap.size) :
  Calls Tryz.prog 170 #[v,.func (.func g) #[] cb] w fun e w'=>e=.returned (I (idxS p l))/\Ext w w':=by
 have hv':=hv
 obtain⟨A,c,rfl,h1,h2⟩:=hv.form
 have HC:=Lib.hid hC
 have eg:=hp.enters
 clear hv hC
 go_enter Tryz.func170,Tryz.ntmps170
 go_wp2
 go_loopw [8] (fun i wr=>∃ pre post,l=pre++post/\i=I pre.length/\(∀ x ∈ pre,p x=false)/\Ext w wr) (fun i _=>l.length - (intOf i).toNat)
 case atStart=>exact⟨[],l,rfl,rfl,by simp,Ext.refl _⟩
 case round =>
  obtain⟨pre,post,hl,rfl,hpre,hb⟩:=hrel
  cases post with
  | cons m post =>
   obtain⟨b,o,rfl,hd0,hd1⟩:=span_at hv' hb hl
   have hlt:pre.length < l.length:=by rw [hl];simp
   have HL:=Lib.hid hl
   have HP:=Lib.hid hpre
   have HD:=Lib.hid (hp.does m wr (hp.keep _ _ HC.out (hb.below hbase)))
   clear hl hv' hp hpre
   cases hpm:p m
   all_goals
    rw [hpm] at HD
    go_wp2_with fail
    refine HD.out.mono ?_
    rintro e w1 ⟨rfl,hb1⟩
    go_wp2
   ·go_roundw
    case rel=>exact⟨pre++[m],post,by rw [HL.out];simp,by simp,snoc_all HP.out hpm,hb.trans hb1⟩
    case measure=>simp [intOf];omega
   ·go_ret
    exact⟨by rw [HL.out,idxS_some HP.out hpm];rfl,hb.trans hb1⟩
  | nil =>
   rw [List.append_nil] at hl;subst hl
   have HP:=Lib.hid hpre
   clear hv' hpre hp
   go_wp2
   go_ret
   exact⟨by rw [idxS_none HP.out];rfl,hb⟩
theorem spanC_len (l:List Span):(l.flatMap spanC).length=l.length * 2:=by
 induction l with
 | nil=>rfl
 | cons a r ih=>simp [ih,spanC];omega
theorem spanC_at (A B:List Span) (x:Span):((A++x :: B).flatMap spanC)[A.length * 2]? = some (I x.1)/\((A++x :: B).flatMap spanC)[A.length * 2+1]? = some (I x.2):=by
 rw [List.flatMap_append,<- spanC_len A]
 constructor
 ·rw [List.getElem?_append_right (Nat.le_refl _)];simp [spanC]
 ·rw [List.getElem?_append_right (by omega)];simp [spanC]
theorem spanC_set (A B:List Span) (x y:Span):(((A++x :: B).flatMap spanC).set (A.length * 2) (I y.1)).set (A.length * 2+1) (I y.2)=(A++y :: B).flatMap spanC:=by
 rw [List.flatMap_append,List.flatMap_append,<- spanC_len A,List.set_append_right _ _ (Nat.le_refl _),List.set_append_right _ _ (by omega)]
 simp [spanC]
theorem spanC_take (A B:List Span):((A++B).flatMap spanC).take (A.length * 2)=A.flatMap spanC:=by
 rw [List.flatMap_append,<- spanC_len A]
 simp
theorem own_spanT {tid base:Nat} {S:Nat->Prop} {v:Value} {l:List Span} {w:World}:OwnL spanT tid w base S v l↔Own w base tid 2 v l.length (l.flatMap spanC):=OwnL.flat_iff
theorem own_slSpan {tid base:Nat} {v:Value} {l:List Span} {w:World} (h:Own w base tid 2 v l.length (l.flatMap spanC)):Sl spanT w (fun b=>base<=b) v l :=
 (own_spanT (S:=fun b=>base<=b).2 h).sl (by decide) (fun _ _ h=>h) (fun _ h _=>h)
theorem below_setRow {base:Nat} {w w1:World} {g:Nat} (h:Below base w w1) (hg:base<=g) (cs:Array Value):Below base w (w1.setRow g cs) :=
 ⟨h.os,h.tape,h.output,Nat.le_trans h.size (by simp [World.setRow]),fun k hk=>(setRow_other w1 g k _ (by omega)).trans (h.block k hk)⟩
theorem RowIs.setSpan {w:World} {g T:Nat} {A B:List Span} {x:Span} {tail:List Value} (h:RowIs w g T ((A++x :: B).flatMap spanC) tail) (y:Span) :
  RowIs ((w.setCell ⟨g,A.length * 2,none⟩ (I y.1)).setCell ⟨g,A.length * 2+1,none⟩ (I y.2)) g T ((A++y :: B).flatMap spanC) tail:=by
 have hl:((A++x :: B).flatMap spanC).length=A.length * 2+2+B.length * 2:=by rw [spanC_len];simp;omega
 have h1:=h.set (j:=A.length * 2) (by omega) (I y.1)
 have h2:=h1.set (j:=A.length * 2+1) (by rw [List.length_set];omega) (I y.2)
 rwa [spanC_set] at h2
theorem delete_span {v:Value} {l:List Span} {w:World} {g base:Nat} {cb:Array Value} {C:World->Prop} {p:Span->Bool} (hv:Own w base 76 2 v l.length (l.flatMap spanC)) (hp:PredS Tryz.prog g cb base C p) (hC:C w) (hbase:base<=w.heap.size) :
  Calls Tryz.prog 139 #[v,.func (.func g) #[] cb] w fun e w'=>∃ v',e=.returned v'/\Own w' base 76 2 v' (l.filter fun m=>!p m).length ((l.filter fun m=>!p m).flatMap spanC)/\Below base w w':=by
 have hsl:=own_slSpan hv
 have HI:=Lib.hid (index_span hsl hp hC hbase)
 by_cases hall:∀ m ∈ l,p m=false
 ·have hi:=idxS_none hall
  rw [hi] at HI
  have hf:(l.filter fun m=>!p m)=l:=List.filter_eq_self.2 (fun m hm=>by simp [hall m hm])
  have HF:=Lib.hid hf
  have HV:=Lib.hid hv
  clear hi hf hv hsl hp hall
  go_enter Tryz.func139,Tryz.ntmps139
  go_wp2_with fail
  refine HI.out.mono ?_
  rintro e w1 ⟨rfl,hb1⟩
  go_wp2
  go_ret
  exact⟨_,rfl,by rw [HF.out];exact HV.out.ext hb1,hb1.below hbase⟩
 ·obtain⟨pre0,m0,post0,hl0,hpre0,hm0⟩:∃ pre m post,l=pre++m :: post/\(∀ x ∈ pre,p x=false)/\p m=true:=by
   clear HI hsl hv
   induction l with
   | nil=>exact absurd (by simp) hall
   | cons a r ih =>
    cases ha:p a with
    | true=>exact⟨[],a,r,rfl,by simp,ha⟩
    | false =>
     obtain⟨pre,m,post,e1,e2,e3⟩:=ih (fun h=>hall (by simp [ha];exact fun a b hab=>h _ hab))
     exact⟨a :: pre,m,post,by rw [e1];rfl,by simp [ha];exact fun a b hab=>e2 _ hab,e3⟩
  have hi:=idxS_some (post:=post0) hpre0 hm0
  rw [<- hl0] at hi
  rw [hi] at HI
  have hlen:pre0.length < l.length:=by rw [hl0];simp
  obtain⟨gb,cap,tail,rfl,hgb,hrow,hnc,hcm,hcl⟩:=hv.row (by omega)
  have HR:=Lib.hid hrow
  have HCL:=Lib.hid hcl
  have HL0:=Lib.hid hl0
  have HP0:=Lib.hid hpre0
  have HM0:=Lib.hid hm0
  have HCw:=Lib.hid hC
  have eg:=hp.enters
  have HPr:=Lib.hid hp
  have hq0:((pre0.length:Int) == -1)=false:=by rw [beq_eq_false_iff_ne];omega
  clear hi hrow hcl hl0 hpre0 hm0 hC hp hv hsl hall
  go_enter Tryz.func139,Tryz.ntmps139
  go_wp2_with fail
  refine HI.out.mono ?_
  rintro e w1 ⟨rfl,hb1⟩
  go_wp2_with fail
  go_loopw [5,6] (fun i j wr=>∃ pre post kept junk:List Span,l=pre++post/\j=I pre.length/\i=I kept.length/\kept=pre.filter (fun m=>!p m)/\kept.length+junk.length=pre.length/\0 < junk.length/\RowIs wr gb 76 ((kept++junk++post).flatMap spanC) tail/\Below base w wr) (fun _ j _=>l.length - (intOf j).toNat)
  case atStart =>
   refine ⟨pre0++[m0],post0,pre0,[m0],by rw [HL0.out];simp,by simp,rfl,?_,by simp,by simp,?_,hb1.below hbase⟩
   ·rw [List.filter_append,List.filter_eq_self.2 (fun m hm=>by simp [HP0.out m hm])];simp [HM0.out]
   ·have:=HR.out.ext hb1
    rw [HL0.out] at this
    simpa using this
  case round =>
   obtain⟨pre,post,kept,junk,hl,rfl,rfl,hkept,hkj,hj0,hrow,hb⟩:=hrel
   cases post with
   | cons m post =>
    obtain⟨x,junk,rfl⟩:∃ x r,junk=x :: r:=by cases junk with | nil=>simp at hj0 | cons x r=>exact⟨x,r,rfl⟩
    have hlt:pre.length < l.length:=by rw [hl];simp
    have hm:=spanC_at (kept++x :: junk) post m
    rw [List.length_append,hkj] at hm
    have hd0:=hrow.cell hm.1
    have hd1:=hrow.cell hm.2
    have HD:=Lib.hid (HPr.out.does m (wr.alloc (.cells #[I m.1,I m.2] 76)) (HPr.out.keep _ _ HCw.out (Below.trans hb (((Ext.refl wr).alloc _).below (Nat.le_trans hbase hb.size)))))
    have HL:=Lib.hid hl
    have HK:=Lib.hid hkept
    have HKJ:=Lib.hid hkj
    have HRow:=Lib.hid hrow
    have hkl:kept.length < pre.length:=by simp at hkj;omega
    clear hl hkept hkj hrow hm hj0
    cases hpm:p m
    all_goals
     rw [hpm] at HD
     go_wp2_with fail
     refine HD.out.mono ?_
     rintro e w2 ⟨rfl,hb2⟩
     have hb3:Below base w w2:=Below.trans hb ((((Ext.refl wr).alloc _).trans hb2).below (Nat.le_trans hbase hb.size))
     have hrow2:=(HRow.out.alloc (.cells #[I m.1,I m.2] 76)).ext hb2
    ·have hx:=spanC_at kept (junk++m :: post) x
     have hrow3:RowIs w2 gb 76 ((kept++x :: (junk++m :: post)).flatMap spanC) tail:=by simpa using hrow2
     have hc0:=hrow3.cell hx.1
     have hc1:=hrow3.cell hx.2
     have hf0:=hrow3.frozen (kept.length * 2)
     have hf1:=hrow3.frozen (kept.length * 2+1)
     have hb0:w2.cell? ⟨wr.heap.size,0,none⟩=some (I m.1):=hb2.cell (by simp [go_sem])
     have hb1':w2.cell? ⟨wr.heap.size,1,none⟩=some (I m.2):=hb2.cell (by simp [go_sem])
     have HR3:=Lib.hid hrow3
     clear hrow3 hrow2 hx
     go_wp2
     go_roundw
     case rel =>
      refine ⟨pre++[m],post,kept++[m],junk++[m],by rw [HL.out];simp,by simp,by simp,by rw [List.filter_append,<- HK.out];simp [hpm],?_,by simp,?_,?_⟩
      ·have:=HKJ.out;simp at this ⊢;omega
      ·have:=HR3.out.setSpan m
       simpa using this
      ·exact (hb3.setCell (by simp;omega) _).setCell (by simp;omega) _
     case measure=>simp [intOf];omega
    ·go_wp2
     go_roundw
     case rel =>
      refine ⟨pre++[m],post,kept,x :: junk++[m],by rw [HL.out];simp,by simp,rfl,by rw [List.filter_append,<- HK.out];simp [hpm],?_,by simp,by simpa using hrow2,hb3⟩
      have:=HKJ.out;simp at this ⊢;omega
     case measure=>simp [intOf];omega
   | nil =>
    rw [List.append_nil] at hl
    subst hl
    have HK:=Lib.hid hkept
    rw [List.append_nil] at hrow
    have hkl:kept.length < l.length:=by omega
    have hz:kept.length+junk.length=l.length:=hkj
    have hxl:((kept++junk).flatMap spanC).length=(kept.length+(l.length - kept.length)) * 2:=by rw [spanC_len,List.length_append];omega
    obtain⟨i,hi,hzero,-,-⟩:=info_parts info_span
    obtain⟨zs,hzl,hcl⟩:=run_clear_row (P:=Tryz.prog) (t:=41) (o:=kept.length) (n:=l.length - kept.length) (c:=cap - kept.length) Tryz.underlying41 hi hzero (k:=2) rfl (by simp [Value.cells,spanV,Value.oneCell']) hrow (by omega) hxl 0
    rw [spanC_take] at hcl
    have HRow:=Lib.hid hrow
    have HZ:=Lib.hid hzl
    have hne:¬ cap=kept.length:=by omega
    clear hkept hkj hrow hz hxl hi hzero hzl
    go_wp2_with fail
    go_ret
    rw [<- HK.out]
    have hW:=HRow.out.setRow (kept.flatMap spanC++zs)
    rw [List.append_assoc] at hW
    refine ⟨_,rfl,hW.own hgb (by omega) hcm ?_ ?_ (spanC_len _),?_⟩
    ·have h1:=HCL.out
     have h2:=HZ.out
     simp only [List.length_append,spanC_len] at h1 ⊢
     omega
    ·rw [<- spanC_len kept,List.take_left]
    ·exact below_setRow hb hgb _
structure ButV (v:Value) (w w':World):Prop where
 os:w'.os=w.os
 tape:w'.tape=w.tape
 output:w'.output=w.output
 size:w.heap.size<=w'.heap.size
 same:∀ b,b < w.heap.size->¬ ownBlk v b->w'.heap[b]? = w.heap[b]?
theorem Ext.but {w w':World} (h:Ext w w') (v:Value):ButV v w w':=⟨h.os,h.tape,h.output,h.size,fun b hb _=>h.block b hb⟩
theorem ButV.trans {v:Value} {w w1 w2:World} (h:ButV v w w1) (k:ButV v w1 w2):ButV v w w2 :=
 ⟨k.os.trans h.os,k.tape.trans h.tape,k.output.trans h.output,Nat.le_trans h.size k.size,fun b hb hn=>(k.same b (Nat.lt_of_lt_of_le hb h.size) hn).trans (h.same b hb hn)⟩
theorem ButV.set {v:Value} {w w1:World} (h:ButV v w w1) {p:Addr} (hp:ownBlk v p.block) (u:Value):ButV v w (w1.setCell p u) :=
 ⟨h.os,h.tape,h.output,by simpa using h.size,fun b hb hn=>(Below.heap_setCell _ _ _ b (by rintro rfl;exact hn hp)).trans (h.same b hb hn)⟩
theorem ButV.setRow {v:Value} {w w1:World} (h:ButV v w w1) {g:Nat} (hp:ownBlk v g) (cs:Array Value):ButV v w (w1.setRow g cs) :=
 ⟨h.os,h.tape,h.output,Nat.le_trans h.size (by simp [World.setRow]),fun b hb hn=>(setRow_other w1 g b _ (by rintro rfl;exact hn hp)).trans (h.same b hb hn)⟩
theorem ButV.below {v:Value} {w w':World} {base:Nat} (h:ButV v w w') (hv:∀ b,ownBlk v b->base<=b) (hb:base<=w.heap.size):Below base w w' :=
 ⟨h.os,h.tape,h.output,h.size,fun b hlt=>h.same b (Nat.lt_of_lt_of_le hlt hb) (fun ho=>by have:=hv b ho;omega)⟩
theorem word_at {w wr:World} {S:Nat->Prop} {A:Option Addr} {n c:Nat} {l pre post:List Word} {m:Word} (h:Sl wordT w S (.slice A n c) l) (hb:Ext w wr) (hl:l=pre++m :: post) :
  ∃ b o,A=some ⟨b,o,none⟩/\wr.cell? ⟨b,o+pre.length * 7,none⟩=some (St m.of)/\wr.cell? ⟨b,o+pre.length * 7+1,none⟩=some (U m.has)/\wr.cell? ⟨b,o+pre.length * 7+2,none⟩=some (St m.keeper)/\wr.cell? ⟨b,o+pre.length * 7+3,none⟩=some (U m.round)/\wr.cell? ⟨b,o+pre.length * 7+4,none⟩=some (.bool m.agreed)/\wr.cell? ⟨b,o+pre.length * 7+5,none⟩=some (U m.cap)/\wr.cell? ⟨b,o+pre.length * 7+6,none⟩=some (.bool m.pruned):=by
 obtain⟨b,o,vs,c',hv,hS,rfl,hc⟩:=h.at_ hl
 injection hv with e1 e2 e3
 subst e1
 exact⟨b,o,rfl,hb.cell (hc 0 _ rfl),hb.cell (hc 1 _ rfl),hb.cell (hc 2 _ rfl),hb.cell (hc 3 _ rfl),hb.cell (hc 4 _ rfl),hb.cell (hc 5 _ rfl),hb.cell (hc 6 _ rfl)⟩
structure PredW (P:Program) (g:Nat) (cb:Array Value) (v:Value) (C:World->Prop) (p:Word->Bool):Prop where
 enters:∀ args w,(callFunc g args).run P w=.ok (.enter g args) w
 keep:∀ W W',C W->ButV v W W'->C W'
 does:∀ m W,C W->Calls P g (#[.agg #[St m.of,U m.has,St m.keeper,U m.round,.bool m.agreed,U m.cap,.bool m.pruned]]++cb) W fun e w'=>e=.returned (.bool (p m))/\Ext W w'
def idxW (p:Word->Bool) (l:List Word):Int:=match l.findIdx? p with | some i=>i | none=>-1
theorem idxW_none {p:Word->Bool} {l:List Word} (h:∀ m ∈ l,p m=false):idxW p l = -1:=by
 unfold idxW
 rw [List.findIdx?_eq_none_iff.2 (fun x hx=>h x hx)]
theorem idxW_some {p:Word->Bool} {pre post:List Word} {m:Word} (h:∀ x ∈ pre,p x=false) (hm:p m=true):idxW p (pre++m :: post)=pre.length:=by
 unfold idxW
 have:(pre++m :: post).findIdx? p=some pre.length:=by
  rw [List.findIdx?_append,List.findIdx?_eq_none_iff.2 (fun x hx=>h x hx)]
  simp [List.findIdx?_cons,hm]
 rw [this]
theorem index_word {S:Nat->Prop} {v:Value} {l:List Word} {w:World} {g:Nat} {cb:Array Value} {v0:Value} {C:World->Prop} {p:Word->Bool} (hv:Sl wordT w S v l) (hp:PredW Tryz.prog g cb v0 C p) (hC:C w) :
  Calls Tryz.prog 133 #[v,.func (.func g) #[] cb] w fun e w'=>e=.returned (I (idxW p l))/\Ext w w':=by
 have hv':=hv
 obtain⟨A,c,rfl,h1,h2⟩:=hv.form
 have HC:=Lib.hid hC
 have eg:=hp.enters
 clear hv hC
 go_enter Tryz.func133,Tryz.ntmps133
 go_wp2
 go_loopw [8] (fun i wr=>∃ pre post,l=pre++post/\i=I pre.length/\(∀ x ∈ pre,p x=false)/\Ext w wr) (fun i _=>l.length - (intOf i).toNat)
 case atStart=>exact⟨[],l,rfl,rfl,by simp,Ext.refl _⟩
 case round =>
  obtain⟨pre,post,hl,rfl,hpre,hb⟩:=hrel
  cases post with
  | cons m post =>
   obtain⟨b,o,rfl,hd0,hd1,hd2,hd3,hd4,hd5,hd6⟩:=word_at hv' hb hl
   have hlt:pre.length < l.length:=by rw [hl];simp
   have HL:=Lib.hid hl
   have HP:=Lib.hid hpre
   have HD:=Lib.hid (hp.does m wr (hp.keep _ _ HC.out (hb.but _)))
   clear hl hv' hp hpre
   cases hpm:p m
   all_goals
    rw [hpm] at HD
    go_wp2_with fail
    refine HD.out.mono ?_
    rintro e w1 ⟨rfl,hb1⟩
    go_wp2
   ·go_roundw
    case rel=>exact⟨pre++[m],post,by rw [HL.out];simp,by simp,snoc_all HP.out hpm,hb.trans hb1⟩
    case measure=>simp [intOf];omega
   ·go_ret
    exact⟨by rw [HL.out,idxW_some HP.out hpm];rfl,hb.trans hb1⟩
  | nil =>
   rw [List.append_nil] at hl;subst hl
   have HP:=Lib.hid hpre
   clear hv' hpre hp
   go_wp2
   go_ret
   exact⟨by rw [idxW_none HP.out];rfl,hb⟩
theorem wordC_len (l:List Word):(l.flatMap wordC).length=l.length * 7:=by
 induction l with
 | nil=>rfl
 | cons a r ih=>simp [ih,wordC];omega
theorem wordC_at (A B:List Word) (x:Word):((A++x :: B).flatMap wordC)[A.length * 7]? = some (St x.of)/\((A++x :: B).flatMap wordC)[A.length * 7+1]? = some (U x.has)/\((A++x :: B).flatMap wordC)[A.length * 7+2]? = some (St x.keeper)/\((A++x :: B).flatMap wordC)[A.length * 7+3]? = some (U x.round)/\((A++x :: B).flatMap wordC)[A.length * 7+4]? = some (.bool x.agreed)/\((A++x :: B).flatMap wordC)[A.length * 7+5]? = some (U x.cap)/\((A++x :: B).flatMap wordC)[A.length * 7+6]? = some (.bool x.pruned):=by
 rw [List.flatMap_append,<- wordC_len A]
 refine ⟨?_,?_,?_,?_,?_,?_,?_⟩
 ·rw [List.getElem?_append_right (Nat.le_refl _)];simp [wordC]
 all_goals (rw [List.getElem?_append_right (by omega)];simp [wordC])
theorem wordC_set (A B:List Word) (x y:Word):((((((((A++x :: B).flatMap wordC).set (A.length * 7) (St y.of)).set (A.length * 7+1) (U y.has)).set (A.length * 7+2) (St y.keeper)).set (A.length * 7+3) (U y.round)).set (A.length * 7+4) (.bool y.agreed)).set (A.length * 7+5) (U y.cap)).set (A.length * 7+6) (.bool y.pruned)=(A++y :: B).flatMap wordC:=by
 rw [List.flatMap_append,List.flatMap_append,<- wordC_len A]
 have e:∀ j,∀ (q:List Value) (v:Value),(A.flatMap wordC++q).set ((A.flatMap wordC).length+j) v=A.flatMap wordC++q.set j v:=fun j q v=>by rw [List.set_append_right _ _ (by omega)];congr 2;omega
 have e0:=e 0
 rw [Nat.add_zero] at e0
 rw [e0,e,e,e,e,e,e]
 simp [wordC]
theorem wordC_take (A B:List Word):((A++B).flatMap wordC).take (A.length * 7)=A.flatMap wordC:=by
 rw [List.flatMap_append,<- wordC_len A]
 simp
theorem own_wordT {tid base:Nat} {S:Nat->Prop} {v:Value} {l:List Word} {w:World}:OwnL wordT tid w base S v l↔Own w base tid 7 v l.length (l.flatMap wordC):=OwnL.flat_iff
theorem own_slWord {tid base:Nat} {v:Value} {l:List Word} {w:World} (h:Own w base tid 7 v l.length (l.flatMap wordC)):Sl wordT w (fun b=>base<=b) v l :=
 (own_wordT (S:=fun b=>base<=b).2 h).sl (by decide) (fun _ _ h=>h) (fun _ h _=>h)
theorem RowIs.setWord {w:World} {g T:Nat} {A B:List Word} {x:Word} {tail:List Value} (h:RowIs w g T ((A++x :: B).flatMap wordC) tail) (y:Word) :
  RowIs (((((((w.setCell ⟨g,A.length * 7,none⟩ (St y.of)).setCell ⟨g,A.length * 7+1,none⟩ (U y.has)).setCell ⟨g,A.length * 7+2,none⟩ (St y.keeper)).setCell ⟨g,A.length * 7+3,none⟩ (U y.round)).setCell ⟨g,A.length * 7+4,none⟩ (.bool y.agreed)).setCell ⟨g,A.length * 7+5,none⟩ (U y.cap)).setCell ⟨g,A.length * 7+6,none⟩ (.bool y.pruned)) g T ((A++y :: B).flatMap wordC) tail:=by
 have hl:((A++x :: B).flatMap wordC).length=A.length * 7+7+B.length * 7:=by rw [wordC_len];simp;omega
 have h1:=h.set (j:=A.length * 7) (by first | omega | (simp only [List.length_set];omega)) (St y.of)
 have h2:=h1.set (j:=A.length * 7+1) (by first | omega | (simp only [List.length_set];omega)) (U y.has)
 have h3:=h2.set (j:=A.length * 7+2) (by first | omega | (simp only [List.length_set];omega)) (St y.keeper)
 have h4:=h3.set (j:=A.length * 7+3) (by first | omega | (simp only [List.length_set];omega)) (U y.round)
 have h5:=h4.set (j:=A.length * 7+4) (by first | omega | (simp only [List.length_set];omega)) (.bool y.agreed)
 have h6:=h5.set (j:=A.length * 7+5) (by first | omega | (simp only [List.length_set];omega)) (U y.cap)
 have h7:=h6.set (j:=A.length * 7+6) (by first | omega | (simp only [List.length_set];omega)) (.bool y.pruned)
 rwa [wordC_set] at h7
theorem delete_word {v:Value} {l:List Word} {w:World} {g base:Nat} {cb:Array Value} {C:World->Prop} {p:Word->Bool} (hv:Own w base 71 7 v l.length (l.flatMap wordC)) (hp:PredW Tryz.prog g cb v C p) (hC:C w) :
  Calls Tryz.prog 90 #[v,.func (.func g) #[] cb] w fun e w'=>∃ v',e=.returned v'/\Own w' base 71 7 v' (l.filter fun m=>!p m).length ((l.filter fun m=>!p m).flatMap wordC)/\ButV v w w'/\(∀ b,ownBlk v' b->ownBlk v b):=by
 have hsl:=own_slWord hv
 have HI:=Lib.hid (index_word hsl hp hC)
 by_cases hall:∀ m ∈ l,p m=false
 ·have hi:=idxW_none hall
  rw [hi] at HI
  have hf:(l.filter fun m=>!p m)=l:=List.filter_eq_self.2 (fun m hm=>by simp [hall m hm])
  have HF:=Lib.hid hf
  have HV:=Lib.hid hv
  clear hi hf hv hsl hp hall
  go_enter Tryz.func90,Tryz.ntmps90
  go_wp2_with fail
  refine HI.out.mono ?_
  rintro e w1 ⟨rfl,hb1⟩
  go_wp2
  go_ret
  exact⟨_,rfl,by rw [HF.out];exact HV.out.ext hb1,hb1.but _,fun _ h=>h⟩
 ·obtain⟨pre0,m0,post0,hl0,hpre0,hm0⟩:∃ pre m post,l=pre++m :: post/\(∀ x ∈ pre,p x=false)/\p m=true:=by
   clear HI hsl hv
   clear hp hC
   induction l with
   | nil=>exact absurd (by simp) hall
   | cons a r ih =>
    cases ha:p a with
    | true=>exact⟨[],a,r,rfl,by simp,ha⟩
    | false =>
     obtain⟨pre,m,post,e1,e2,e3⟩:=ih (fun h=>hall (by simp [ha];exact fun b hab=>h _ hab))
     exact⟨a :: pre,m,post,by rw [e1];rfl,by simp [ha];exact fun b hab=>e2 _ hab,e3⟩
  have hi:=idxW_some (post:=post0) hpre0 hm0
  rw [<- hl0] at hi
  rw [hi] at HI
  have hlen:pre0.length < l.length:=by rw [hl0];simp
  obtain⟨gb,cap,tail,rfl,hgb,hrow,hnc,hcm,hcl⟩:=hv.row (by omega)
  have hown:ownBlk (.slice (some ⟨gb,0,none⟩) l.length cap) gb:=⟨gb,l.length,cap,rfl,by omega,rfl⟩
  have hglt:=hrow.lt
  have HR:=Lib.hid hrow
  have HCL:=Lib.hid hcl
  have HL0:=Lib.hid hl0
  have HP0:=Lib.hid hpre0
  have HM0:=Lib.hid hm0
  have HCw:=Lib.hid hC
  have eg:=hp.enters
  have HPr:=Lib.hid hp
  have hq0:((pre0.length:Int) == -1)=false:=by rw [beq_eq_false_iff_ne];omega
  clear hi hrow hcl hl0 hpre0 hm0 hC hp hv hsl hall
  go_enter Tryz.func90,Tryz.ntmps90
  go_wp2_with fail
  refine HI.out.mono ?_
  rintro e w1 ⟨rfl,hb1⟩
  go_wp2_with fail
  go_loopw [5,6] (fun i j wr=>∃ pre post kept junk:List Word,l=pre++post/\j=I pre.length/\i=I kept.length/\kept=pre.filter (fun m=>!p m)/\kept.length+junk.length=pre.length/\0 < junk.length/\RowIs wr gb 71 ((kept++junk++post).flatMap wordC) tail/\ButV (.slice (some ⟨gb,0,none⟩) l.length cap) w wr) (fun _ j _=>l.length - (intOf j).toNat)
  case atStart =>
   refine ⟨pre0++[m0],post0,pre0,[m0],by rw [HL0.out];simp,by simp,rfl,?_,by simp,by simp,?_,hb1.but _⟩
   ·rw [List.filter_append,List.filter_eq_self.2 (fun m hm=>by simp [HP0.out m hm])];simp [HM0.out]
   ·have:=HR.out.ext hb1
    rw [HL0.out] at this
    simpa using this
  case round =>
   obtain⟨pre,post,kept,junk,hl,rfl,rfl,hkept,hkj,hj0,hrow,hb⟩:=hrel
   have hgw:gb < wr.heap.size:=hrow.lt
   cases post with
   | cons m post =>
    obtain⟨x,junk,rfl⟩:∃ x r,junk=x :: r:=by cases junk with | nil=>simp at hj0 | cons x r=>exact⟨x,r,rfl⟩
    have hlt:pre.length < l.length:=by rw [hl];simp
    have hm:=wordC_at (kept++x :: junk) post m
    rw [List.length_append,hkj] at hm
    obtain⟨hm0,hm1,hm2,hm3,hm4,hm5,hm6⟩:=hm
    have hd0:=hrow.cell hm0
    have hd1:=hrow.cell hm1
    have hd2:=hrow.cell hm2
    have hd3:=hrow.cell hm3
    have hd4:=hrow.cell hm4
    have hd5:=hrow.cell hm5
    have hd6:=hrow.cell hm6
    have HD:=Lib.hid (HPr.out.does m (wr.alloc (.cells #[St m.of,U m.has,St m.keeper,U m.round,.bool m.agreed,U m.cap,.bool m.pruned] 71)) (HPr.out.keep _ _ HCw.out (hb.trans (((Ext.refl wr).alloc _).but _))))
    have HL:=Lib.hid hl
    have HK:=Lib.hid hkept
    have HKJ:=Lib.hid hkj
    have HRow:=Lib.hid hrow
    have hkl:kept.length < pre.length:=by simp at hkj;omega
    clear hl hkept hkj hrow hm0 hm1 hm2 hm3 hm4 hm5 hm6 hj0
    cases hpm:p m
    all_goals
     rw [hpm] at HD
     go_wp2_with fail
     refine HD.out.mono ?_
     rintro e w2 ⟨rfl,hb2⟩
     have hb3:=hb.trans ((((Ext.refl wr).alloc (.cells #[St m.of,U m.has,St m.keeper,U m.round,.bool m.agreed,U m.cap,.bool m.pruned] 71)).trans hb2).but (.slice (some ⟨gb,0,none⟩) l.length cap))
     have hrow2:=(HRow.out.alloc (.cells #[St m.of,U m.has,St m.keeper,U m.round,.bool m.agreed,U m.cap,.bool m.pruned] 71)).ext hb2
    ·have hx:=wordC_at kept (junk++m :: post) x
     obtain⟨hx0,hx1,hx2,hx3,hx4,hx5,hx6⟩:=hx
     have hrow3:RowIs w2 gb 71 ((kept++x :: (junk++m :: post)).flatMap wordC) tail:=by simpa using hrow2
     have hc0:=hrow3.cell hx0
     have hf0:=hrow3.frozen (kept.length * 7)
     have hc1:=hrow3.cell hx1
     have hf1:=hrow3.frozen (kept.length * 7+1)
     have hc2:=hrow3.cell hx2
     have hf2:=hrow3.frozen (kept.length * 7+2)
     have hc3:=hrow3.cell hx3
     have hf3:=hrow3.frozen (kept.length * 7+3)
     have hc4:=hrow3.cell hx4
     have hf4:=hrow3.frozen (kept.length * 7+4)
     have hc5:=hrow3.cell hx5
     have hf5:=hrow3.frozen (kept.length * 7+5)
     have hc6:=hrow3.cell hx6
     have hf6:=hrow3.frozen (kept.length * 7+6)
     have hb0':w2.cell? ⟨wr.heap.size,0,none⟩=some (St m.of):=hb2.cell (by simp [go_sem])
     have hb1':w2.cell? ⟨wr.heap.size,1,none⟩=some (U m.has):=hb2.cell (by simp [go_sem])
     have hb2':w2.cell? ⟨wr.heap.size,2,none⟩=some (St m.keeper):=hb2.cell (by simp [go_sem])
     have hb3':w2.cell? ⟨wr.heap.size,3,none⟩=some (U m.round):=hb2.cell (by simp [go_sem])
     have hb4':w2.cell? ⟨wr.heap.size,4,none⟩=some (.bool m.agreed):=hb2.cell (by simp [go_sem])
     have hb5':w2.cell? ⟨wr.heap.size,5,none⟩=some (U m.cap):=hb2.cell (by simp [go_sem])
     have hb6':w2.cell? ⟨wr.heap.size,6,none⟩=some (.bool m.pruned):=hb2.cell (by simp [go_sem])
     have HR3:=Lib.hid hrow3
     clear hrow3 hrow2 hx0 hx1 hx2 hx3 hx4 hx5 hx6
     go_wp2
     go_roundw
     case rel =>
      refine ⟨pre++[m],post,kept++[m],junk++[m],by rw [HL.out];simp,by simp,by simp,by rw [List.filter_append,<- HK.out];simp [hpm],?_,by simp,?_,?_⟩
      ·have:=HKJ.out;simp at this ⊢;omega
      ·have:=HR3.out.setWord m
       simpa using this
      ·exact ((((((hb3.set hown _).set hown _).set hown _).set hown _).set hown _).set hown _).set hown _
     case measure=>simp [intOf];omega
    ·go_wp2
     go_roundw
     case rel =>
      refine ⟨pre++[m],post,kept,x :: junk++[m],by rw [HL.out];simp,by simp,rfl,by rw [List.filter_append,<- HK.out];simp [hpm],?_,by simp,by simpa using hrow2,hb3⟩
      have:=HKJ.out;simp at this ⊢;omega
     case measure=>simp [intOf];omega
   | nil =>
    rw [List.append_nil] at hl
    subst hl
    have HK:=Lib.hid hkept
    rw [List.append_nil] at hrow
    have hkl:kept.length < l.length:=by omega
    have hz:kept.length+junk.length=l.length:=hkj
    have hxl:((kept++junk).flatMap wordC).length=(kept.length+(l.length - kept.length)) * 7:=by rw [wordC_len,List.length_append];omega
    obtain⟨i,hi,hzero,-,-⟩:=info_parts info_word
    obtain⟨zs,hzl,hcl⟩:=run_clear_row (P:=Tryz.prog) (t:=46) (o:=kept.length) (n:=l.length - kept.length) (c:=cap - kept.length) Tryz.underlying46 hi hzero (k:=7) rfl (by simp [Value.cells,wordV,Value.oneCell']) hrow (by omega) hxl 0
    rw [wordC_take] at hcl
    have HRow:=Lib.hid hrow
    have HZ:=Lib.hid hzl
    have hne:¬ cap=kept.length:=by omega
    clear hkept hkj hrow hz hxl hi hzero hzl
    go_wp2_with fail
    go_ret
    rw [<- HK.out]
    have hW:=HRow.out.setRow (kept.flatMap wordC++zs)
    rw [List.append_assoc] at hW
    refine ⟨_,rfl,hW.own hgb (by omega) hcm ?_ ?_ (wordC_len _),hb.setRow hown _,?_⟩
    ·have h1:=HCL.out
     have h2:=HZ.out
     simp only [List.length_append,wordC_len] at h1 ⊢
     omega
    ·rw [<- wordC_len kept,List.take_left]
    ·rintro b ⟨g',n',c',he,hc0,rfl⟩
     cases he
     exact hown
end
section
open Go.RowKit Go.Shelf
def put15 (W:World) (g o:Nat) (a0 a1 a2 a3 a4 a5 a6 a7 a8 a9 a10 a11 a12 a13 a14:Value):World:=((((((((((((((W.setCell ⟨g,o+0,none⟩ a0).setCell ⟨g,o+1,none⟩ a1).setCell ⟨g,o+2,none⟩ a2).setCell ⟨g,o+3,none⟩ a3).setCell ⟨g,o+4,none⟩ a4).setCell ⟨g,o+5,none⟩ a5).setCell ⟨g,o+6,none⟩ a6).setCell ⟨g,o+7,none⟩ a7).setCell ⟨g,o+8,none⟩ a8).setCell ⟨g,o+9,none⟩ a9).setCell ⟨g,o+10,none⟩ a10).setCell ⟨g,o+11,none⟩ a11).setCell ⟨g,o+12,none⟩ a12).setCell ⟨g,o+13,none⟩ a13).setCell ⟨g,o+14,none⟩ a14
def put15z (W:World) (g:Nat) (a0 a1 a2 a3 a4 a5 a6 a7 a8 a9 a10 a11 a12 a13 a14:Value):World:=((((((((((((((W.setCell ⟨g,0,none⟩ a0).setCell ⟨g,1,none⟩ a1).setCell ⟨g,2,none⟩ a2).setCell ⟨g,3,none⟩ a3).setCell ⟨g,4,none⟩ a4).setCell ⟨g,5,none⟩ a5).setCell ⟨g,6,none⟩ a6).setCell ⟨g,7,none⟩ a7).setCell ⟨g,8,none⟩ a8).setCell ⟨g,9,none⟩ a9).setCell ⟨g,10,none⟩ a10).setCell ⟨g,11,none⟩ a11).setCell ⟨g,12,none⟩ a12).setCell ⟨g,13,none⟩ a13).setCell ⟨g,14,none⟩ a14
theorem put15z_eq (W:World) (g:Nat) (a0 a1 a2 a3 a4 a5 a6 a7 a8 a9 a10 a11 a12 a13 a14:Value):put15z W g a0 a1 a2 a3 a4 a5 a6 a7 a8 a9 a10 a11 a12 a13 a14=put15 W g 0 a0 a1 a2 a3 a4 a5 a6 a7 a8 a9 a10 a11 a12 a13 a14:=by simp only [put15z,put15,Nat.zero_add]
section
variable {W w:World} {g o b T:Nat} {a0 a1 a2 a3 a4 a5 a6 a7 a8 a9 a10 a11 a12 a13 a14 b0 b1 b2 b3 b4 b5 b6 b7 b8 b9 b10 b11 b12 b13 b14:Value} {xs tail:List Value}
theorem put15_heap (h:b ≠ g):(put15 W g o a0 a1 a2 a3 a4 a5 a6 a7 a8 a9 a10 a11 a12 a13 a14).heap[b]? = W.heap[b]?:=by
 unfold put15
 rw [Below.heap_setCell _ ⟨g,o+14,none⟩ _ b h]
 rw [Below.heap_setCell _ ⟨g,o+13,none⟩ _ b h]
 rw [Below.heap_setCell _ ⟨g,o+12,none⟩ _ b h]
 rw [Below.heap_setCell _ ⟨g,o+11,none⟩ _ b h]
 rw [Below.heap_setCell _ ⟨g,o+10,none⟩ _ b h]
 rw [Below.heap_setCell _ ⟨g,o+9,none⟩ _ b h]
 rw [Below.heap_setCell _ ⟨g,o+8,none⟩ _ b h]
 rw [Below.heap_setCell _ ⟨g,o+7,none⟩ _ b h]
 rw [Below.heap_setCell _ ⟨g,o+6,none⟩ _ b h]
 rw [Below.heap_setCell _ ⟨g,o+5,none⟩ _ b h]
 rw [Below.heap_setCell _ ⟨g,o+4,none⟩ _ b h]
 rw [Below.heap_setCell _ ⟨g,o+3,none⟩ _ b h]
 rw [Below.heap_setCell _ ⟨g,o+2,none⟩ _ b h]
 rw [Below.heap_setCell _ ⟨g,o+1,none⟩ _ b h]
 rw [Below.heap_setCell _ ⟨g,o+0,none⟩ _ b h]
theorem put15_below (h:Below w.heap.size w W) (hg:w.heap.size<=g):Below w.heap.size w (put15 W g o a0 a1 a2 a3 a4 a5 a6 a7 a8 a9 a10 a11 a12 a13 a14):=by
 unfold put15
 refine Below.setCell ?_ hg _
 refine Below.setCell ?_ hg _
 refine Below.setCell ?_ hg _
 refine Below.setCell ?_ hg _
 refine Below.setCell ?_ hg _
 refine Below.setCell ?_ hg _
 refine Below.setCell ?_ hg _
 refine Below.setCell ?_ hg _
 refine Below.setCell ?_ hg _
 refine Below.setCell ?_ hg _
 refine Below.setCell ?_ hg _
 refine Below.setCell ?_ hg _
 refine Below.setCell ?_ hg _
 refine Below.setCell ?_ hg _
 refine Below.setCell ?_ hg _
 exact h
theorem put15_row (h:RowIs W g T xs tail) (ho:o+15<=xs.length):RowIs (put15 W g o a0 a1 a2 a3 a4 a5 a6 a7 a8 a9 a10 a11 a12 a13 a14) g T (((((((((((((((xs.set (o+0) a0).set (o+1) a1).set (o+2) a2).set (o+3) a3).set (o+4) a4).set (o+5) a5).set (o+6) a6).set (o+7) a7).set (o+8) a8).set (o+9) a9).set (o+10) a10).set (o+11) a11).set (o+12) a12).set (o+13) a13).set (o+14) a14) tail:=by
 unfold put15
 exact ((((((((((((((h.set (j:=o+0) (by simp;omega) a0).set (j:=o+1) (by simp;omega) a1).set (j:=o+2) (by simp;omega) a2).set (j:=o+3) (by simp;omega) a3).set (j:=o+4) (by simp;omega) a4).set (j:=o+5) (by simp;omega) a5).set (j:=o+6) (by simp;omega) a6).set (j:=o+7) (by simp;omega) a7).set (j:=o+8) (by simp;omega) a8).set (j:=o+9) (by simp;omega) a9).set (j:=o+10) (by simp;omega) a10).set (j:=o+11) (by simp;omega) a11).set (j:=o+12) (by simp;omega) a12).set (j:=o+13) (by simp;omega) a13).set (j:=o+14) (by simp;omega) a14
theorem set15 (pre post:List Value):(((((((((((((((pre++[b0,b1,b2,b3,b4,b5,b6,b7,b8,b9,b10,b11,b12,b13,b14]++post).set (pre.length+0) a0).set (pre.length+1) a1).set (pre.length+2) a2).set (pre.length+3) a3).set (pre.length+4) a4).set (pre.length+5) a5).set (pre.length+6) a6).set (pre.length+7) a7).set (pre.length+8) a8).set (pre.length+9) a9).set (pre.length+10) a10).set (pre.length+11) a11).set (pre.length+12) a12).set (pre.length+13) a13).set (pre.length+14) a14=pre++[a0,a1,a2,a3,a4,a5,a6,a7,a8,a9,a10,a11,a12,a13,a14]++post:=by
 rw [List.append_assoc,List.append_assoc]
 simp only [List.set_append_right _ _ (Nat.le_add_right _ _),Nat.add_sub_cancel_left,List.cons_append,List.set_cons_succ,List.set_cons_zero]
theorem put15_mid (pre post:List Value) (h:RowIs W g T (pre++[b0,b1,b2,b3,b4,b5,b6,b7,b8,b9,b10,b11,b12,b13,b14]++post) tail):RowIs (put15 W g pre.length a0 a1 a2 a3 a4 a5 a6 a7 a8 a9 a10 a11 a12 a13 a14) g T (pre++[a0,a1,a2,a3,a4,a5,a6,a7,a8,a9,a10,a11,a12,a13,a14]++post) tail:=by
 have:=put15_row (o:=pre.length) (a0:=a0) (a1:=a1) (a2:=a2) (a3:=a3) (a4:=a4) (a5:=a5) (a6:=a6) (a7:=a7) (a8:=a8) (a9:=a9) (a10:=a10) (a11:=a11) (a12:=a12) (a13:=a13) (a14:=a14) h (by simp)
 rwa [set15] at this
theorem RowIs.c15 (h:RowIs W g T [b0,b1,b2,b3,b4,b5,b6,b7,b8,b9,b10,b11,b12,b13,b14] tail):W.cell? ⟨g,0,none⟩=some b0/\W.cell? ⟨g,1,none⟩=some b1/\W.cell? ⟨g,2,none⟩=some b2/\W.cell? ⟨g,3,none⟩=some b3/\W.cell? ⟨g,4,none⟩=some b4/\W.cell? ⟨g,5,none⟩=some b5/\W.cell? ⟨g,6,none⟩=some b6/\W.cell? ⟨g,7,none⟩=some b7/\W.cell? ⟨g,8,none⟩=some b8/\W.cell? ⟨g,9,none⟩=some b9/\W.cell? ⟨g,10,none⟩=some b10/\W.cell? ⟨g,11,none⟩=some b11/\W.cell? ⟨g,12,none⟩=some b12/\W.cell? ⟨g,13,none⟩=some b13/\W.cell? ⟨g,14,none⟩=some b14 :=
 ⟨h.cell rfl,h.cell rfl,h.cell rfl,h.cell rfl,h.cell rfl,h.cell rfl,h.cell rfl,h.cell rfl,h.cell rfl,h.cell rfl,h.cell rfl,h.cell rfl,h.cell rfl,h.cell rfl,h.cell rfl⟩
theorem RowIs.f15 (h:RowIs W g T xs tail):W.frozen? ⟨g,0,none⟩=false/\W.frozen? ⟨g,1,none⟩=false/\W.frozen? ⟨g,2,none⟩=false/\W.frozen? ⟨g,3,none⟩=false/\W.frozen? ⟨g,4,none⟩=false/\W.frozen? ⟨g,5,none⟩=false/\W.frozen? ⟨g,6,none⟩=false/\W.frozen? ⟨g,7,none⟩=false/\W.frozen? ⟨g,8,none⟩=false/\W.frozen? ⟨g,9,none⟩=false/\W.frozen? ⟨g,10,none⟩=false/\W.frozen? ⟨g,11,none⟩=false/\W.frozen? ⟨g,12,none⟩=false/\W.frozen? ⟨g,13,none⟩=false/\W.frozen? ⟨g,14,none⟩=false :=
 ⟨h.frozen 0,h.frozen 1,h.frozen 2,h.frozen 3,h.frozen 4,h.frozen 5,h.frozen 6,h.frozen 7,h.frozen 8,h.frozen 9,h.frozen 10,h.frozen 11,h.frozen 12,h.frozen 13,h.frozen 14⟩
theorem RowIs.m15 {pre post:List Value} (h:RowIs W g T (pre++[b0,b1,b2,b3,b4,b5,b6,b7,b8,b9,b10,b11,b12,b13,b14]++post) tail) (ho:o=pre.length):W.cell? ⟨g,o+0,none⟩=some b0/\W.cell? ⟨g,o+1,none⟩=some b1/\W.cell? ⟨g,o+2,none⟩=some b2/\W.cell? ⟨g,o+3,none⟩=some b3/\W.cell? ⟨g,o+4,none⟩=some b4/\W.cell? ⟨g,o+5,none⟩=some b5/\W.cell? ⟨g,o+6,none⟩=some b6/\W.cell? ⟨g,o+7,none⟩=some b7/\W.cell? ⟨g,o+8,none⟩=some b8/\W.cell? ⟨g,o+9,none⟩=some b9/\W.cell? ⟨g,o+10,none⟩=some b10/\W.cell? ⟨g,o+11,none⟩=some b11/\W.cell? ⟨g,o+12,none⟩=some b12/\W.cell? ⟨g,o+13,none⟩=some b13/\W.cell? ⟨g,o+14,none⟩=some b14:=by
 subst ho
 have q:∀ (j:Nat) (u:Value),[b0,b1,b2,b3,b4,b5,b6,b7,b8,b9,b10,b11,b12,b13,b14][j]? = some u->W.cell? ⟨g,pre.length+j,none⟩=some u:=fun j u hj=>h.cell (by
  rw [List.append_assoc,List.getElem?_append_right (Nat.le_add_right _ _),Nat.add_sub_cancel_left,List.getElem?_append_left (List.getElem?_eq_some_iff.1 hj).1]
  exact hj)
 exact⟨q 0 _ rfl,q 1 _ rfl,q 2 _ rfl,q 3 _ rfl,q 4 _ rfl,q 5 _ rfl,q 6 _ rfl,q 7 _ rfl,q 8 _ rfl,q 9 _ rfl,q 10 _ rfl,q 11 _ rfl,q 12 _ rfl,q 13 _ rfl,q 14 _ rfl⟩
theorem RowIs.g15 (h:RowIs W g T xs tail) (o:Nat):W.frozen? ⟨g,o+0,none⟩=false/\W.frozen? ⟨g,o+1,none⟩=false/\W.frozen? ⟨g,o+2,none⟩=false/\W.frozen? ⟨g,o+3,none⟩=false/\W.frozen? ⟨g,o+4,none⟩=false/\W.frozen? ⟨g,o+5,none⟩=false/\W.frozen? ⟨g,o+6,none⟩=false/\W.frozen? ⟨g,o+7,none⟩=false/\W.frozen? ⟨g,o+8,none⟩=false/\W.frozen? ⟨g,o+9,none⟩=false/\W.frozen? ⟨g,o+10,none⟩=false/\W.frozen? ⟨g,o+11,none⟩=false/\W.frozen? ⟨g,o+12,none⟩=false/\W.frozen? ⟨g,o+13,none⟩=false/\W.frozen? ⟨g,o+14,none⟩=false :=
 ⟨h.frozen _,h.frozen _,h.frozen _,h.frozen _,h.frozen _,h.frozen _,h.frozen _,h.frozen _,h.frozen _,h.frozen _,h.frozen _,h.frozen _,h.frozen _,h.frozen _,h.frozen _⟩
end
structure Own2 (w:World) (base:Nat) (x:Mbr) (u1 u2:Value):Prop where
 gone:Own w base 76 2 u1 x.gone.length (x.gone.flatMap spanC)
 words:Own w base 71 7 u2 x.words.length (x.words.flatMap wordC)
 apart:∀ b,ownBlk u1 b->¬ ownBlk u2 b
theorem Own2.ext {w w':World} {base:Nat} {x:Mbr} {u1 u2:Value} (h:Own2 w base x u1 u2) (he:Ext w w'):Own2 w' base x u1 u2:=⟨h.gone.ext he,h.words.ext he,h.apart⟩
theorem one_any {S:Nat->Prop} {x:Mbr} {v1 v2:Value} {w:World} (h1:Sl spanT w S v1 x.gone) (h2:Sl wordT w S v2 x.words) (l1:x.gone.length<=4294967296) (l2:x.words.length<=4294967296) :
  Calls Tryz.prog 59 #[mbrV x v1 v2] w fun e w'=>∃ u1 u2,e=.returned (mbrV x u1 u2)/\Own2 w' w.heap.size x u1 u2/\Ext w w':=by
 have r1:=(rowNew w 48 [St x.path,U8 x.status,I x.kids,I x.cut,U x.last,v1,St x.plan.keeper,U x.plan.round,St x.plan.live,St x.plan.by_,U x.plan.cap,St x.plan.owner,U x.plan.base,.bool x.plan.done,v2]).alloc (.cells #[St [],.int .u8 0,I 0,I 0,.int .u64 0,.slice none 0 0,St [],.int .u64 0,St [],St [],.int .u64 0,St [],.int .u64 0,.bool false,.slice none 0 0] 48)
 have r2:=rowNew (w.alloc (.cells #[St x.path,U8 x.status,I x.kids,I x.cut,U x.last,v1,St x.plan.keeper,U x.plan.round,St x.plan.live,St x.plan.by_,U x.plan.cap,St x.plan.owner,U x.plan.base,.bool x.plan.done,v2] 48)) 48 [St [],.int .u8 0,I 0,I 0,.int .u64 0,.slice none 0 0,St [],.int .u64 0,St [],St [],.int .u64 0,St [],.int .u64 0,.bool false,.slice none 0 0]
 have hx:=((Ext.refl w).alloc (.cells #[St x.path,U8 x.status,I x.kids,I x.cut,U x.last,v1,St x.plan.keeper,U x.plan.round,St x.plan.live,St x.plan.by_,U x.plan.cap,St x.plan.owner,U x.plan.base,.bool x.plan.done,v2] 48)).alloc (.cells #[St [],.int .u8 0,I 0,I 0,.int .u64 0,.slice none 0 0,St [],.int .u64 0,St [],St [],.int .u64 0,St [],.int .u64 0,.bool false,.slice none 0 0] 48)
 have hz:w.heap.size+2=((w.alloc (.cells #[St x.path,U8 x.status,I x.kids,I x.cut,U x.last,v1,St x.plan.keeper,U x.plan.round,St x.plan.live,St x.plan.by_,U x.plan.cap,St x.plan.owner,U x.plan.base,.bool x.plan.done,v2] 48)).alloc (.cells #[St [],.int .u8 0,I 0,I 0,.int .u64 0,.slice none 0 0,St [],.int .u64 0,St [],St [],.int .u64 0,St [],.int .u64 0,.bool false,.slice none 0 0] 48)).heap.size:=by simp
 rw [World.size_alloc] at r2
 have S1:=Lib.hid h1
 have S2:=Lib.hid h2
 clear h1 h2
 go_enter Tryz.func59,Tryz.ntmps59
 unfold mbrV
 go_wp2_with fail
 generalize (w.alloc (.cells #[St x.path,U8 x.status,I x.kids,I x.cut,U x.last,v1,St x.plan.keeper,U x.plan.round,St x.plan.live,St x.plan.by_,U x.plan.cap,St x.plan.owner,U x.plan.base,.bool x.plan.done,v2] 48)).alloc (.cells #[St [],.int .u8 0,I 0,I 0,.int .u64 0,.slice none 0 0,St [],.int .u64 0,St [],St [],.int .u64 0,St [],.int .u64 0,.bool false,.slice none 0 0] 48)=W0 at *
 refine (clone_span (S1.out.ext (by decide) hx) l1).mono ?_
 rintro e W1 ⟨u1,rfl,ho1,hx1⟩
 replace ho1:=OwnL.flat_iff.1 ho1
 obtain⟨A1,c1,rfl,-,-⟩:=ho1.form
 have e1:=r1.ext hx1
 have e2:=r2.ext hx1
 have e1':=e1.set (j:=5) (by simp) (.slice A1 x.gone.length c1)
 have e2':=e2.other (p:=⟨w.heap.size,5,none⟩) (by simp) (.slice A1 x.gone.length c1)
 simp only [List.set_cons_succ,List.set_cons_zero] at e1'
 have q0:=e1.cell (j:=5) rfl
 have q1:=e1.frozen 5
 have q2:=e1'.cell (j:=14) rfl
 have q3:=e1'.frozen 14
 have hb1:∀ b,ownBlk (.slice A1 x.gone.length c1) b->W0.heap.size<=b/\b < W1.heap.size:=fun b hb=>ho1.base_le hb
 have hxs:=(hx.trans hx1).set (p:=⟨w.heap.size,5,none⟩) (Nat.le_refl _) (.slice A1 x.gone.length c1)
 have hzs:(W1.setCell ⟨w.heap.size,5,none⟩ (.slice A1 x.gone.length c1)).heap.size=W1.heap.size:=by simp
 have hz1:=hx1.size
 have HO1:=Lib.hid (ho1.keep (w':=W1.setCell ⟨w.heap.size,5,none⟩ (.slice A1 x.gone.length c1)) (fun b hb _=>Below.heap_setCell _ _ _ b (by have:=hb1 b hb;simp;omega)))
 clear ho1 e1 e2 r1 r2 hx hx1
 go_wp2_with fail
 generalize W1.setCell ⟨w.heap.size,5,none⟩ (.slice A1 x.gone.length c1)=W2 at *
 refine (clone_word (S2.out.ext (by decide) hxs) l2).mono ?_
 rintro e W3 ⟨u2,rfl,ho2,hx3⟩
 replace ho2:=OwnL.flat_iff.1 ho2
 obtain⟨A2,c2,rfl,-,-⟩:=ho2.form
 have f1:=e1'.ext hx3
 have f2:=e2'.ext hx3
 have g1:=f1.set (j:=14) (by simp) (.slice A2 x.words.length c2)
 have g2:=f2.other (p:=⟨w.heap.size,14,none⟩) (by simp) (.slice A2 x.words.length c2)
 simp only [List.set_cons_succ,List.set_cons_zero] at g1
 have p0:=f1.cell (j:=14) rfl
 have p1:=f1.frozen 14
 obtain⟨k0,k1,k2,k3,k4,k5,k6,k7,k8,k9,k10,k11,k12,k13,k14⟩:=g1.c15
 obtain⟨m0,m1,m2,m3,m4,m5,m6,m7,m8,m9,m10,m11,m12,m13,m14⟩:=g2.c15
 obtain⟨n0,n1,n2,n3,n4,n5,n6,n7,n8,n9,n10,n11,n12,n13,n14⟩:=g2.f15
 have hb2:∀ b,ownBlk (.slice A2 x.words.length c2) b->W2.heap.size<=b/\b < W3.heap.size:=fun b hb=>ho2.base_le hb
 have hxt:=(hxs.trans hx3).set (p:=⟨w.heap.size,14,none⟩) (Nat.le_refl _) (.slice A2 x.words.length c2)
 have kp:∀ b,w.heap.size+2<=b->((W3.setCell ⟨w.heap.size,14,none⟩ (.slice A2 x.words.length c2)).heap[b]? = W3.heap[b]?):=fun b hb=>Below.heap_setCell _ _ _ b (by simp;omega)
 have o1:=(HO1.out.ext hx3).keep (w':=W3.setCell ⟨w.heap.size,14,none⟩ (.slice A2 x.words.length c2)) (fun b hb _=>kp b (by have:=hb1 b hb;omega))
 have o2:=ho2.keep (w':=W3.setCell ⟨w.heap.size,14,none⟩ (.slice A2 x.words.length c2)) (fun b hb _=>kp b (by have:=hb2 b hb;omega))
 have HO:=Lib.hid (And.intro o1 o2)
 have HG:=Lib.hid g2
 clear o1 o2 ho2 HO1 f1 f2 g1 g2 e1' e2' q0 q1 q2 q3 kp hxs hx3
 go_wp2_with fail
 generalize W3.setCell ⟨w.heap.size,14,none⟩ (.slice A2 x.words.length c2)=W4 at *
 (try simp only [Exit.inBlock,Exit.then])
 clear k0 k1 k2 k3 k4 k5 k6 k7 k8 k9 k10 k11 k12 k13 k14 m0 m1 m2 m3 m4 m5 m6 m7 m8 m9 m10 m11 m12 m13 m14 n0 n1 n2 n3 n4 n5 n6 n7 n8 n9 n10 n11 n12 n13 n14
 change bodyPost Tryz.prog Tryz.f59 _ Exit.ret _ (put15z W4 (w.heap.size+1) (St x.path) (U8 x.status) (I x.kids) (I x.cut) (U x.last) (.slice A1 x.gone.length c1) (St x.plan.keeper) (U x.plan.round) (St x.plan.live) (St x.plan.by_) (U x.plan.cap) (St x.plan.owner) (U x.plan.base) (.bool x.plan.done) (.slice A2 x.words.length c2))
 rw [put15z_eq]
 have r:=put15_mid (W:=W4) (g:=w.heap.size+1) [] [] HG.out (a0:=St x.path) (a1:=U8 x.status) (a2:=I x.kids) (a3:=I x.cut) (a4:=U x.last) (a5:=.slice A1 x.gone.length c1) (a6:=St x.plan.keeper) (a7:=U x.plan.round) (a8:=St x.plan.live) (a9:=St x.plan.by_) (a10:=U x.plan.cap) (a11:=St x.plan.owner) (a12:=U x.plan.base) (a13:=.bool x.plan.done) (a14:=.slice A2 x.words.length c2)
 have hb:=put15_below (g:=w.heap.size+1) (o:=0) (a0:=St x.path) (a1:=U8 x.status) (a2:=I x.kids) (a3:=I x.cut) (a4:=U x.last) (a5:=.slice A1 x.gone.length c1) (a6:=St x.plan.keeper) (a7:=U x.plan.round) (a8:=St x.plan.live) (a9:=St x.plan.by_) (a10:=U x.plan.cap) (a11:=St x.plan.owner) (a12:=U x.plan.base) (a13:=.bool x.plan.done) (a14:=.slice A2 x.words.length c2) hxt (by omega)
 have hk:=fun b (h:b ≠ w.heap.size+1)=>put15_heap (W:=W4) (o:=0) (a0:=St x.path) (a1:=U8 x.status) (a2:=I x.kids) (a3:=I x.cut) (a4:=U x.last) (a5:=.slice A1 x.gone.length c1) (a6:=St x.plan.keeper) (a7:=U x.plan.round) (a8:=St x.plan.live) (a9:=St x.plan.by_) (a10:=U x.plan.cap) (a11:=St x.plan.owner) (a12:=U x.plan.base) (a13:=.bool x.plan.done) (a14:=.slice A2 x.words.length c2) h
 simp only [List.nil_append,List.append_nil,List.length_nil] at r
 generalize put15 W4 (w.heap.size+1) 0 (St x.path) (U8 x.status) (I x.kids) (I x.cut) (U x.last) (.slice A1 x.gone.length c1) (St x.plan.keeper) (U x.plan.round) (St x.plan.live) (St x.plan.by_) (U x.plan.cap) (St x.plan.owner) (U x.plan.base) (.bool x.plan.done) (.slice A2 x.words.length c2)=W5 at *
 obtain⟨k0,k1,k2,k3,k4,k5,k6,k7,k8,k9,k10,k11,k12,k13,k14⟩:=r.c15
 refine bodyPost_ret (v:=mbrV x (.slice A1 x.gone.length c1) (.slice A2 x.words.length c2)) (by simp [results,Tryz.f59,go_sem,k0,k1,k2,k3,k4,k5,k6,k7,k8,k9,k10,k11,k12,k13,k14,mbrV]) rfl ?_
 refine ⟨_,_,rfl,⟨(HO.out.1.keep fun b hb' _=>hk b (by have:=hb1 b hb';omega)).lower (by omega),(HO.out.2.keep fun b hb' _=>hk b (by have:=hb2 b hb';omega)).lower (by omega),fun b h1 h2=>?_⟩,hb⟩
 have:=hb1 b h1
 have:=hb2 b h2
 omega
def cellsM (l:List Mbr) (us:List (Value × Value)):List Value:=(l.zip us).flatMap fun p=>mbrC p.1 p.2.1 p.2.2
theorem cellsM_len:∀ {l:List Mbr} {us:List (Value × Value)},us.length=l.length->(cellsM l us).length=l.length * 15
 | [],[],_=>rfl
 | [],_ :: _,h=>by simp at h
 | _ :: _,[],h=>by simp at h
 | x :: l,u :: us,h=>by
  have:=cellsM_len (l:=l) (us:=us) (by simpa using h)
  simp only [cellsM,List.zip_cons_cons,List.flatMap_cons,List.length_append,List.length_cons] at this ⊢
  rw [this]
  simp [mbrC]
  omega
theorem cellsM_append {l l':List Mbr} {us us':List (Value × Value)} (h:us.length=l.length):cellsM (l++l') (us++us')=cellsM l us++cellsM l' us':=by
 unfold cellsM
 rw [List.zip_append h.symm,List.flatMap_append]
theorem cellsM_one (x:Mbr) (u:Value × Value) (l:List Mbr) (us:List (Value × Value)):cellsM (x :: l) (u :: us)=mbrC x u.1 u.2++cellsM l us:=rfl
theorem mbr_slices {w:World} {S:Nat->Prop}:∀ {l:List Mbr} {vss:List (List Value)},vss.length=l.length->(∀ (i:Nat) x vs,l[i]? = some x->vss[i]? = some vs->mbrT.rd w S x vs) ->
  ∃ us:List (Value × Value),us.length=l.length/\vss.flatten=cellsM l us/\∀ (i:Nat) x u,l[i]? = some x->us[i]? = some u->Sl spanT w S u.1 x.gone/\Sl wordT w S u.2 x.words
 | [],[],_,_=>⟨[],rfl,rfl,by simp⟩
 | [],_ :: _,h,_=>by simp at h
 | _ :: _,[],h,_=>by simp at h
 | x :: l,vs :: vss,h,hr=>by
  obtain⟨us,h1,h2,h3⟩:=mbr_slices (l:=l) (vss:=vss) (by simpa using h) (fun i y ws hy hw=>hr (i+1) y ws (by simpa using hy) (by simpa using hw))
  obtain⟨v1,v2,rfl,q1,q2⟩:=hr 0 x vs rfl rfl
  refine ⟨(v1,v2) :: us,by simp [h1],by rw [List.flatten_cons,h2];rfl,fun i y u hy hu=>?_⟩
  cases i with
  | zero=>simp at hy hu;subst hy;subst hu;exact⟨q1,q2⟩
  | succ i=>exact h3 i y u (by simpa using hy) (by simpa using hu)
structure OwnM (w:World) (base g:Nat) (l:List Mbr) (us:List (Value × Value)):Prop where
 len:us.length=l.length
 each:∀ (i:Nat) x u,l[i]? = some x->us[i]? = some u->Own2 w base x u.1 u.2
 row:∀ u ∈ us,¬ ownBlk u.1 g/\¬ ownBlk u.2 g
 apart:us.Pairwise fun a b=>∀ k,ownBlk a.1 k ∨ ownBlk a.2 k->¬ (ownBlk b.1 k ∨ ownBlk b.2 k)
section
variable {w w':World} {base g:Nat} {l:List Mbr} {us:List (Value × Value)}
theorem Own2.keep {x:Mbr} {u1 u2:Value} (h:Own2 w base x u1 u2) (hs:∀ b,ownBlk u1 b ∨ ownBlk u2 b->b < w.heap.size->w'.heap[b]? = w.heap[b]?):Own2 w' base x u1 u2 :=
 ⟨h.gone.keep fun b hb=>hs b (.inl hb),h.words.keep fun b hb=>hs b (.inr hb),h.apart⟩
theorem Own2.lower {x:Mbr} {u1 u2:Value} {base':Nat} (h:Own2 w base x u1 u2) (hb:base'<=base):Own2 w base' x u1 u2:=⟨h.gone.lower hb,h.words.lower hb,h.apart⟩
theorem Own2.base_le {x:Mbr} {u1 u2:Value} (h:Own2 w base x u1 u2) {b:Nat} (hb:ownBlk u1 b ∨ ownBlk u2 b):base<=b/\b < w.heap.size:=by
 rcases hb with hb | hb
 ·exact h.gone.base_le hb
 ·exact h.words.base_le hb
theorem OwnM.nil:OwnM w base g [] []:=⟨rfl,by simp,by simp,.nil⟩
theorem OwnM.keep (h:OwnM w base g l us) (hs:∀ b,base<=b->b ≠ g->b < w.heap.size->w'.heap[b]? = w.heap[b]?):OwnM w' base g l us :=
 ⟨h.len,fun i x u hx hu=>(h.each i x u hx hu).keep fun b hb hlt=>hs b ((h.each i x u hx hu).base_le hb).1 (by
  rintro rfl
  have:=h.row u (List.mem_of_getElem? hu)
  rcases hb with hb | hb
  ·exact this.1 hb
  ·exact this.2 hb) hlt,h.row,h.apart⟩
theorem OwnM.ext (h:OwnM w base g l us) (he:Ext w w'):OwnM w' base g l us:=h.keep fun b _ _ hb=>he.block b hb
theorem OwnM.blk (h:OwnM w base g l us) {u:Value × Value} (hu:u ∈ us) {b:Nat} (hb:ownBlk u.1 b ∨ ownBlk u.2 b):base<=b/\b < w.heap.size:=by
 obtain⟨i,hi⟩:=List.getElem?_of_mem hu
 have hl:=(List.getElem?_eq_some_iff.1 hi).1
 rw [h.len] at hl
 exact (h.each i _ u (List.getElem?_eq_getElem hl) hi).base_le hb
theorem OwnM.snoc (h:OwnM w base g l us) {x:Mbr} {u1 u2:Value} {n:Nat} (hx:Own2 w n x u1 u2) (hn:∀ u ∈ us,∀ b,ownBlk u.1 b ∨ ownBlk u.2 b->b < n) (hb:base<=n) (hg:g < n):OwnM w base g (l++[x]) (us++[(u1,u2)]) where
 len:=by simp [h.len]
 each i y u hy hu:=by
  rcases Nat.lt_or_ge i l.length with hi | hi
  ·rw [List.getElem?_append_left hi] at hy
   rw [List.getElem?_append_left (by rw [h.len];exact hi)] at hu
   exact h.each i y u hy hu
  ·rw [List.getElem?_append_right hi] at hy
   rw [List.getElem?_append_right (by rw [h.len];exact hi),h.len] at hu
   cases hk:i - l.length with
   | zero=>rw [hk] at hy hu;simp at hy hu;subst hy;subst hu;exact hx.lower hb
   | succ k=>rw [hk] at hy;simp at hy
 row u hu:=by
  rcases List.mem_append.1 hu with hu | hu
  ·exact h.row u hu
  ·rw [List.mem_singleton.1 hu]
   exact⟨fun hb'=>by have:=(hx.base_le (.inl hb')).1;omega,fun hb'=>by have:=(hx.base_le (.inr hb')).1;omega⟩
 apart:=by
  rw [List.pairwise_append]
  refine ⟨h.apart,List.pairwise_singleton _ _,fun a ha b hb k h1 h2=>?_⟩
  rw [List.mem_singleton.1 hb] at h2
  have:=hn a ha k h1
  have:=(hx.base_le h2).1
  omega
end
structure SmallL (l:List Mbr):Prop where
 len:l.length<=4294967296
 each:∀ x ∈ l,x.gone.length<=4294967296/\x.words.length<=4294967296
def CopyM (w:World) (base:Nat) (v:Value) (l:List Mbr):Prop :=
 (l = []/\∃ A c,v=.slice A 0 c/\c<=9223372036854775807) ∨
 ∃ g c us tail,v=.slice (some ⟨g,0,none⟩) l.length c/\l.length * 15+tail.length=c * 15/\c<=9223372036854775807/\base<=g/\RowIs w g 48 (cellsM l us) tail/\OwnM w base g l us
theorem copyM_any {S:Nat->Prop} {v:Value} {l:List Mbr} {w:World} (hv:Sl mbrT w S v l) (sm:SmallL l) :
  Calls Tryz.prog 25 #[v] w fun e w'=>∃ v',e=.returned v'/\CopyM w' w.heap.size v' l/\Ext w w':=by
 have hv:=hv.mono (by decide) (S':=fun b=>b < w.heap.size) (fun b hb _=>hb)
 have HC:=Lib.hid (clone_mbr hv sm.len)
 cases hl:l with
 | nil =>
  subst hl
  go_enter Tryz.func25,Tryz.ntmps25
  go_wp2_with fail
  refine HC.out.mono ?_
  rintro e w1 ⟨v',rfl,ho,hx⟩
  obtain⟨A,c,rfl,-,hc⟩:=ho.form
  have HX:=Lib.hid hx
  clear ho hx
  go_wp2
  go_loopw [10] (fun i wr=>i=I 0/\wr=w1) (fun _ _=>0)
  case atStart=>exact⟨rfl,rfl⟩
  case round =>
   obtain⟨rfl,rfl⟩:=hrel
   go_wp2
   go_ret
   exact⟨_,rfl,.inl ⟨rfl,_,_,rfl,hc⟩,HX.out⟩
 | cons x0 l0 =>
  rw [<- hl]
  have hpos:0 < l.length:=by rw [hl];simp
  clear hl
  go_enter Tryz.func25,Tryz.ntmps25
  go_wp2_with fail
  refine HC.out.mono ?_
  rintro e w1 ⟨v',rfl,⟨vss,q1,q2,q3⟩,hx⟩
  obtain⟨g,c,tail,rfl,hg,hrow,hnc,hcm,hct⟩:=q3.row hpos
  rw [List.length_append,q3.1] at hct
  have HCT:=Lib.hid hct
  clear hct
  obtain⟨us0,p1,p2,p3⟩:=mbr_slices q1 q2
  rw [p2] at hrow
  clear q1 q2 q3 p2
  go_wp2
  go_loopw [10] (fun i wr=>∃ pre post us vs,l=pre++post/\i=I pre.length/\vs.length=post.length/\RowIs wr g 48 (cellsM pre us++cellsM post vs) tail/\OwnM wr w.heap.size g pre us /\
    (∀ (k:Nat) y u,post[k]? = some y->vs[k]? = some u->Sl spanT wr (fun b=>b < w.heap.size) u.1 y.gone/\Sl wordT wr (fun b=>b < w.heap.size) u.2 y.words)/\Ext w wr) (fun i _=>l.length - (intOf i).toNat)
  case atStart=>exact⟨[],l,[],us0,rfl,rfl,p1,hrow,OwnM.nil,p3,hx⟩
  case round =>
   obtain⟨pre,post,us,vs,hl,rfl,hvl,hrw,hom,hrd,hx1⟩:=hrel
   cases post with
   | nil =>
    obtain rfl:vs = []:=List.eq_nil_of_length_eq_zero (by simpa using hvl)
    rw [List.append_nil] at hl
    subst hl
    have HF:=Lib.hid (And.intro hrw (And.intro hom hx1))
    clear hrw hom hx1 hrd hrow
    go_wp2
    go_ret
    obtain⟨a,b,d⟩:=HF.out
    rw [show cellsM [] [] = [] from rfl,List.append_nil] at a
    exact⟨_,rfl,.inr ⟨g,c,us,tail,rfl,HCT.out,hcm,hg,a,b⟩,d⟩
   | cons x post =>
    cases vs with
    | nil=>simp at hvl
    | cons u vs =>
     obtain⟨v1,v2⟩:=u
     obtain⟨hs1,hs2⟩:=hrd 0 x (v1,v2) rfl rfl
     obtain⟨A1,c1,e1,-,-⟩:=hs1.form
     obtain⟨A2,c2,e2,-,-⟩:=hs2.form
     simp only at e1 e2 hs1 hs2
     subst e1 e2
     have hgl:=hrw.lt
     have hlt:pre.length < l.length:=by rw [hl];simp
     have hcl:=cellsM_len hom.len
     have hrw2:RowIs wr g 48 (cellsM pre us++mbrC x (.slice A1 x.gone.length c1) (.slice A2 x.words.length c2)++cellsM post vs) tail:=by rw [List.append_assoc];exact hrw
     have hm:=hrw2.m15 (o:=pre.length * 15) hcl.symm
     obtain⟨k0,k1,k2,k3,k4,k5,k6,k7,k8,k9,k10,k11,k12,k13,k14⟩:=hm
     have hone:=one_any (w:=wr.alloc (.cells #[St x.path,U8 x.status,I x.kids,I x.cut,U x.last,.slice A1 x.gone.length c1,St x.plan.keeper,U x.plan.round,St x.plan.live,St x.plan.by_,U x.plan.cap,St x.plan.owner,U x.plan.base,.bool x.plan.done,.slice A2 x.words.length c2] 48)) (hs1.ext (by decide) ((Ext.refl wr).alloc _)) (hs2.ext (by decide) ((Ext.refl wr).alloc _)) (sm.each x (by rw [hl];simp)).1 (sm.each x (by rw [hl];simp)).2
     have hbox:=(rowNew wr 48 [St x.path,U8 x.status,I x.kids,I x.cut,U x.last,.slice A1 x.gone.length c1,St x.plan.keeper,U x.plan.round,St x.plan.live,St x.plan.by_,U x.plan.cap,St x.plan.owner,U x.plan.base,.bool x.plan.done,.slice A2 x.words.length c2]).c15
     obtain⟨j0,j1,j2,j3,j4,j5,j6,j7,j8,j9,j10,j11,j12,j13,j14⟩:=hbox
     have HONE:=Lib.hid hone
     rw [Nat.add_zero] at k0
     have HL:=Lib.hid hl
     have HR:=Lib.hid (And.intro hrw2 (And.intro hom (And.intro hrd hx1)))
     clear hrw2 hrw hom hrd hx1 hone hs1 hs2 hrow hl hv
     go_wp2_with fail
     clear k0 k1 k2 k3 k4 k5 k6 k7 k8 k9 k10 k11 k12 k13 k14 j0 j1 j2 j3 j4 j5 j6 j7 j8 j9 j10 j11 j12 j13 j14
     refine HONE.out.mono ?_
     rintro e W2 ⟨u1,u2,rfl,ho,hx2⟩
     clear HONE
     obtain⟨B1,b1,rfl,-,-⟩:=ho.gone.form
     obtain⟨B2,b2,rfl,-,-⟩:=ho.words.form
     obtain⟨r1,r2,r3,r4⟩:=HR.out
     clear HR
     have hxa:=(Ext.refl wr).alloc (.cells #[St x.path,U8 x.status,I x.kids,I x.cut,U x.last,.slice A1 x.gone.length c1,St x.plan.keeper,U x.plan.round,St x.plan.live,St x.plan.by_,U x.plan.cap,St x.plan.owner,U x.plan.base,.bool x.plan.done,.slice A2 x.words.length c2] 48)
     have hx3:=hxa.trans hx2
     have rw2:=r1.ext hx3
     have om2:=r2.ext hx3
     have hsz:wr.heap.size < (wr.alloc (.cells #[St x.path,U8 x.status,I x.kids,I x.cut,U x.last,.slice A1 x.gone.length c1,St x.plan.keeper,U x.plan.round,St x.plan.live,St x.plan.by_,U x.plan.cap,St x.plan.owner,U x.plan.base,.bool x.plan.done,.slice A2 x.words.length c2] 48)).heap.size:=by simp
     have hblk:∀ u ∈ us,∀ b,ownBlk u.1 b ∨ ownBlk u.2 b->b < wr.heap.size:=fun u hu b hb=>(r2.blk hu hb).2
     have om3:=om2.snoc (x:=x) ho (fun u hu b hb=>by have:=hblk u hu b hb;omega) (by have:=r4.size;omega) (by omega)
     have hxw:=r4.trans hx3
     replace r3:∀ (k:Nat) y u,((x :: post)[k]? = some y)->((((.slice A1 x.gone.length c1,.slice A2 x.words.length c2):Value × Value) :: vs)[k]? = some u)->Sl spanT W2 (fun b=>b < w.heap.size) u.1 y.gone/\Sl wordT W2 (fun b=>b < w.heap.size) u.2 y.words:=fun k y u hy hu=>⟨(r3 k y u hy hu).1.ext (by decide) hx3,(r3 k y u hy hu).2.ext (by decide) hx3⟩
     clear hxa hx2 ho r1 r2 r4 hblk hx3 om2
     obtain⟨k0,k1,k2,k3,k4,k5,k6,k7,k8,k9,k10,k11,k12,k13,k14⟩:=rw2.m15 (o:=pre.length * 15) hcl.symm
     obtain⟨f0,f1,f2,f3,f4,f5,f6,f7,f8,f9,f10,f11,f12,f13,f14⟩:=rw2.g15 (pre.length * 15)
     rw [Nat.add_zero] at k0 f0
     have HR:=Lib.hid (And.intro rw2 (And.intro om3 (And.intro r3 hxw)))
     clear rw2 om3 r3 hxw
     unfold mbrV
     go_wp2_with fail
     clear k0 k1 k2 k3 k4 k5 k6 k7 k8 k9 k10 k11 k12 k13 k14 f0 f1 f2 f3 f4 f5 f6 f7 f8 f9 f10 f11 f12 f13 f14
     go_roundw
     case rel =>
      obtain⟨rw2,om3,r3,hxw⟩:=HR.out
      have r:=put15_mid (cellsM pre us) (cellsM post vs) rw2 (a0:=St x.path) (a1:=U8 x.status) (a2:=I x.kids) (a3:=I x.cut) (a4:=U x.last) (a5:=.slice B1 x.gone.length b1) (a6:=St x.plan.keeper) (a7:=U x.plan.round) (a8:=St x.plan.live) (a9:=St x.plan.by_) (a10:=U x.plan.cap) (a11:=St x.plan.owner) (a12:=U x.plan.base) (a13:=.bool x.plan.done) (a14:=.slice B2 x.words.length b2)
      rw [hcl] at r
      have hb:=put15_below (g:=g) (o:=pre.length * 15) (a0:=St x.path) (a1:=U8 x.status) (a2:=I x.kids) (a3:=I x.cut) (a4:=U x.last) (a5:=.slice B1 x.gone.length b1) (a6:=St x.plan.keeper) (a7:=U x.plan.round) (a8:=St x.plan.live) (a9:=St x.plan.by_) (a10:=U x.plan.cap) (a11:=St x.plan.owner) (a12:=U x.plan.base) (a13:=.bool x.plan.done) (a14:=.slice B2 x.words.length b2) hxw hg
      have hk:=fun b (h:b ≠ g)=>put15_heap (W:=W2) (o:=pre.length * 15) (a0:=St x.path) (a1:=U8 x.status) (a2:=I x.kids) (a3:=I x.cut) (a4:=U x.last) (a5:=.slice B1 x.gone.length b1) (a6:=St x.plan.keeper) (a7:=U x.plan.round) (a8:=St x.plan.live) (a9:=St x.plan.by_) (a10:=U x.plan.cap) (a11:=St x.plan.owner) (a12:=U x.plan.base) (a13:=.bool x.plan.done) (a14:=.slice B2 x.words.length b2) h
      have q:∃ pre' post' us' vs',l=pre'++post'/\Value.int .i64 ((pre.length:Int)+1)=I pre'.length/\vs'.length=post'.length/\RowIs (put15 W2 g (pre.length * 15) (St x.path) (U8 x.status) (I x.kids) (I x.cut) (U x.last) (.slice B1 x.gone.length b1) (St x.plan.keeper) (U x.plan.round) (St x.plan.live) (St x.plan.by_) (U x.plan.cap) (St x.plan.owner) (U x.plan.base) (.bool x.plan.done) (.slice B2 x.words.length b2)) g 48 (cellsM pre' us'++cellsM post' vs') tail/\OwnM (put15 W2 g (pre.length * 15) (St x.path) (U8 x.status) (I x.kids) (I x.cut) (U x.last) (.slice B1 x.gone.length b1) (St x.plan.keeper) (U x.plan.round) (St x.plan.live) (St x.plan.by_) (U x.plan.cap) (St x.plan.owner) (U x.plan.base) (.bool x.plan.done) (.slice B2 x.words.length b2)) w.heap.size g pre' us' /\
        (∀ (k:Nat) y u,post'[k]? = some y->vs'[k]? = some u->Sl spanT (put15 W2 g (pre.length * 15) (St x.path) (U8 x.status) (I x.kids) (I x.cut) (U x.last) (.slice B1 x.gone.length b1) (St x.plan.keeper) (U x.plan.round) (St x.plan.live) (St x.plan.by_) (U x.plan.cap) (St x.plan.owner) (U x.plan.base) (.bool x.plan.done) (.slice B2 x.words.length b2)) (fun b=>b < w.heap.size) u.1 y.gone/\Sl wordT (put15 W2 g (pre.length * 15) (St x.path) (U8 x.status) (I x.kids) (I x.cut) (U x.last) (.slice B1 x.gone.length b1) (St x.plan.keeper) (U x.plan.round) (St x.plan.live) (St x.plan.by_) (U x.plan.cap) (St x.plan.owner) (U x.plan.base) (.bool x.plan.done) (.slice B2 x.words.length b2)) (fun b=>b < w.heap.size) u.2 y.words)/\Ext w (put15 W2 g (pre.length * 15) (St x.path) (U8 x.status) (I x.kids) (I x.cut) (U x.last) (.slice B1 x.gone.length b1) (St x.plan.keeper) (U x.plan.round) (St x.plan.live) (St x.plan.by_) (U x.plan.cap) (St x.plan.owner) (U x.plan.base) (.bool x.plan.done) (.slice B2 x.words.length b2)):=by
       refine ⟨pre++[x],post,us++[(.slice B1 x.gone.length b1,.slice B2 x.words.length b2)],vs,by rw [HL.out];simp,by simp,by simpa using hvl,?_,om3.keep (fun b _ hne _=>hk b hne),fun k y u hy hu=>?_,hb⟩
       ·have hul:us.length=pre.length:=by have:=om3.len;simpa using this
        rw [cellsM_append hul]
        exact r
       ·obtain⟨s1,s2⟩:=r3 (k+1) y u (by simpa using hy) (by simpa using hu)
        exact⟨s1.keep (by decide) fun b hb' _=>hk b (by omega),s2.keep (by decide) fun b hb' _=>hk b (by omega)⟩
      exact q
     case measure=>simp [intOf];omega
def firstL:List Int->Int
 | []=>0
 | c :: r=>if c=0 then firstL r else c
theorem firstL_skip:∀ {a b:List Int},(∀ x ∈ a,x=0)->firstL (a++b)=firstL b
 | [],_,_=>rfl
 | x :: a,b,h=>by
  rw [List.cons_append,firstL,if_pos (h x (by simp))]
  exact firstL_skip fun y hy=>h y (by simp [hy])
def rankP (p:Str):Int:=if mayP p then 9 - (deepP p:Int) else 0
def settledM (p:Plan):Int:=if p.done then 1 else 0
def higherM (a b:Str):Int:=cmpI (rankP a) (rankP b)
def laterL (x y:Plan):List Int:=[cmpI (settledM x) (settledM y),higherM x.keeper y.keeper,cmpN x.round y.round,cmpPath x.keeper y.keeper,cmpS x.live y.live,cmpS x.by_ y.by_,cmpN x.cap y.cap,cmpS x.owner y.owner,cmpN x.base y.base]
def laterM (x y:Plan):Plan:=if firstL (laterL x y) < 0 then y else x
theorem told_any {g:Nat} {cb:Array Value} {C:World->Prop} {l:List (Nat × Int)} {w:World} (hC:∀ W W',C W->Ext W W'->C W') (hf:∀ e ∈ l,(∀ args w,(callFunc e.1 args).run Tryz.prog w=.ok (.enter e.1 args) w)/\∀ W,C W->Calls Tryz.prog e.1 cb W fun r w'=>r=.returned (I e.2)/\Ext W w')
  {T:TypeId} (hrow:RowIs w g T (l.map fun e=>.func (.func e.1) #[] cb) []) (hC0:C w) (hl:l.length<=1000) :
  Calls Tryz.prog 60 #[.slice (some ⟨g,0,none⟩) l.length l.length] w fun e w'=>e=.returned (I (firstL (l.map (·.2))))/\Ext w w':=by
 have HF:=Lib.hid hf
 have HC:=Lib.hid hC
 have H0:=Lib.hid hC0
 have HR:=Lib.hid hrow
 clear hf hC hC0 hrow
 go_enter Tryz.func60,Tryz.ntmps60
 go_wp2_with fail
 go_loopw [8] (fun i wr=>∃ pre post,l=pre++post/\i=I pre.length/\(∀ x ∈ pre.map (·.2),x=0)/\Ext w wr) (fun i _=>l.length - (intOf i).toNat)
 case atStart=>exact⟨[],l,rfl,rfl,by simp,Ext.refl _⟩
 case round =>
  obtain⟨pre,post,hll,rfl,hpre,hx⟩:=hrel
  cases post with
  | nil =>
   rw [List.append_nil] at hll
   have hlen:l.length=pre.length:=by rw [hll]
   have HK:=Lib.hid (show firstL (l.map (·.2))=0 by rw [hll,<- List.append_nil (pre.map (·.2)),firstL_skip hpre];rfl)
   clear hll hpre
   go_wp2_with fail
   go_ret
   exact⟨by rw [HK.out];rfl,hx⟩
  | cons e post =>
   have hlt:(pre.length:Int) < l.length:=by rw [hll];simp;omega
   obtain⟨k,c⟩:=e
   have hme:(k,c) ∈ l:=by rw [hll];simp
   have hcell:wr.cell? ⟨g,pre.length,none⟩=some (.func (.func k) #[] cb):=hx.cell (HR.out.cell (by rw [hll];simp))
   have eg:=(HF.out _ hme).1
   have HD:=Lib.hid ((HF.out _ hme).2 wr (HC.out _ _ H0.out hx))
   have HL:=Lib.hid hll
   have HP:=Lib.hid hpre
   simp only at eg
   clear hll hpre hme
   by_cases hc:c=0
   ·have e1:(c != 0)=false:=by simpa using hc
    go_wp2_with fail
    refine HD.out.mono ?_
    rintro e w1 ⟨rfl,hb1⟩
    have HB:=Lib.hid hb1
    clear hb1
    dsimp only
    go_wp2_with fail
    go_roundw
    case rel=>exact⟨pre++[(k,c)],post,by rw [HL.out];simp,by simp,by
     intro y hy
     rw [List.map_append,List.mem_append] at hy
     rcases hy with hy | hy
     ·exact HP.out y hy
     ·simp at hy;rw [hy,hc],hx.trans HB.out⟩
    case measure=>simp [intOf];omega
   ·have e1:(c != 0)=true:=by simpa using hc
    have HK:=Lib.hid (show firstL (l.map (·.2))=c by rw [HL.out,List.map_append,firstL_skip HP.out];simp [firstL,hc])
    go_wp2_with fail
    refine HD.out.mono ?_
    rintro e w1 ⟨rfl,hb1⟩
    have HB:=Lib.hid hb1
    clear hb1
    dsimp only
    go_wp2_with fail
    go_ret
    exact⟨by rw [HK.out];rfl,hx.trans HB.out⟩
theorem settled_any (p:Plan) (w:World):Calls Tryz.prog 63 #[planV p] w fun e w'=>e=.returned (I (settledM p))/\Ext w w':=by
 have hx:=(Ext.refl w).alloc (.cells #[St p.keeper,U p.round,St p.live,St p.by_,U p.cap,St p.owner,U p.base,.bool p.done] 45)
 have hc:=(rowNew w 45 [St p.keeper,U p.round,St p.live,St p.by_,U p.cap,St p.owner,U p.base,.bool p.done]).cell (j:=7) rfl
 have HX:=Lib.hid hx
 clear hx
 unfold planV settledM
 cases hd:p.done
 all_goals
  rw [hd] at hc
  rw [hd] at HX
  go_enter Tryz.func63,Tryz.ntmps63
  go_wp2_with fail
  go_ret
  exact⟨rfl,HX.out⟩
theorem rank_any (p:Str) (hp:p.length < 4611686018427387904) (w:World):Calls Tryz.prog 128 #[St p] w fun e w'=>e=.returned (I (rankP p))/\Ext w w':=by
 have HM:=Lib.hid (may_any p hp)
 have HD:=Lib.hid (deep_any p hp)
 have h8:deepP p<=8:=splitP_len p
 unfold rankP
 generalize deepP p=d at *
 cases hm:mayP p with
 | false =>
  rw [hm] at HM
  go_enter Tryz.func128,Tryz.ntmps128
  go_wp2_with fail
  refine (HM.out _).mono ?_
  rintro e w1 ⟨rfl,hx⟩
  go_wp2
  go_ret
  exact⟨rfl,hx⟩
 | true =>
  rw [hm] at HM
  go_enter Tryz.func128,Tryz.ntmps128
  go_wp2_with fail
  refine (HM.out _).mono ?_
  rintro e w1 ⟨rfl,hx⟩
  go_wp2_with fail
  refine (HD.out _).mono ?_
  rintro e w2 ⟨rfl,hx2⟩
  go_wp2
  go_ret
  exact⟨rfl,hx.trans hx2⟩
theorem higher_any (a b:Str) (ha:a.length < 4611686018427387904) (hb:b.length < 4611686018427387904) (w:World):Calls Tryz.prog 65 #[St a,St b] w fun e w'=>e=.returned (I (higherM a b))/\Ext w w':=by
 have HA:=Lib.hid (rank_any a ha)
 have HB:=Lib.hid (rank_any b hb)
 unfold higherM
 generalize rankP a=ra at *
 generalize rankP b=rb at *
 have HC:=Lib.hid (icmp_any ra rb)
 generalize cmpI ra rb=K at *
 have eg:∀ args w,(callFunc 128 args).run Tryz.prog w=.ok (.enter 128 args) w:=enters_of Tryz.func128 (by kernel_rfl) rfl
 go_enter Tryz.func65,Tryz.ntmps65
 go_wp2_with fail
 refine (HA.out _).mono ?_
 rintro e w1 ⟨rfl,hx1⟩
 go_wp2_with fail
 refine (HB.out _).mono ?_
 rintro e w2 ⟨rfl,hx2⟩
 go_wp2_with fail
 refine (HC.out _).mono ?_
 rintro e w3 ⟨rfl,rfl⟩
 go_wp2
 go_ret
 exact⟨rfl,hx1.trans hx2⟩
theorem byText_any (a b:Str) (w:World):Calls Tryz.prog 70 #[St a,St b] w fun e w'=>e=.returned (I (cmpS a b))/\Ext w w':=by
 have HC:=Lib.hid (scmp_any a b)
 generalize cmpS a b=K at *
 go_enter Tryz.func70,Tryz.ntmps70
 go_wp2_with fail
 refine (HC.out _).mono ?_
 rintro e w1 ⟨rfl,rfl⟩
 go_wp2
 go_ret
 exact⟨rfl,Ext.refl _⟩
def PlansAt (a b:Nat) (x y:Plan) (W:World):Prop:=RowIs W a 45 (planC x) []/\RowIs W b 45 (planC y) []
theorem PlansAt.ext {a b:Nat} {x y:Plan} {W W':World} (h:PlansAt a b x y W) (he:Ext W W'):PlansAt a b x y W':=⟨h.1.ext he,h.2.ext he⟩
section
variable {a b:Nat} {x y:Plan} {W:World}
theorem later1_any (h:PlansAt a b x y W):Calls Tryz.prog 61 #[.pointer (some ⟨a,0,none⟩),.pointer (some ⟨b,0,none⟩)] W fun e w'=>e=.returned (I (cmpI (settledM x) (settledM y)))/\Ext W w':=by
 have hx:=h.1.p8 rfl
 have hy:=h.2.p8 rfl
 obtain⟨sm,hsm⟩:∃ sm:Plan->Int,∀ p,settledM p=sm p:=⟨settledM,fun _=>rfl⟩
 have HS:=Lib.hid (fun (p:Plan) (hp:p=x ∨ p=y) W=>(show Calls Tryz.prog 63 #[planV p] W fun e w'=>e=.returned (I (sm p))/\Ext W w' from by rw [<- hsm];exact settled_any p W))
 have H:=Lib.hid h
 rw [hsm x,hsm y]
 have HC:=Lib.hid (fun W=>(icmp_any (sm x) (sm y) W).mono (R':=fun e w'=>e=.returned (I (cmpI (sm x) (sm y)))/\Ext W w') (by rintro e w' ⟨rfl,rfl⟩;exact⟨rfl,Ext.refl _⟩))
 generalize cmpI (sm x) (sm y)=K at *
 obtain⟨⟨x0,x1,x2,x3⟩,x4,x5,x6,x7⟩:=hx
 obtain⟨⟨y0,y1,y2,y3⟩,y4,y5,y6,y7⟩:=hy
 unfold planV at HS
 clear hsm h
 go_enter Tryz.func61,Tryz.ntmps61
 go_wp2_with fail
 go_region_held3 (fun V=>V.cell? ⟨a,0,none⟩=some (St x.keeper)/\V.cell? ⟨a,1,none⟩=some (U x.round)/\V.cell? ⟨a,2,none⟩=some (St x.live)/\V.cell? ⟨a,3,none⟩=some (St x.by_)/\V.cell? ⟨a,4,none⟩=some (U x.cap)/\V.cell? ⟨a,5,none⟩=some (St x.owner)/\V.cell? ⟨a,6,none⟩=some (U x.base)/\V.cell? ⟨a,7,none⟩=some (.bool x.done)/\V.cell? ⟨b,0,none⟩=some (St y.keeper)/\V.cell? ⟨b,1,none⟩=some (U y.round)/\V.cell? ⟨b,2,none⟩=some (St y.live)/\V.cell? ⟨b,3,none⟩=some (St y.by_)/\V.cell? ⟨b,4,none⟩=some (U y.cap)/\V.cell? ⟨b,5,none⟩=some (St y.owner)/\V.cell? ⟨b,6,none⟩=some (U y.base)/\V.cell? ⟨b,7,none⟩=some (.bool y.done)/\Ext W V) (first | exact⟨x0,x1,x2,x3,x4,x5,x6,x7,y0,y1,y2,y3,y4,y5,y6,y7,(Ext.refl _).drew⟩ | exact⟨hb1.cell (‹_/\_/\_/\_/\_/\_/\_/\_/\_/\_/\_/\_/\_/\_/\_/\_/\Ext W _›).1,hb1.cell (‹_/\_/\_/\_/\_/\_/\_/\_/\_/\_/\_/\_/\_/\_/\_/\_/\Ext W _›).2.1,hb1.cell (‹_/\_/\_/\_/\_/\_/\_/\_/\_/\_/\_/\_/\_/\_/\_/\_/\Ext W _›).2.2.1,hb1.cell (‹_/\_/\_/\_/\_/\_/\_/\_/\_/\_/\_/\_/\_/\_/\_/\_/\Ext W _›).2.2.2.1,hb1.cell (‹_/\_/\_/\_/\_/\_/\_/\_/\_/\_/\_/\_/\_/\_/\_/\_/\Ext W _›).2.2.2.2.1,hb1.cell (‹_/\_/\_/\_/\_/\_/\_/\_/\_/\_/\_/\_/\_/\_/\_/\_/\Ext W _›).2.2.2.2.2.1,hb1.cell (‹_/\_/\_/\_/\_/\_/\_/\_/\_/\_/\_/\_/\_/\_/\_/\_/\Ext W _›).2.2.2.2.2.2.1,hb1.cell (‹_/\_/\_/\_/\_/\_/\_/\_/\_/\_/\_/\_/\_/\_/\_/\_/\Ext W _›).2.2.2.2.2.2.2.1,hb1.cell (‹_/\_/\_/\_/\_/\_/\_/\_/\_/\_/\_/\_/\_/\_/\_/\_/\Ext W _›).2.2.2.2.2.2.2.2.1,hb1.cell (‹_/\_/\_/\_/\_/\_/\_/\_/\_/\_/\_/\_/\_/\_/\_/\_/\Ext W _›).2.2.2.2.2.2.2.2.2.1,hb1.cell (‹_/\_/\_/\_/\_/\_/\_/\_/\_/\_/\_/\_/\_/\_/\_/\_/\Ext W _›).2.2.2.2.2.2.2.2.2.2.1,hb1.cell (‹_/\_/\_/\_/\_/\_/\_/\_/\_/\_/\_/\_/\_/\_/\_/\_/\Ext W _›).2.2.2.2.2.2.2.2.2.2.2.1,hb1.cell (‹_/\_/\_/\_/\_/\_/\_/\_/\_/\_/\_/\_/\_/\_/\_/\_/\Ext W _›).2.2.2.2.2.2.2.2.2.2.2.2.1,hb1.cell (‹_/\_/\_/\_/\_/\_/\_/\_/\_/\_/\_/\_/\_/\_/\_/\_/\Ext W _›).2.2.2.2.2.2.2.2.2.2.2.2.2.1,hb1.cell (‹_/\_/\_/\_/\_/\_/\_/\_/\_/\_/\_/\_/\_/\_/\_/\_/\Ext W _›).2.2.2.2.2.2.2.2.2.2.2.2.2.2.1,hb1.cell (‹_/\_/\_/\_/\_/\_/\_/\_/\_/\_/\_/\_/\_/\_/\_/\_/\Ext W _›).2.2.2.2.2.2.2.2.2.2.2.2.2.2.2.1,(‹_/\_/\_/\_/\_/\_/\_/\_/\_/\_/\_/\_/\_/\_/\_/\_/\Ext W _›).2.2.2.2.2.2.2.2.2.2.2.2.2.2.2.2.trans hb1⟩) (first | (go_at_call 63;refine (HS.out x (.inl rfl) _).mono ?_;rintro e w1 ⟨rfl,hb1⟩) | (go_at_call 63;refine (HS.out y (.inr rfl) _).mono ?_;rintro e w1 ⟨rfl,hb1⟩) | (go_at_call 62;refine (HC.out _).mono ?_;rintro e w1 ⟨rfl,hb1⟩))
 have hX6:=(‹_/\_/\_/\_/\_/\_/\_/\_/\_/\_/\_/\_/\_/\_/\_/\_/\Ext W _›).2.2.2.2.2.2.2.2.2.2.2.2.2.2.2.2
 go_wp2
 go_ret
 exact⟨rfl,hX6⟩
theorem later2_any (h:PlansAt a b x y W) (hk:x.keeper.length < 4611686018427387904) (hl:y.keeper.length < 4611686018427387904):Calls Tryz.prog 64 #[.pointer (some ⟨a,0,none⟩),.pointer (some ⟨b,0,none⟩)] W fun e w'=>e=.returned (I (higherM x.keeper y.keeper))/\Ext W w':=by
 have hx:=h.1.cell (j:=0) rfl
 have hy:=h.2.cell (j:=0) rfl
 have HC:=Lib.hid (fun W=>(higher_any x.keeper y.keeper hk hl W).mono (R':=fun e w'=>e=.returned (I (higherM x.keeper y.keeper))/\Ext W w') (by exact fun _ _ h=>h))
 generalize higherM x.keeper y.keeper=K at *
 clear h
 go_enter Tryz.func64,Tryz.ntmps64
 go_wp2_with fail
 refine (HC.out _).mono ?_
 rintro e w1 ⟨rfl,hx1⟩
 go_wp2
 go_ret
 exact⟨rfl,hx1⟩
theorem later3_any (h:PlansAt a b x y W):Calls Tryz.prog 66 #[.pointer (some ⟨a,0,none⟩),.pointer (some ⟨b,0,none⟩)] W fun e w'=>e=.returned (I (cmpN x.round y.round))/\Ext W w':=by
 have hx:=h.1.cell (j:=1) rfl
 have hy:=h.2.cell (j:=1) rfl
 have HC:=Lib.hid (fun W=>(ncmp_any x.round y.round W).mono (R':=fun e w'=>e=.returned (I (cmpN x.round y.round))/\Ext W w') (by rintro e w' ⟨rfl,rfl⟩;exact⟨rfl,Ext.refl _⟩))
 generalize cmpN x.round y.round=K at *
 clear h
 go_enter Tryz.func66,Tryz.ntmps66
 go_wp2_with fail
 refine (HC.out _).mono ?_
 rintro e w1 ⟨rfl,hx1⟩
 go_wp2
 go_ret
 exact⟨rfl,hx1⟩
theorem later4_any (h:PlansAt a b x y W) (hk:x.keeper.length < 4611686018427387904) (hl:y.keeper.length < 4611686018427387904):Calls Tryz.prog 68 #[.pointer (some ⟨a,0,none⟩),.pointer (some ⟨b,0,none⟩)] W fun e w'=>e=.returned (I (cmpPath x.keeper y.keeper))/\Ext W w':=by
 have hx:=h.1.cell (j:=0) rfl
 have hy:=h.2.cell (j:=0) rfl
 have HC:=Lib.hid (fun W=>(pcmp_any x.keeper y.keeper hk hl W).mono (R':=fun e w'=>e=.returned (I (cmpPath x.keeper y.keeper))/\Ext W w') (by exact fun _ _ h=>h))
 generalize cmpPath x.keeper y.keeper=K at *
 clear h
 go_enter Tryz.func68,Tryz.ntmps68
 go_wp2_with fail
 refine (HC.out _).mono ?_
 rintro e w1 ⟨rfl,hx1⟩
 go_wp2
 go_ret
 exact⟨rfl,hx1⟩
theorem later5_any (h:PlansAt a b x y W):Calls Tryz.prog 69 #[.pointer (some ⟨a,0,none⟩),.pointer (some ⟨b,0,none⟩)] W fun e w'=>e=.returned (I (cmpS x.live y.live))/\Ext W w':=by
 have hx:=h.1.cell (j:=2) rfl
 have hy:=h.2.cell (j:=2) rfl
 have HC:=Lib.hid (fun W=>(byText_any x.live y.live W).mono (R':=fun e w'=>e=.returned (I (cmpS x.live y.live))/\Ext W w') (by exact fun _ _ h=>h))
 generalize cmpS x.live y.live=K at *
 clear h
 go_enter Tryz.func69,Tryz.ntmps69
 go_wp2_with fail
 refine (HC.out _).mono ?_
 rintro e w1 ⟨rfl,hx1⟩
 go_wp2
 go_ret
 exact⟨rfl,hx1⟩
theorem later6_any (h:PlansAt a b x y W):Calls Tryz.prog 71 #[.pointer (some ⟨a,0,none⟩),.pointer (some ⟨b,0,none⟩)] W fun e w'=>e=.returned (I (cmpS x.by_ y.by_))/\Ext W w':=by
 have hx:=h.1.cell (j:=3) rfl
 have hy:=h.2.cell (j:=3) rfl
 have HC:=Lib.hid (fun W=>(byText_any x.by_ y.by_ W).mono (R':=fun e w'=>e=.returned (I (cmpS x.by_ y.by_))/\Ext W w') (by exact fun _ _ h=>h))
 generalize cmpS x.by_ y.by_=K at *
 clear h
 go_enter Tryz.func71,Tryz.ntmps71
 go_wp2_with fail
 refine (HC.out _).mono ?_
 rintro e w1 ⟨rfl,hx1⟩
 go_wp2
 go_ret
 exact⟨rfl,hx1⟩
theorem later7_any (h:PlansAt a b x y W):Calls Tryz.prog 72 #[.pointer (some ⟨a,0,none⟩),.pointer (some ⟨b,0,none⟩)] W fun e w'=>e=.returned (I (cmpN x.cap y.cap))/\Ext W w':=by
 have hx:=h.1.cell (j:=4) rfl
 have hy:=h.2.cell (j:=4) rfl
 have HC:=Lib.hid (fun W=>(ncmp_any x.cap y.cap W).mono (R':=fun e w'=>e=.returned (I (cmpN x.cap y.cap))/\Ext W w') (by rintro e w' ⟨rfl,rfl⟩;exact⟨rfl,Ext.refl _⟩))
 generalize cmpN x.cap y.cap=K at *
 clear h
 go_enter Tryz.func72,Tryz.ntmps72
 go_wp2_with fail
 refine (HC.out _).mono ?_
 rintro e w1 ⟨rfl,hx1⟩
 go_wp2
 go_ret
 exact⟨rfl,hx1⟩
theorem later8_any (h:PlansAt a b x y W):Calls Tryz.prog 73 #[.pointer (some ⟨a,0,none⟩),.pointer (some ⟨b,0,none⟩)] W fun e w'=>e=.returned (I (cmpS x.owner y.owner))/\Ext W w':=by
 have hx:=h.1.cell (j:=5) rfl
 have hy:=h.2.cell (j:=5) rfl
 have HC:=Lib.hid (fun W=>(byText_any x.owner y.owner W).mono (R':=fun e w'=>e=.returned (I (cmpS x.owner y.owner))/\Ext W w') (by exact fun _ _ h=>h))
 generalize cmpS x.owner y.owner=K at *
 clear h
 go_enter Tryz.func73,Tryz.ntmps73
 go_wp2_with fail
 refine (HC.out _).mono ?_
 rintro e w1 ⟨rfl,hx1⟩
 go_wp2
 go_ret
 exact⟨rfl,hx1⟩
theorem later9_any (h:PlansAt a b x y W):Calls Tryz.prog 74 #[.pointer (some ⟨a,0,none⟩),.pointer (some ⟨b,0,none⟩)] W fun e w'=>e=.returned (I (cmpN x.base y.base))/\Ext W w':=by
 have hx:=h.1.cell (j:=6) rfl
 have hy:=h.2.cell (j:=6) rfl
 have HC:=Lib.hid (fun W=>(ncmp_any x.base y.base W).mono (R':=fun e w'=>e=.returned (I (cmpN x.base y.base))/\Ext W w') (by rintro e w' ⟨rfl,rfl⟩;exact⟨rfl,Ext.refl _⟩))
 generalize cmpN x.base y.base=K at *
 clear h
 go_enter Tryz.func74,Tryz.ntmps74
 go_wp2_with fail
 refine (HC.out _).mono ?_
 rintro e w1 ⟨rfl,hx1⟩
 go_wp2
 go_ret
 exact⟨rfl,hx1⟩
end
def put8 (W:World) (g:Nat) (a0 a1 a2 a3 a4 a5 a6 a7:Value):World:=(((((((W.setCell ⟨g,0,none⟩ a0).setCell ⟨g,1,none⟩ a1).setCell ⟨g,2,none⟩ a2).setCell ⟨g,3,none⟩ a3).setCell ⟨g,4,none⟩ a4).setCell ⟨g,5,none⟩ a5).setCell ⟨g,6,none⟩ a6).setCell ⟨g,7,none⟩ a7
section
variable {W w:World} {g T:Nat} {a0 a1 a2 a3 a4 a5 a6 a7:Value}
theorem put8_row {b0 b1 b2 b3 b4 b5 b6 b7:Value} (h:RowIs W g T [b0,b1,b2,b3,b4,b5,b6,b7] []):RowIs (put8 W g a0 a1 a2 a3 a4 a5 a6 a7) g T [a0,a1,a2,a3,a4,a5,a6,a7] [] :=
 (((((((h.set (j:=0) (by simp) a0).set (j:=1) (by simp) a1).set (j:=2) (by simp) a2).set (j:=3) (by simp) a3).set (j:=4) (by simp) a4).set (j:=5) (by simp) a5).set (j:=6) (by simp) a6).set (j:=7) (by simp) a7
theorem put8_ext (h:Ext w W) (hg:w.heap.size<=g):Ext w (put8 W g a0 a1 a2 a3 a4 a5 a6 a7) :=
 (((((((h.set (p:=⟨g,0,none⟩) hg _).set (p:=⟨g,1,none⟩) hg _).set (p:=⟨g,2,none⟩) hg _).set (p:=⟨g,3,none⟩) hg _).set (p:=⟨g,4,none⟩) hg _).set (p:=⟨g,5,none⟩) hg _).set (p:=⟨g,6,none⟩) hg _).set (p:=⟨g,7,none⟩) hg _
end
theorem later_any (x y:Plan) (hx:x.keeper.length < 4611686018427387904) (hy:y.keeper.length < 4611686018427387904) (w:World):Calls Tryz.prog 23 #[planV x,planV y] w fun e w'=>e=.returned (planV (laterM x y))/\Ext w w':=by
 have ra:=rowNew w 45 (planC x)
 have xa:=(Ext.refl w).alloc (.cells (planC x).toArray 45)
 have rb:=rowNew (w.alloc (.cells (planC x).toArray 45)) 45 (planC y)
 have xb:=xa.alloc (.cells (planC y).toArray 45)
 have rc:=rowNew ((w.alloc (.cells (planC x).toArray 45)).alloc (.cells (planC y).toArray 45)) 45 (planC plan0)
 have xc:=xb.alloc (.cells (planC plan0).toArray 45)
 simp only [World.size_alloc] at rb rc
 have hpl:PlansAt w.heap.size (w.heap.size+1) x y (((w.alloc (.cells (planC x).toArray 45)).alloc (.cells (planC y).toArray 45)).alloc (.cells (planC plan0).toArray 45)):=⟨(ra.alloc _).alloc _,rb.alloc _⟩
 have hsz:(((w.alloc (.cells (planC x).toArray 45)).alloc (.cells (planC y).toArray 45)).alloc (.cells (planC plan0).toArray 45)).heap.size=w.heap.size+3:=by simp
 have HT:=Lib.hid (fun (W:World) (h:PlansAt w.heap.size (w.heap.size+1) x y W) (g:Nat) (hr:RowIs W g 96 ([(61,cmpI (settledM x) (settledM y)),(64,higherM x.keeper y.keeper),(66,cmpN x.round y.round),(68,cmpPath x.keeper y.keeper),(69,cmpS x.live y.live),(71,cmpS x.by_ y.by_),(72,cmpN x.cap y.cap),(73,cmpS x.owner y.owner),(74,cmpN x.base y.base)].map fun (e:Nat × Int)=>.func (.func e.1) #[] #[.pointer (some ⟨w.heap.size,0,none⟩),.pointer (some ⟨w.heap.size+1,0,none⟩)]) []) =>
  told_any (C:=PlansAt w.heap.size (w.heap.size+1) x y) (fun _ _ h k=>h.ext k) (by
   intro e he
   simp only [List.mem_cons,List.not_mem_nil,or_false] at he
   rcases he with rfl | rfl | rfl | rfl | rfl | rfl | rfl | rfl | rfl
   ·exact⟨enters_of Tryz.func61 (by kernel_rfl) rfl,fun W h=>later1_any h⟩
   ·exact⟨enters_of Tryz.func64 (by kernel_rfl) rfl,fun W h=>later2_any h hx hy⟩
   ·exact⟨enters_of Tryz.func66 (by kernel_rfl) rfl,fun W h=>later3_any h⟩
   ·exact⟨enters_of Tryz.func68 (by kernel_rfl) rfl,fun W h=>later4_any h hx hy⟩
   ·exact⟨enters_of Tryz.func69 (by kernel_rfl) rfl,fun W h=>later5_any h⟩
   ·exact⟨enters_of Tryz.func71 (by kernel_rfl) rfl,fun W h=>later6_any h⟩
   ·exact⟨enters_of Tryz.func72 (by kernel_rfl) rfl,fun W h=>later7_any h⟩
   ·exact⟨enters_of Tryz.func73 (by kernel_rfl) rfl,fun W h=>later8_any h⟩
   ·exact⟨enters_of Tryz.func74 (by kernel_rfl) rfl,fun W h=>later9_any h⟩) hr h (by simp))
 have hfl:firstL ([(61,cmpI (settledM x) (settledM y)),(64,higherM x.keeper y.keeper),(66,cmpN x.round y.round),(68,cmpPath x.keeper y.keeper),(69,cmpS x.live y.live),(71,cmpS x.by_ y.by_),(72,cmpN x.cap y.cap),(73,cmpS x.owner y.owner),(74,cmpN x.base y.base)].map fun (e:Nat × Int)=>e.2)=firstL (laterL x y):=rfl
 rw [hfl] at HT
 obtain⟨K,hK⟩:∃ K,firstL (laterL x y)=K:=⟨_,rfl⟩
 have hres:laterM x y=if K < 0 then y else x:=by unfold laterM;rw [hK]
 rw [hK] at HT
 have HRS:=Lib.hid hres
 have HW:=Lib.hid (And.intro hpl (And.intro rc (And.intro xc hsz)))
 have HWF:=Lib.hid (show ∀ n0:Nat,n0=w.heap.size->True from fun _ _=>trivial)
 clear hK hres hfl hpl ra rb rc xa xb xc hsz hx hy
 unfold planV
 unfold planC plan0 at HW
 go_enter Tryz.func23,Tryz.ntmps23
 go_wp2_with fail
 have h3:=HW.out.2.2.2
 have hr4:=rowNew (((w.alloc (.cells (planC x).toArray 45)).alloc (.cells (planC y).toArray 45)).alloc (.cells (planC plan0).toArray 45)) 96 [.func (.func 61) #[] #[.pointer (some ⟨w.heap.size,0,none⟩),.pointer (some ⟨w.heap.size+1,0,none⟩)],.func (.func 64) #[] #[.pointer (some ⟨w.heap.size,0,none⟩),.pointer (some ⟨w.heap.size+1,0,none⟩)],.func (.func 66) #[] #[.pointer (some ⟨w.heap.size,0,none⟩),.pointer (some ⟨w.heap.size+1,0,none⟩)],.func (.func 68) #[] #[.pointer (some ⟨w.heap.size,0,none⟩),.pointer (some ⟨w.heap.size+1,0,none⟩)],.func (.func 69) #[] #[.pointer (some ⟨w.heap.size,0,none⟩),.pointer (some ⟨w.heap.size+1,0,none⟩)],.func (.func 71) #[] #[.pointer (some ⟨w.heap.size,0,none⟩),.pointer (some ⟨w.heap.size+1,0,none⟩)],.func (.func 72) #[] #[.pointer (some ⟨w.heap.size,0,none⟩),.pointer (some ⟨w.heap.size+1,0,none⟩)],.func (.func 73) #[] #[.pointer (some ⟨w.heap.size,0,none⟩),.pointer (some ⟨w.heap.size+1,0,none⟩)],.func (.func 74) #[] #[.pointer (some ⟨w.heap.size,0,none⟩),.pointer (some ⟨w.heap.size+1,0,none⟩)]]
 have x34:=(Ext.refl (((w.alloc (.cells (planC x).toArray 45)).alloc (.cells (planC y).toArray 45)).alloc (.cells (planC plan0).toArray 45))).alloc (.cells ([.func (.func 61) #[] #[.pointer (some ⟨w.heap.size,0,none⟩),.pointer (some ⟨w.heap.size+1,0,none⟩)],.func (.func 64) #[] #[.pointer (some ⟨w.heap.size,0,none⟩),.pointer (some ⟨w.heap.size+1,0,none⟩)],.func (.func 66) #[] #[.pointer (some ⟨w.heap.size,0,none⟩),.pointer (some ⟨w.heap.size+1,0,none⟩)],.func (.func 68) #[] #[.pointer (some ⟨w.heap.size,0,none⟩),.pointer (some ⟨w.heap.size+1,0,none⟩)],.func (.func 69) #[] #[.pointer (some ⟨w.heap.size,0,none⟩),.pointer (some ⟨w.heap.size+1,0,none⟩)],.func (.func 71) #[] #[.pointer (some ⟨w.heap.size,0,none⟩),.pointer (some ⟨w.heap.size+1,0,none⟩)],.func (.func 72) #[] #[.pointer (some ⟨w.heap.size,0,none⟩),.pointer (some ⟨w.heap.size+1,0,none⟩)],.func (.func 73) #[] #[.pointer (some ⟨w.heap.size,0,none⟩),.pointer (some ⟨w.heap.size+1,0,none⟩)],.func (.func 74) #[] #[.pointer (some ⟨w.heap.size,0,none⟩),.pointer (some ⟨w.heap.size+1,0,none⟩)]]:List Value).toArray 96)
 rw [show (((w.alloc (.cells (planC x).toArray 45)).alloc (.cells (planC y).toArray 45)).alloc (.cells (planC plan0).toArray 45)).heap.size=w.heap.size+1+1+1 from by simp] at hr4
 refine (HT.out _ (HW.out.1.ext x34) _ hr4).mono ?_
 rintro e w2 ⟨rfl,hx2⟩
 have hx4:=x34.trans hx2
 have HA:=Lib.hid (And.intro (HW.out.1.ext hx4) (And.intro (HW.out.2.1.ext hx4) (HW.out.2.2.1.trans hx4)))
 clear hr4 x34 hx2 hx4 HT h3
 have pb:=HA.out.1.2
 have pa:=HA.out.1.1
 have pc:=HA.out.2.1
 unfold planC at pa pb
 obtain⟨⟨a0,a1,a2,a3⟩,a4,a5,a6,a7⟩:=pa.p8 rfl
 obtain⟨⟨b0,b1,b2,b3⟩,b4,b5,b6,b7⟩:=pb.p8 rfl
 obtain⟨⟨c0,c1,c2,c3⟩,c4,c5,c6,c7⟩:=pc.p8 rfl
 obtain⟨⟨f0,f1,f2,f3⟩,f4,f5,f6,f7⟩:=pc.f8
 clear HW pa pb pc
 by_cases hlt:K < 0
 ·have HK:=Lib.hid (HRS.out.trans (if_pos hlt))
  go_wp2
  clear a0 a1 a2 a3 a4 a5 a6 a7 b0 b1 b2 b3 b4 b5 b6 b7 c0 c1 c2 c3 c4 c5 c6 c7 f0 f1 f2 f3 f4 f5 f6 f7
  have r9:=put8_row (a0:=St y.keeper) (a1:=U y.round) (a2:=St y.live) (a3:=St y.by_) (a4:=U y.cap) (a5:=St y.owner) (a6:=U y.base) (a7:=.bool y.done) HA.out.2.1
  have x9:=put8_ext (g:=w.heap.size+1+1) (a0:=St y.keeper) (a1:=U y.round) (a2:=St y.live) (a3:=St y.by_) (a4:=U y.cap) (a5:=St y.owner) (a6:=U y.base) (a7:=.bool y.done) HA.out.2.2 (by omega)
  change bodyPost _ _ _ _ _ (put8 w2 (w.heap.size+1+1) (St y.keeper) (U y.round) (St y.live) (St y.by_) (U y.cap) (St y.owner) (U y.base) (.bool y.done))
  generalize put8 w2 (w.heap.size+1+1) (St y.keeper) (U y.round) (St y.live) (St y.by_) (U y.cap) (St y.owner) (U y.base) (.bool y.done)=W9 at *
  obtain⟨⟨g0,g1,g2,g3⟩,g4,g5,g6,g7⟩:=r9.p8 rfl
  refine bodyPost_ret (v:=planV y) (by simp [results,Tryz.f23,go_sem,g0,g1,g2,g3,g4,g5,g6,g7,planV]) rfl ?_
  exact⟨by rw [HK.out];rfl,x9⟩
 ·have HK:=Lib.hid (HRS.out.trans (if_neg hlt))
  go_wp2
  clear a0 a1 a2 a3 a4 a5 a6 a7 b0 b1 b2 b3 b4 b5 b6 b7 c0 c1 c2 c3 c4 c5 c6 c7 f0 f1 f2 f3 f4 f5 f6 f7
  have r9:=put8_row (a0:=St x.keeper) (a1:=U x.round) (a2:=St x.live) (a3:=St x.by_) (a4:=U x.cap) (a5:=St x.owner) (a6:=U x.base) (a7:=.bool x.done) HA.out.2.1
  have x9:=put8_ext (g:=w.heap.size+1+1) (a0:=St x.keeper) (a1:=U x.round) (a2:=St x.live) (a3:=St x.by_) (a4:=U x.cap) (a5:=St x.owner) (a6:=U x.base) (a7:=.bool x.done) HA.out.2.2 (by omega)
  change bodyPost _ _ _ _ _ (put8 w2 (w.heap.size+1+1) (St x.keeper) (U x.round) (St x.live) (St x.by_) (U x.cap) (St x.owner) (U x.base) (.bool x.done))
  generalize put8 w2 (w.heap.size+1+1) (St x.keeper) (U x.round) (St x.live) (St x.by_) (U x.cap) (St x.owner) (U x.base) (.bool x.done)=W9 at *
  obtain⟨⟨g0,g1,g2,g3⟩,g4,g5,g6,g7⟩:=r9.p8 rfl
  refine bodyPost_ret (v:=planV x) (by simp [results,Tryz.f23,go_sem,g0,g1,g2,g3,g4,g5,g6,g7,planV]) rfl ?_
  exact⟨by rw [HK.out];rfl,x9⟩
end
end Go.Proofs.YtblkikjmocnllaaGreatDoor
