/- Laws. -/
import Derived.Test.YtblkikjmocnllaaGreatDoorQz09
import Derived.Lib.LastIndexByte
set_option linter.unusedVariables false
set_option linter.unusedSimpArgs false
set_option maxRecDepth 100000
set_option maxHeartbeats 40000000
namespace Go.Proofs.YtblkikjmocnllaaGreatDoor
section
open Go.RowKit Go.Shelf
def uptoC (c:UInt8):Str->Option (Str × Str)
 | []=>none
 | b :: r=>match uptoC c r with
  | some (t,q)=>some (b :: t,q)
  | none=>if b=c then some ([],r) else none
theorem uptoC_none {c:UInt8}:∀ {s:Str},uptoC c s=none->c ∉ s/\splitC c s = [s]
 | [],_=>⟨by simp,rfl⟩
 | b :: r,h=>by
  unfold uptoC at h
  cases hr:uptoC c r with
  | some x=>rw [hr] at h;cases h
  | none =>
   rw [hr] at h
   simp only at h
   split at h
   ·cases h
   ·rename_i hb
    obtain⟨h1,h2⟩:=uptoC_none hr
    refine ⟨by simp [h1];exact fun e=>hb e.symm,?_⟩
    rw [splitC,if_neg hb,h2]
theorem uptoC_some {c:UInt8}:∀ {s t q:Str},uptoC c s=some (t,q)->s=t++c :: q/\c ∉ q
 | [],_,_,h=>by cases h
 | b :: r,t,q,h=>by
  unfold uptoC at h
  cases hr:uptoC c r with
  | some x =>
   obtain⟨t',q'⟩:=x
   rw [hr] at h
   simp only [Option.some.injEq,Prod.mk.injEq] at h
   obtain⟨rfl,rfl⟩:=h
   obtain⟨h1,h2⟩:=uptoC_some hr
   exact⟨by rw [h1];rfl,h2⟩
  | none =>
   rw [hr] at h
   simp only at h
   split at h
   ·rename_i hb
    simp only [Option.some.injEq,Prod.mk.injEq] at h
    obtain⟨rfl,rfl⟩:=h
    exact⟨by rw [hb];rfl,(uptoC_none hr).1⟩
   ·cases h
theorem splitC_free {c:UInt8} {s:Str} (h:c ∉ s):splitC c s = [s]:=by
 induction s with
 | nil=>rfl
 | cons b r ih =>
  simp only [List.mem_cons,not_or] at h
  rw [splitC,if_neg (fun e=>h.1 e.symm),ih h.2]
theorem splitC_last {c:UInt8} (t:Str) {q:Str} (h:c ∉ q):splitC c (t++c :: q)=splitC c t++[q]:=by
 induction t with
 | nil=>simp [splitC,splitC_free h]
 | cons b r ih =>
  rw [List.cons_append,splitC,splitC,ih]
  by_cases hb:b=c
  ·rw [if_pos hb,if_pos hb];rfl
  ·rw [if_neg hb,if_neg hb]
   cases hs:splitC c r with
   | nil=>exact absurd hs (splitC_ne c r)
   | cons f fs=>rfl
theorem last_at {c:UInt8} {t q:Str} (h:c ∉ q):Lib.lastIndexByte ⟨(t++c :: q).toArray⟩ (c.toNat:Int)=(t.length:Int):=by
 have hg:∀ j:Nat,(⟨(t++c :: q).toArray⟩:ByteArray).data[j]! = (t++c :: q)[j]!:=fun j=>List.getElem!_toArray
 have hsz:(⟨(t++c :: q).toArray⟩:ByteArray).size=t.length+1+q.length:=by simp [ByteArray.size];omega
 have ht:(t++c :: q)[t.length]! = c:=by simp
 rcases Lib.lastIndexByte_spec ⟨(t++c :: q).toArray⟩ (c.toNat:Int) with ⟨-,h1⟩ | ⟨i,hi,e,hc,h1⟩
 ·exact absurd (by rw [hg,ht]) (h1 t.length (by omega))
 ·rw [e]
  rcases Nat.lt_trichotomy i t.length with h2 | h2 | h2
  ·exact absurd (by rw [hg,ht]) (h1 t.length h2 (by omega))
  ·rw [h2]
  ·exfalso
   rw [hg] at hc
   have hc':(t++c :: q)[i]! = c:=UInt8.toNat_inj.1 (Int.ofNat_inj.1 hc)
   apply h
   obtain⟨k,rfl⟩:∃ k,i=t.length+1+k:=⟨i - t.length - 1,by omega⟩
   have hk:k < q.length:=by omega
   have:(t++c :: q)[t.length+1+k]! = q[k]:=by
    rw [List.getElem!_eq_getElem?_getD,List.getElem?_append_right (by omega),show t.length+1+k - t.length=k+1 by omega,List.getElem?_cons_succ,List.getElem?_eq_getElem hk]
    rfl
   rw [this] at hc'
   exact hc' ▸ List.getElem_mem hk
def parP (p:Str):Str:=if deepP p < 2 then [] else (uptoC 46 p).elim [] (·.1)
theorem par_form {p:Str} (h:2<=deepP p):∃ t q,p=t++46 :: q/\46 ∉ q/\parP p=t/\splitP p=splitP t++[numS q]/\splitP t ≠ []/\numS q ≠ 0:=by
 cases hu:uptoC 46 p with
 | none =>
  exfalso
  obtain⟨-,h2⟩:=uptoC_none hu
  unfold deepP splitP at h
  simp only [h2] at h
  split at h <;> simp at h
 | some x =>
  obtain⟨t,q⟩:=x
  obtain⟨h1,h2⟩:=uptoC_some hu
  have hs:=splitC_last (c:=46) t h2
  have hp:parP p=t:=by unfold parP;rw [if_neg (by omega),hu];rfl
  rw [<- h1] at hs
  have hd:=h
  unfold deepP splitP at h
  simp only [hs] at h
  split at h
  ·rename_i hc
   simp only [Bool.and_eq_true,decide_eq_true_eq,beq_iff_eq,List.map_append,List.all_append,List.map_cons,List.map_nil,List.all_cons,List.all_nil,List.length_append,List.length_cons,List.length_nil,bne_iff_ne,Bool.and_true] at hc
   obtain⟨⟨⟨c1,c2⟩,c3⟩,c4⟩:=hc
   have hne:(splitC 46 t).map numS ≠ []:=by simpa using splitC_ne 46 t
   have c4':((splitC 46 t).map numS).head? = some 1:=by
    cases hm:(splitC 46 t).map numS with
    | nil=>exact absurd hm hne
    | cons a r=>rw [hm] at c4;simpa using c4
   have e1:splitP t=(splitC 46 t).map numS:=by
    unfold splitP
    simp only [c1,c4',Bool.true_and,beq_self_eq_true,Bool.and_true]
    rw [if_pos (by simp only [decide_eq_true_eq];omega)]
   refine ⟨t,q,h1,h2,hp,?_,by rw [e1];exact hne,c2⟩
   rw [e1]
   unfold splitP
   simp only [hs,List.map_append,List.map_cons,List.map_nil]
   rw [if_pos]
   simp only [Bool.and_eq_true,decide_eq_true_eq,beq_iff_eq,List.all_append,List.all_cons,List.all_nil,List.length_append,List.length_cons,List.length_nil,bne_iff_ne,Bool.and_true]
   exact⟨⟨⟨c1,c2⟩,c3⟩,c4⟩
  ·simp at h
theorem parP_split {p:Str}:splitP (parP p)=(splitP p).dropLast:=by
 by_cases h:2<=deepP p
 ·obtain⟨t,q,-,-,hp,hs,-,-⟩:=par_form h
  rw [hp,hs]
  simp
 ·have:parP p = []:=by unfold parP;rw [if_pos (by omega)]
  rw [this]
  unfold deepP at h
  match hs:splitP p with
  | []=>rfl
  | [a]=>rfl
  | a :: b :: r=>rw [hs] at h;simp at h
theorem parP_len (p:Str):(parP p).length<=p.length:=by
 by_cases h:2<=deepP p
 ·obtain⟨t,q,h1,-,hp,-⟩:=par_form h
  rw [hp,h1];simp
 ·unfold parP;rw [if_pos (by omega)];exact Nat.zero_le _
theorem parP_deep (p:Str):deepP (parP p)=deepP p - 1:=by
 unfold deepP
 rw [parP_split,List.length_dropLast]
theorem parent_any (p:Str) (hp:p.length < 4611686018427387904) (w:World):Calls Tryz.prog 49 #[St p] w fun e w'=>e=.returned (St (parP p))/\Ext w w':=by
 have H:=Lib.hid (deep_any p hp)
 by_cases h2:deepP p < 2
 ·have HP:=Lib.hid (show parP p = [] by unfold parP;rw [if_pos h2])
  have h2':((deepP p:Nat):Int) < 2:=by omega
  clear h2
  generalize deepP p=d at *
  go_enter Tryz.func49,Tryz.ntmps49
  go_wp2_with fail
  refine (H.out _).mono ?_
  rintro e w' ⟨rfl,hx⟩
  have HX:=Lib.hid hx
  clear hx
  go_wp2
  go_ret
  exact⟨by rw [HP.out];rfl,HX.out⟩
 ·obtain⟨t,q,e1,hq,hpar,-⟩:=par_form (p:=p) (by omega)
  have HL:=Lib.hid (fun w=>Any.strings_LastIndexByte Tryz.lays149 ⟨p.toArray⟩ 46 (by simpa [ByteArray.size] using hp) w)
  have hl:=last_at (c:=46) (t:=t) hq
  rw [<- e1] at hl
  have HL:=Lib.hid (fun w=>(HL.out w).mono (R':=fun e w'=>e=.returned (I t.length)/\w'=w) (by rintro e w' ⟨rfl,rfl⟩;exact⟨by rw [<- hl];rfl,rfl⟩))
  rw [hpar]
  have hlen:p.length=t.length+1+q.length:=by rw [e1];simp;omega
  obtain⟨S,hS⟩:∃ S:ByteArray,⟨p.toArray⟩=S:=⟨_,rfl⟩
  have hz:S.size=p.length:=by rw [<- hS];simp [ByteArray.size]
  have E1:=Lib.hid (show S.extract 0 t.length=⟨t.toArray⟩ by rw [<- hS,e1];exact ext_take t (46 :: q))
  have c1:(0:Int)<=↑t.length:=by omega
  have c2:(↑t.length:Int)<=↑S.size:=by omega
  have h2':¬ ((deepP p:Nat):Int) < 2:=by omega
  rw [show St p=.string S from congrArg Value.string hS] at H ⊢
  rw [hS] at HL
  generalize deepP p=d at *
  clear hS hz hlen e1 hq hpar hl h2
  go_enter Tryz.func49,Tryz.ntmps49
  go_wp2_with fail
  refine (H.out _).mono ?_
  rintro e w' ⟨rfl,hx⟩
  have HX:=Lib.hid hx
  clear hx
  go_wp2_with fail
  refine (HL.out _).mono ?_
  rintro e w2 ⟨rfl,hw⟩
  subst hw
  go_wp2
  go_ret
  exact⟨by rw [show St t=.string (S.extract 0 t.length) from congrArg Value.string E1.out.symm];rfl,HX.out⟩
theorem splitP_nil:splitP [] = []:=by decide
theorem parP_short {p:Str} (h:p ≠ []):(parP p).length < p.length:=by
 by_cases h2:2<=deepP p
 ·obtain⟨t,q,h1,-,hp,-⟩:=par_form h2
  rw [hp,h1];simp
 ·have:parP p = []:=by unfold parP;rw [if_pos (by omega)]
  rw [this]
  exact List.length_pos_iff.2 h
def chainF:Nat->Str->List Str
 | 0,_=>[]
 | n+1,p=>if parP p = [] then [] else parP p :: chainF n (parP p)
def chainP (p:Str):List Str:=chainF p.length p
theorem chainF_more:∀ (n m:Nat) (p:Str),p.length<=n->p.length<=m->chainF n p=chainF m p
 | 0,m,p,h,_=>by
  obtain rfl:p = []:=List.eq_nil_of_length_eq_zero (by omega)
  have:parP [] = []:=by decide
  cases m with
  | zero=>rfl
  | succ m=>simp [chainF,this]
 | n+1,0,p,_,h=>by
  obtain rfl:p = []:=List.eq_nil_of_length_eq_zero (by omega)
  have:parP [] = []:=by decide
  simp [chainF,this]
 | n+1,m+1,p,h1,h2=>by
  unfold chainF
  by_cases h:parP p = []
  ·rw [if_pos h,if_pos h]
  ·rw [if_neg h,if_neg h]
   have hp:p ≠ []:=by rintro rfl;exact h (by decide)
   have:=parP_short hp
   rw [chainF_more n m (parP p) (by omega) (by omega)]
theorem chainP_step (p:Str):chainP p=if parP p = [] then [] else parP p :: chainP (parP p):=by
 unfold chainP
 cases hp:p with
 | nil=>decide
 | cons b r =>
  rw [List.length_cons,chainF]
  by_cases h:parP (b :: r) = []
  ·rw [if_pos h,if_pos h]
  ·rw [if_neg h,if_neg h]
   have:=parP_short (p:=b :: r) (by simp)
   rw [List.length_cons] at this
   rw [chainF_more r.length (parP (b :: r)).length _ (by omega) (Nat.le_refl _)]
theorem chainP_len (p:Str):(chainP p).length<=p.length:=by
 have:∀ n p,(chainF n p).length<=n:=fun n=>by
  induction n with
  | zero=>intro p;simp [chainF]
  | succ n ih =>
   intro p
   unfold chainF
   split
   ·simp
   ·have:=ih (parP p);simp;omega
 exact this _ _
def restC (p:Str):List Str:=if p = [] then [] else p :: chainP p
theorem chainP_rest (p:Str):chainP p=restC (parP p):=by rw [chainP_step];rfl
theorem info_str:(Tryz.prog.info? 9).map (fun i=>(i.zero,i.size,i.bytes))=some (some (St []),1,16):=by kernel_rfl
theorem chain_any (p:Str) (hp:p.length < 4294967296) (w:World):Calls Tryz.prog 57 #[St p] w fun e w'=>∃ v,e=.returned v/\Own w' w.heap.size 9 1 v (chainP p).length ((chainP p).map St)/\Ext w w':=by
 have H:=Lib.hid parent_any
 have HL:=chainP_len p
 have hC:=chainP_rest p
 have hps:=parP_len p
 go_enter Tryz.func57,Tryz.ntmps57
 go_wp2_with fail
 refine (H.out p (by omega) _).mono ?_
 rintro e w1 ⟨rfl,hx1⟩
 generalize parP p=a0 at *
 go_wp2
 go_loopw [3,4] (fun lv av wr=>∃ done cur,chainP p=done++restC cur/\av=St cur/\cur.length<=p.length/\Own wr w.heap.size 9 1 lv done.length (done.map St)/\Ext w wr)
  (fun _ av _=>match av with | .string s=>s.size | _=>0)
 case atStart=>exact⟨[],a0,by rw [hC];rfl,rfl,hps,Own.nil _ _ _ _ _,hx1⟩
 case round =>
  obtain⟨done,cur,hd,rfl,hl,ho,hx⟩:=hrel
  obtain⟨A,c,rfl,hnc,hcm⟩:=ho.form
  cases cur with
  | nil =>
   have HD:=Lib.hid (show chainP p=done by rw [hd];simp [restC])
   have HO:=Lib.hid ho
   have HX:=Lib.hid hx
   clear hd ho hx hC hx1
   go_wp2
   go_ret
   exact⟨_,rfl,by rw [HD.out];exact HO.out,HX.out⟩
  | cons b r =>
   have hd':chainP p=(done++[b :: r])++restC (parP (b :: r)):=by rw [hd,restC,if_neg (by simp),chainP_rest,List.append_assoc];rfl
   have hlen:done.length+1<=p.length:=by rw [hd'] at HL;simp at HL;omega
   have hsh:=parP_short (p:=b :: r) (by simp)
   have HP:=Lib.hid (H.out (b :: r) (by omega))
   have HD:=Lib.hid hd'
   clear hd hd' hC hx1
   have e0:((b :: r) != ([]:Str))=true:=by simp
   have hbase:=hx.size
   go_wp2_with (at_builtin;refine wpList_append_Own rfl (.tmp 11) (.tmp 13) 56 rfl w.heap.size 9 1 16 (St []) Tryz.underlying56 info_str rfl (by omega) _ done.length (done.map St) rfl (ho.alloc _) _ 1 1 [St (b :: r)] rfl (Src.new rfl (by intro u hu;simp at hu;subst hu;rfl)) (by omega) (by omega) (by simp;omega) ?_;intro v' w' hown hgr)
   refine (HP.out _).mono ?_
   rintro e w2 ⟨rfl,hx2⟩
   have HO:=Lib.hid ((show Own w' w.heap.size 9 1 v' (done++[b :: r]).length ((done++[b :: r]).map St) by simpa using hown).ext hx2)
   have HX:=Lib.hid ((Ext.grewOwn (hx.alloc _) hgr (ho.alloc _) (Nat.le_refl _)).trans hx2)
   have hpl:=parP_len (b :: r)
   go_wp2
   go_roundw
   case rel=>exact⟨done++[b :: r],parP (b :: r),HD.out,rfl,by omega,HO.out,HX.out⟩
   case measure=>simp [ByteArray.size] at hsh ⊢;omega
def intC (n:Nat):List Value:=[I n]
abbrev intT:Shape Nat:=flat 1 intC (fun _=>rfl) (fun _ u hu=>by simp [intC] at hu;subst hu;rfl)
theorem int_at {w w':World} {S:Nat->Prop} {A:Option Addr} {c n:Nat} {l pre post:List Nat} {x:Nat} (h:Sl intT w S (.slice A n c) l) (he:Ext w w') (hl:l=pre++x :: post) :
  ∃ b o,A=some ⟨b,o,none⟩/\w'.cell? ⟨b,o+pre.length,none⟩=some (I x):=by
 obtain⟨b,o,vs,c',hv,hS,hvs,hc⟩:=h.at_ hl
 injection hv with e1 e2 e3
 subst e1
 have h0:=hc 0 (I x) (by rw [show vs=intC x from hvs];rfl)
 refine ⟨b,o,rfl,he.cell ?_⟩
 simpa [intT,flat] using h0
theorem drewN_drewN (w:World) (a b:Nat):(w.drewN a).drewN b=w.drewN (a+b):=by simp [World.drewN,Nat.add_assoc]
def cmpL:List Nat->List Nat->Int
 | [],[]=>0
 | [],_ :: _=>-1
 | _ :: _,[]=>1
 | a :: r,b :: s=>if a < b then -1 else if b < a then 1 else cmpL r s
theorem cmpL_pre (p a b:List Nat):cmpL (p++a) (p++b)=cmpL a b:=by
 induction p with
 | nil=>rfl
 | cons x p ih=>simp [cmpL,ih]
theorem equal_int {S S':Nat->Prop} {va vb:Value} {A B:List Nat} {w:World} (ha:Sl intT w S va A) (hb:Sl intT w S' vb B) :
  Calls Tryz.prog 160 #[va,vb] w fun e w'=>e=.returned (.bool (decide (A=B)))/\∃ n,w'=w.drewN n:=by
 have ha':=ha
 have hb':=hb
 obtain⟨Aa,ca,rfl,h1,h2⟩:=ha.form
 obtain⟨Ab,cb,rfl,h3,h4⟩:=hb.form
 clear ha hb
 by_cases hlen:A.length=B.length
 ·have HE:=Lib.hid hlen
  have k0:((A.length:Int) != (B.length:Int))=false:=by simp [hlen]
  have k1:(A.length != B.length)=false:=by simp [hlen]
  have k2:((A.length:Int) == (B.length:Int))=true:=by simp [hlen]
  have HAT:=Lib.hid (fun (pre post:List Nat) (m:Nat) (wr:World) (h:Ext w wr) (hl:A=pre++m :: post)=>int_at ha' h hl)
  have HBT:=Lib.hid (fun (pre post:List Nat) (m:Nat) (wr:World) (h:Ext w wr) (hl:B=pre++m :: post)=>int_at hb' h hl)
  have hlb:A.length<=B.length:=by omega
  clear hlen ha' hb'
  go_enter Tryz.func160,Tryz.ntmps160
  go_wp2_with fail
  clear k0 k1 k2
  go_loopw [13] (fun i wr=>∃ pre pa pb,A=pre++pa/\B=pre++pb/\i=I pre.length/\∃ n,wr=w.drewN n) (fun i _=>A.length - (intOf i).toNat)
  case atStart=>exact⟨[],A,B,rfl,rfl,rfl,0,rfl⟩
  case round =>
   obtain⟨pre,pa,pb,hla,hlb2,rfl,nn,rfl⟩:=hrel
   have hx:=(Ext.refl w).drewN nn
   have hpp:pa.length=pb.length:=by have:=HE.out;rw [hla,hlb2] at this;simpa using this
   cases pa with
   | cons x pa =>
    cases pb with
    | nil=>simp at hpp
    | cons y pb =>
     obtain⟨b1,o1,rfl,hxa⟩:=HAT.out pre pa x w (Ext.refl _) hla
     obtain⟨b2,o2,rfl,hya⟩:=HBT.out pre pb y w (Ext.refl _) hlb2
     have hlt:pre.length < A.length:=by rw [hla];simp
     have hltb:pre.length < B.length:=by rw [hlb2];simp
     have HLA:=Lib.hid hla
     have HLB:=Lib.hid hlb2
     have HX:=Lib.hid hx
     clear hla hlb2 hpp hx
     by_cases hxy:x=y
     ·subst hxy
      have e0:((x:Int) != (x:Int))=false:=by simp
      go_wp2_with fail
      go_quiet (fail)
      go_wp2_with fail
      go_roundw
      case rel=>exact⟨pre++[x],pa,pb,by rw [HLA.out];simp,by rw [HLB.out];simp,by simp,_,rfl⟩
      case measure=>simp [intOf];omega
     ·have e0:((x:Int) != (y:Int))=true:=by rw [bne_iff_ne];omega
      have HF:=Lib.hid (show decide (A=B)=false by
       rw [HLA.out,HLB.out]
       simp [hxy])
      clear hxy
      go_wp2_with fail
      go_quiet (fail)
      go_wp2_with fail
      go_ret
      exact⟨by rw [HF.out];rfl,_,drewN_drewN w nn _⟩
   | nil =>
    have hb0:pb = []:=List.eq_nil_of_length_eq_zero (by simpa using hpp.symm)
    subst hb0
    rw [List.append_nil] at hla hlb2
    subst hla
    have HF:=Lib.hid (show decide (A=B)=true by rw [hlb2];simp)
    have HX:=Lib.hid hx
    clear hlb2 hx
    go_wp2_with fail
    go_ret
    exact⟨by rw [HF.out];rfl,nn,rfl⟩
 ·have k0:((A.length:Int) != (B.length:Int))=true:=by rw [bne_iff_ne];omega
  have HF:=Lib.hid (show decide (A=B)=false by simp;rintro rfl;exact hlen rfl)
  clear ha' hb' hlen
  go_enter Tryz.func160,Tryz.ntmps160
  go_wp2_with fail
  go_ret
  exact⟨by rw [HF.out];rfl,0,rfl⟩
end
end Go.Proofs.YtblkikjmocnllaaGreatDoor
