/- Laws. -/
import Derived.Test.YtblkikjmocnllaaGreatDoorQz20
import Derived.Test.YtblkikjmocnllaaGreatDoorQz22
import Derived.Test.YtblkikjmocnllaaGreatDoorQz15
set_option linter.unusedVariables false
set_option linter.unusedSimpArgs false
set_option maxRecDepth 100000
set_option maxHeartbeats 40000000
namespace Go.Proofs.YtblkikjmocnllaaGreatDoor
section
def vIn (l:List Mbr):Nat->Str->Bool
 | 0,_=>false
 | n+1,p=>match atP l (parP p) with
  | none=>false
  | some x=>if vIn l n (parP p) then decide (1<=numP p) else cutsM x p
def voidIn (l:List Mbr) (p:Str):Bool:=vIn l 8 p
def vset (l:List Mbr) (m:Mbr):Mbr:=if voidIn l m.path then { m with status:=4,cut:=1 } else m
def voidedM (l:List Mbr):List Mbr:=l.map (vset l)
def leftM (l:List Mbr):List Mbr:=l.filter fun m=>!forgottenM l m.path
def keepW (l:List Mbr) (w:Word):Bool:=match atP l w.of with
 | some x=>decide (x.status=4)
 | none=>false
def wordsM (l:List Mbr) (m:Mbr):Mbr:={ m with words:=m.words.filter (keepW l) }
def bareM (l:List Mbr):List Mbr:=(leftM (voidedM l)).map (wordsM (leftM (voidedM l)))
theorem vset_path (l:List Mbr) (m:Mbr):(vset l m).path=m.path:=by unfold vset;split <;> rfl
theorem numP_le {p:Str} (h:deepP p < 2):numP p=0:=by unfold numP;rw [if_pos h]
theorem cutsM_short {x:Mbr} {p:Str} (h:deepP p < 2):cutsM x p=false:=by
 unfold cutsM
 rw [numP_le h]
 by_cases h1:x.status=4 <;> by_cases h2:0 < x.cut <;> simp [h1,h2]
theorem vIn_short (l:List Mbr) {p:Str} (h:deepP p < 2) (n:Nat):vIn l n p=false:=by
 cases n with
 | zero=>rfl
 | succ n =>
  unfold vIn
  cases atP l (parP p) with
  | none=>rfl
  | some x=>simp [cutsM_short h,numP_le h]
theorem vIn_more (l:List Mbr):∀ (n:Nat) (p:Str),deepP p<=n->vIn l n p=vIn l (n+1) p
 | 0,p,h=>by rw [vIn_short l (by omega),vIn_short l (by omega)]
 | n+1,p,h=>by
  have ih:=vIn_more l n (parP p) (by rw [parP_deep];omega)
  unfold vIn
  rw [<- ih]
theorem voidIn_step (l:List Mbr) (p:Str):voidIn l p=match atP l (parP p) with
  | none=>false
  | some x=>if voidIn l (parP p) then decide (1<=numP p) else cutsM x p:=by
 have h7:deepP (parP p)<=7:=by rw [parP_deep];have:=splitP_len p;unfold deepP;omega
 have e:=vIn_more l 7 (parP p) h7
 unfold voidIn
 conv=>lhs;unfold vIn
 rw [e]
theorem cuts_vset (l:List Mbr) (x:Mbr) (p:Str) (hx:x.path=parP p):cutsM (vset l x) p=if voidIn l (parP p) then decide (1<=numP p) else cutsM x p:=by
 unfold vset
 rw [hx]
 split
 ·unfold cutsM
  simp
  omega
 ·rfl
def partV (l:List Mbr) (S:List Int):List Mbr:=l.mapIdx fun j m=>if (j:Int) ∈ S then vset l m else m
theorem partV_nil (l:List Mbr):partV l []=l:=by
 unfold partV
 apply List.ext_getElem?
 intro i
 simp
theorem partV_len (l:List Mbr) (S:List Int):(partV l S).length=l.length:=by simp [partV]
theorem partV_at {l:List Mbr} {S:List Int} {j:Nat} {x:Mbr} (h:l[j]? = some x):(partV l S)[j]? = some (if (j:Int) ∈ S then vset l x else x):=by
 unfold partV
 rw [List.getElem?_mapIdx,h]
 rfl
theorem partV_path (l:List Mbr) (S:List Int) (p:Str):idxP (partV l S) p=idxP l p:=by
 unfold idxP partV
 have:∀ (l:List Mbr) (g:Nat->Mbr->Mbr),(∀ j m,(g j m).path=m.path)->(l.mapIdx g).findIdx? (fun m=>decide (m.path=p))=l.findIdx? (fun m=>decide (m.path=p)):=by
  intro l
  induction l with
  | nil=>intros;rfl
  | cons a l ih =>
   intro g hg
   rw [List.mapIdx_cons,List.findIdx?_cons,List.findIdx?_cons,hg 0 a,ih _ (fun j m=>hg (j+1) m)]
 refine this l _ fun j m=>?_
 split
 ·exact vset_path l m
 ·rfl
theorem partV_set {l:List Mbr} {S:List Int} {i:Nat} {x:Mbr} (h:l[i]? = some x):(partV l S).set i (vset l x)=partV l (S++[(i:Int)]):=by
 apply List.ext_getElem?
 intro j
 by_cases hj:j < l.length
 ·obtain⟨y,hy⟩:∃ y,l[j]? = some y:=⟨_,List.getElem?_eq_getElem hj⟩
  rw [partV_at hy,List.getElem?_set,partV_at hy]
  by_cases e:i=j
  ·subst e
   rw [h] at hy
   cases hy
   simp [partV_len,hj]
  ·have:¬ ((j:Int)=i):=by omega
   simp [e,this]
 ·rw [List.getElem?_eq_none (by simp [partV_len];omega),List.getElem?_eq_none (by simp [partV_len];omega)]
theorem partV_skip {l:List Mbr} {S:List Int} {i:Nat} {x:Mbr} (h:l[i]? = some x) (hv:vset l x=x) (hn:(i:Int) ∉ S):partV l (S++[(i:Int)])=partV l S:=by
 rw [<- partV_set h,hv]
 apply List.ext_getElem?
 intro j
 rw [List.getElem?_set]
 split
 ·rename_i e
  subst e
  rw [partV_len,if_pos (List.getElem?_eq_some_iff.1 h).1,partV_at h,if_neg hn]
 ·rfl
theorem partV_all {l:List Mbr} {S:List Int} (h:∀ j:Nat,j < l.length->(j:Int) ∈ S):partV l S=voidedM l:=by
 apply List.ext_getElem?
 intro j
 by_cases hj:j < l.length
 ·obtain⟨y,hy⟩:∃ y,l[j]? = some y:=⟨_,List.getElem?_eq_getElem hj⟩
  rw [partV_at hy,if_pos (h j hj),voidedM,List.getElem?_map,hy]
  rfl
 ·rw [List.getElem?_eq_none (by simp [partV_len];omega),List.getElem?_eq_none (by simp [voidedM];omega)]
def keyB (l:List Mbr) (i:Int):Nat:=match l[i.toNat]? with
 | some x=>deepP x.path
 | none=>0
theorem keyB_at {l:List Mbr} {i:Nat} {x:Mbr} (h:l[i]? = some x):keyB l i=deepP x.path:=by
 unfold keyB
 rw [Int.toNat_natCast,h]
theorem part_void {l:List Mbr} {A B:List Int} {i:Nat} {x:Mbr} (hs:Srt (keyB l) (A++(i:Int) :: B)) (hall:∀ j:Nat,j < l.length->(j:Int) ∈ A++(i:Int) :: B) (hx:l[i]? = some x) :
  voidM (partV l A) x.path=voidIn l x.path:=by
 rw [voidIn_step]
 unfold voidM atP
 rw [partV_path]
 cases hi:idxP l (parP x.path) with
 | none=>rfl
 | some j =>
  obtain⟨y,hy,hyp,hjl,-,-⟩:=idx_some hi
  unfold atP at hy
  rw [hi] at hy
  have hy':l[j]? = some y:=hy
  simp only [Option.bind_some]
  rw [partV_at hy',hy']
  simp only
  by_cases h2:deepP x.path < 2
  ·rw [cutsM_short h2,cutsM_short h2,numP_le h2]
   simp
  ·have hlt:keyB l (j:Int) < keyB l (i:Int):=by
    rw [keyB_at hy',keyB_at hx,hyp,parP_deep]
    omega
   rw [if_pos (srt_before hs rfl (hall j hjl) hlt)]
   exact cuts_vset l y _ hyp
end
section
open Go.RowKit Go.Shelf
def chkF {α:Type} (ok:α->Bool) (le:α->α->Bool):Option α->List α->Bool
 | _,[]=>true
 | none,x :: r=>ok x && chkF ok le (some x) r
 | some t,x :: r=>ok x && le t x && chkF ok le (some x) r
theorem chkF_bad {α:Type} {ok:α->Bool} {le:α->α->Bool} {p:Option α} {x:α} {r:List α} (h:ok x=false):chkF ok le p (x :: r)=false:=by cases p <;> simp [chkF,h]
theorem chkF_less {α:Type} {ok:α->Bool} {le:α->α->Bool} {t x:α} {r:List α} (h:le t x=false):chkF ok le (some t) (x :: r)=false:=by simp [chkF,h]
theorem chkF_one {α:Type} {ok:α->Bool} {le:α->α->Bool} {x:α} {r:List α} (h:ok x=true):chkF ok le none (x :: r)=chkF ok le (some x) r:=by simp [chkF,h]
theorem chkF_on {α:Type} {ok:α->Bool} {le:α->α->Bool} {t x:α} {r:List α} (h:ok x=true) (h2:le t x=true):chkF ok le (some t) (x :: r)=chkF ok le (some x) r:=by simp [chkF,h,h2]
def FieldsM (x:Mbr):Prop:=(1<=x.status/\x.status<=4)/\(0<=x.kids/\x.kids<=1073741824)/\(0<=x.cut/\x.cut<=1073741825/\(x.cut<=0 ∨ x.status=4))/\x.last<=281474976710656/\(x.last=0 ∨ 3<=x.status)
instance (x:Mbr):Decidable (FieldsM x):=by unfold FieldsM;infer_instance
def roundM (n:Nat):Bool:=decide (1<=n) && decide (n<=281474976710656)
def wordOk (x:Word):Bool:=(x.keeper.isEmpty && decide (x.round=0) || underP x.of x.keeper && roundM x.round) && decide (x.has<=281474976710656) && decide (x.cap<=281474976710656) && (decide (x.cap=0) || x.agreed)
theorem round_any (n:Nat) (w:World):Calls Tryz.prog 122 #[U n] w fun e w'=>e=.returned (.bool (roundM n))/\w'=w:=by
 by_cases h1:1<=n
 case neg =>
  have e1:¬ (n:Int) ≥ 1:=by omega
  have HF:=Lib.hid (show roundM n=false by unfold roundM;rw [decide_eq_false h1];rfl)
  clear h1
  go_enter Tryz.func122,Tryz.ntmps122
  go_wp2_with fail
  go_ret
  exact⟨by rw [HF.out];rfl,rfl⟩
 have e1:(n:Int) ≥ 1:=by omega
 have HF:=Lib.hid (show roundM n=decide ((n:Int)<=281474976710656) by unfold roundM;rw [decide_eq_true h1,Bool.true_and,decide_eq_decide];omega)
 clear h1
 go_enter Tryz.func122,Tryz.ntmps122
 go_wp2_with fail
 go_ret
 exact⟨by rw [HF.out];rfl,rfl⟩
theorem fields_any (x:Mbr) {A1 A2:Option Addr} {n1 c1 n2 c2:Nat} (w:World):Calls Tryz.prog 53 #[mbrV x (.slice A1 n1 c1) (.slice A2 n2 c2)] w fun e w'=>e=.returned (.bool (decide (FieldsM x)))/\Ext w w':=by
 have r1:=rowNew w 48 (mbrC x (.slice A1 n1 c1) (.slice A2 n2 c2))
 have hx:=(Ext.refl w).alloc (.cells (mbrC x (.slice A1 n1 c1) (.slice A2 n2 c2)).toArray 48)
 have k1:=r1.cell (j:=1) rfl
 have k2:=r1.cell (j:=2) rfl
 have k3:=r1.cell (j:=3) rfl
 have k4:=r1.cell (j:=4) rfl
 unfold mbrV
 unfold mbrC at r1 hx k1 k2 k3 k4
 clear r1
 by_cases h1:(x.status:Int) < 1
 case pos =>
  have HF:=Lib.hid (show decide (FieldsM x)=false from decide_eq_false (by unfold FieldsM;omega))
  go_enter Tryz.func53,Tryz.ntmps53
  go_wp2_with fail
  go_ret
  exact⟨by rw [HF.out];rfl,hx⟩
 by_cases h2:(x.status:Int) > 4
 case pos =>
  have HF:=Lib.hid (show decide (FieldsM x)=false from decide_eq_false (by unfold FieldsM;omega))
  go_enter Tryz.func53,Tryz.ntmps53
  go_wp2_with fail
  go_ret
  exact⟨by rw [HF.out];rfl,hx⟩
 by_cases h3:x.kids < 0
 case pos =>
  have HF:=Lib.hid (show decide (FieldsM x)=false from decide_eq_false (by unfold FieldsM;omega))
  go_enter Tryz.func53,Tryz.ntmps53
  go_wp2_with fail
  go_ret
  exact⟨by rw [HF.out];rfl,hx⟩
 by_cases h4:x.kids > 1073741824
 case pos =>
  have HF:=Lib.hid (show decide (FieldsM x)=false from decide_eq_false (by unfold FieldsM;omega))
  go_enter Tryz.func53,Tryz.ntmps53
  go_wp2_with fail
  go_ret
  exact⟨by rw [HF.out];rfl,hx⟩
 by_cases h5:x.cut < 0
 case pos =>
  have HF:=Lib.hid (show decide (FieldsM x)=false from decide_eq_false (by unfold FieldsM;omega))
  go_enter Tryz.func53,Tryz.ntmps53
  go_wp2_with fail
  go_ret
  exact⟨by rw [HF.out];rfl,hx⟩
 by_cases h6:x.cut > 1073741825
 case pos =>
  have HF:=Lib.hid (show decide (FieldsM x)=false from decide_eq_false (by unfold FieldsM;omega))
  go_enter Tryz.func53,Tryz.ntmps53
  go_wp2_with fail
  go_ret
  exact⟨by rw [HF.out];rfl,hx⟩
 by_cases h7:x.cut > 0
 case pos =>
  by_cases h8:x.status=4
  case neg =>
   have e8:((x.status:Int) != 4)=true:=by rw [bne_iff_ne];omega
   have HF:=Lib.hid (show decide (FieldsM x)=false from decide_eq_false (by unfold FieldsM;omega))
   clear h8
   go_enter Tryz.func53,Tryz.ntmps53
   go_wp2_with fail
   go_ret
   exact⟨by rw [HF.out];rfl,hx⟩
  have e8:((x.status:Int) != 4)=false:=by rw [h8];rfl
  by_cases h9:(x.last:Int) > 281474976710656
  case pos =>
   have HF:=Lib.hid (show decide (FieldsM x)=false from decide_eq_false (by unfold FieldsM;omega))
   clear h8
   go_enter Tryz.func53,Tryz.ntmps53
   go_wp2_with fail
   go_ret
   exact⟨by rw [HF.out];rfl,hx⟩
  have e11:¬ (x.status:Int) < 3:=by omega
  have HF:=Lib.hid (show decide (FieldsM x)=true from decide_eq_true (by unfold FieldsM;omega))
  clear h8
  by_cases h10:0 < x.last
  case pos =>
   go_enter Tryz.func53,Tryz.ntmps53
   go_wp2_with fail
   go_ret
   exact⟨by rw [HF.out];rfl,hx⟩
  go_enter Tryz.func53,Tryz.ntmps53
  go_wp2_with fail
  go_ret
  exact⟨by rw [HF.out];rfl,hx⟩
 by_cases h9:(x.last:Int) > 281474976710656
 case pos =>
  have HF:=Lib.hid (show decide (FieldsM x)=false from decide_eq_false (by unfold FieldsM;omega))
  go_enter Tryz.func53,Tryz.ntmps53
  go_wp2_with fail
  go_ret
  exact⟨by rw [HF.out];rfl,hx⟩
 by_cases h10:0 < x.last
 case pos =>
  by_cases h11:(x.status:Int) < 3
  case pos =>
   have HF:=Lib.hid (show decide (FieldsM x)=false from decide_eq_false (by unfold FieldsM;omega))
   go_enter Tryz.func53,Tryz.ntmps53
   go_wp2_with fail
   go_ret
   exact⟨by rw [HF.out];rfl,hx⟩
  have HF:=Lib.hid (show decide (FieldsM x)=true from decide_eq_true (by unfold FieldsM;omega))
  go_enter Tryz.func53,Tryz.ntmps53
  go_wp2_with fail
  go_ret
  exact⟨by rw [HF.out];rfl,hx⟩
 have HF:=Lib.hid (show decide (FieldsM x)=true from decide_eq_true (by unfold FieldsM;omega))
 go_enter Tryz.func53,Tryz.ntmps53
 go_wp2_with fail
 go_ret
 exact⟨by rw [HF.out];rfl,hx⟩
theorem word_any (x:Word) (h1:x.of.length < 4611686018427387904) (h2:x.keeper.length < 4611686018427387904) (w:World):Calls Tryz.prog 124 #[wordV x] w fun e w'=>e=.returned (.bool (wordOk x))/\Ext w w':=by
 have r1:=rowNew w 71 (wordC x)
 have hx:=(Ext.refl w).alloc (.cells (wordC x).toArray 71)
 have HU:=Lib.hid (under_any x.of x.keeper h1 h2)
 have HR:=Lib.hid (round_any x.round)
 have HKS:=Lib.hid (fun (W:World) (he:Ext (w.alloc (.cells (wordC x).toArray 71)) W)=>(show W.cell? ⟨w.heap.size,0,none⟩=some (St x.of)/\W.cell? ⟨w.heap.size,1,none⟩=some (U x.has)/\W.cell? ⟨w.heap.size,2,none⟩=some (St x.keeper)/\W.cell? ⟨w.heap.size,3,none⟩=some (U x.round)/\W.cell? ⟨w.heap.size,4,none⟩=some (.bool x.agreed)/\W.cell? ⟨w.heap.size,5,none⟩=some (U x.cap) from ⟨(r1.ext he).cell (j:=0) rfl,(r1.ext he).cell (j:=1) rfl,(r1.ext he).cell (j:=2) rfl,(r1.ext he).cell (j:=3) rfl,(r1.ext he).cell (j:=4) rfl,(r1.ext he).cell (j:=5) rfl⟩))
 obtain⟨k0,k1,k2,k3,k4,k5⟩:=HKS.out _ (Ext.refl _)
 obtain⟨K,hK⟩:∃ K,wordOk x=K:=⟨_,rfl⟩
 rw [hK]
 have HK:=Lib.hid hK
 clear r1 h1 h2 hK
 unfold wordOk at HK
 unfold wordV
 unfold wordC at hx HKS k0 k1 k2 k3 k4 k5
 cases ek:x.keeper.isEmpty with
 | true =>
  rw [ek] at HK
  by_cases er:x.round=0
  case pos =>
   have e4:((x.round:Int) == 0)=true:=by rw [er];rfl
   rw [decide_eq_true er,Bool.and_true,Bool.true_or,Bool.true_and] at HK
   clear er
   by_cases t1:(x.has:Int)<=281474976710656
   case neg =>
    have HF:=Lib.hid (show false=K by rw [<- HK.out,decide_eq_false (show ¬ x.has<=281474976710656 by omega)];simp)
    clear HK
    go_enter Tryz.func124,Tryz.ntmps124
    go_wp2_with fail
    go_ret
    exact⟨by rw [<- HF.out];rfl,hx⟩
   by_cases t2:(x.cap:Int)<=281474976710656
   case neg =>
    have HF:=Lib.hid (show false=K by rw [<- HK.out,decide_eq_false (show ¬ x.cap<=281474976710656 by omega)];simp)
    clear HK
    go_enter Tryz.func124,Tryz.ntmps124
    go_wp2_with fail
    go_ret
    exact⟨by rw [<- HF.out];rfl,hx⟩
   by_cases t3:x.cap=0
   case pos =>
    have e3:((x.cap:Int) == 0)=true:=by rw [t3];rfl
    have HF:=Lib.hid (show true=K by rw [<- HK.out,decide_eq_true (show x.has<=281474976710656 by omega),decide_eq_true (show x.cap<=281474976710656 by omega),decide_eq_true t3];simp)
    clear HK t3
    go_enter Tryz.func124,Tryz.ntmps124
    go_wp2_with fail
    go_ret
    exact⟨by rw [<- HF.out];rfl,hx⟩
   have e3:((x.cap:Int) == 0)=false:=by rw [beq_eq_false_iff_ne];omega
   have HF:=Lib.hid (show x.agreed=K by rw [<- HK.out,decide_eq_true (show x.has<=281474976710656 by omega),decide_eq_true (show x.cap<=281474976710656 by omega),decide_eq_false t3];simp)
   clear HK t3
   go_enter Tryz.func124,Tryz.ntmps124
   go_wp2_with fail
   go_ret
   exact⟨by rw [<- HF.out];rfl,hx⟩
  have e4:((x.round:Int) == 0)=false:=by rw [beq_eq_false_iff_ne];omega
  have ekn:x.keeper = []:=by simpa using ek
  have hu:underP x.of x.keeper=false:=by rw [ekn];unfold underP;rw [show deepP []=0 by unfold deepP;rw [splitP_nil];rfl];rfl
  rw [hu] at HU HK
  have HF:=Lib.hid (show false=K by rw [<- HK.out,decide_eq_false er];simp)
  clear er HK ekn hu
  go_enter Tryz.func124,Tryz.ntmps124
  go_wp2_with fail
  refine (HU.out _).mono ?_
  rintro e w1 ⟨rfl,hx1⟩
  obtain⟨k0,k1,k2,k3,k4,k5⟩:=HKS.out w1 hx1
  go_wp2_with fail
  go_ret
  exact⟨by rw [<- HF.out];rfl,hx.trans hx1⟩
 | false =>
  rw [ek] at HK
  cases hu:underP x.of x.keeper with
  | false =>
   rw [hu] at HU HK
   have HF:=Lib.hid (show false=K by rw [<- HK.out];simp)
   clear HK hu
   go_enter Tryz.func124,Tryz.ntmps124
   go_wp2_with fail
   refine (HU.out _).mono ?_
   rintro e w1 ⟨rfl,hx1⟩
   obtain⟨k0,k1,k2,k3,k4,k5⟩:=HKS.out w1 hx1
   go_wp2_with fail
   go_ret
   exact⟨by rw [<- HF.out];rfl,hx.trans hx1⟩
  | true =>
   rw [hu] at HU HK
   clear hu
   cases hr:roundM x.round with
   | false =>
    rw [hr] at HR HK
    have HF:=Lib.hid (show false=K by rw [<- HK.out];simp)
    clear HK hr
    go_enter Tryz.func124,Tryz.ntmps124
    go_wp2_with fail
    refine (HU.out _).mono ?_
    rintro e w1 ⟨rfl,hx1⟩
    obtain⟨k0,k1,k2,k3,k4,k5⟩:=HKS.out w1 hx1
    go_wp2_with fail
    refine (HR.out _).mono ?_
    rintro e w2 ⟨rfl,rfl⟩
    go_wp2_with fail
    go_ret
    exact⟨by rw [<- HF.out];rfl,hx.trans hx1⟩
   | true =>
    rw [hr] at HR HK
    rw [Bool.false_and,Bool.true_and,Bool.or_true,Bool.true_and] at HK
    clear hr
    by_cases t1:(x.has:Int)<=281474976710656
    case neg =>
     have HF:=Lib.hid (show false=K by rw [<- HK.out,decide_eq_false (show ¬ x.has<=281474976710656 by omega)];simp)
     clear HK
     go_enter Tryz.func124,Tryz.ntmps124
     go_wp2_with fail
     refine (HU.out _).mono ?_
     rintro e w1 ⟨rfl,hx1⟩
     obtain⟨k0,k1,k2,k3,k4,k5⟩:=HKS.out w1 hx1
     go_wp2_with fail
     refine (HR.out _).mono ?_
     rintro e w2 ⟨rfl,rfl⟩
     go_wp2_with fail
     go_ret
     exact⟨by rw [<- HF.out];rfl,hx.trans hx1⟩
    by_cases t2:(x.cap:Int)<=281474976710656
    case neg =>
     have HF:=Lib.hid (show false=K by rw [<- HK.out,decide_eq_false (show ¬ x.cap<=281474976710656 by omega)];simp)
     clear HK
     go_enter Tryz.func124,Tryz.ntmps124
     go_wp2_with fail
     refine (HU.out _).mono ?_
     rintro e w1 ⟨rfl,hx1⟩
     obtain⟨k0,k1,k2,k3,k4,k5⟩:=HKS.out w1 hx1
     go_wp2_with fail
     refine (HR.out _).mono ?_
     rintro e w2 ⟨rfl,rfl⟩
     go_wp2_with fail
     go_ret
     exact⟨by rw [<- HF.out];rfl,hx.trans hx1⟩
    by_cases t3:x.cap=0
    case pos =>
     have e3:((x.cap:Int) == 0)=true:=by rw [t3];rfl
     have HF:=Lib.hid (show true=K by rw [<- HK.out,decide_eq_true (show x.has<=281474976710656 by omega),decide_eq_true (show x.cap<=281474976710656 by omega),decide_eq_true t3];simp)
     clear HK t3
     go_enter Tryz.func124,Tryz.ntmps124
     go_wp2_with fail
     refine (HU.out _).mono ?_
     rintro e w1 ⟨rfl,hx1⟩
     obtain⟨k0,k1,k2,k3,k4,k5⟩:=HKS.out w1 hx1
     go_wp2_with fail
     refine (HR.out _).mono ?_
     rintro e w2 ⟨rfl,rfl⟩
     go_wp2_with fail
     go_ret
     exact⟨by rw [<- HF.out];rfl,hx.trans hx1⟩
    have e3:((x.cap:Int) == 0)=false:=by rw [beq_eq_false_iff_ne];omega
    have HF:=Lib.hid (show x.agreed=K by rw [<- HK.out,decide_eq_true (show x.has<=281474976710656 by omega),decide_eq_true (show x.cap<=281474976710656 by omega),decide_eq_false t3];simp)
    clear HK t3
    go_enter Tryz.func124,Tryz.ntmps124
    go_wp2_with fail
    refine (HU.out _).mono ?_
    rintro e w1 ⟨rfl,hx1⟩
    obtain⟨k0,k1,k2,k3,k4,k5⟩:=HKS.out w1 hx1
    go_wp2_with fail
    refine (HR.out _).mono ?_
    rintro e w2 ⟨rfl,rfl⟩
    go_wp2_with fail
    go_ret
    exact⟨by rw [<- HF.out];rfl,hx.trans hx1⟩
def goneOk (kids:Int) (s:Span):Bool:=decide (1<=s.1) && decide (s.1 < s.2) && decide (s.2<=kids+1)
def goneLe (t s:Span):Bool:=decide (t.2 < s.1)
def goneB (x:Mbr):Bool:=chkF (goneOk x.kids) goneLe none x.gone
theorem last_snoc {α:Type} (l:List α) (x:α):(l++[x]).getLast? = some x:=by simp
theorem gone_any {S:Nat->Prop} (x:Mbr) {v1:Value} {A2:Option Addr} {n2 c2:Nat} {w:World} (h1:Sl spanT w S v1 x.gone) (hk0:0<=x.kids) (hk1:x.kids<=1073741824) (hln:x.gone.length<=4294967296) :
  Calls Tryz.prog 54 #[mbrV x v1 (.slice A2 n2 c2)] w fun e w'=>e=.returned (.bool (goneB x))/\Ext w w':=by
 have hv':=h1
 obtain⟨A,c,rfl,hc1,hc2⟩:=h1.form
 have r0:=rowNew w 48 (mbrC x (.slice A x.gone.length c) (.slice A2 n2 c2))
 have hx0:=(Ext.refl w).alloc (.cells (mbrC x (.slice A x.gone.length c) (.slice A2 n2 c2)).toArray 48)
 have HAT:=Lib.hid (fun (pre post:List Span) (m:Span) (wr:World) (h:Ext w wr) (hl:x.gone=pre++m :: post)=>span_at hv' h hl)
 unfold mbrV
 unfold mbrC at r0 hx0
 have HR:=Lib.hid (fun W (he:Ext (w.alloc (.cells #[St x.path,U8 x.status,I x.kids,I x.cut,U x.last,.slice A x.gone.length c,St x.plan.keeper,U x.plan.round,St x.plan.live,St x.plan.by_,U x.plan.cap,St x.plan.owner,U x.plan.base,.bool x.plan.done,.slice A2 n2 c2] 48)) W)=>And.intro ((r0.ext he).cell (j:=2) rfl) ((r0.ext he).cell (j:=5) rfl))
 obtain⟨q2,q5⟩:=HR.out _ (Ext.refl _)
 obtain⟨K,hK⟩:∃ K,goneB x=K:=⟨_,rfl⟩
 rw [hK]
 have HK:=Lib.hid hK
 have HX0:=Lib.hid hx0
 clear r0 h1 hv' hK hx0
 unfold goneB at HK
 generalize x.gone=G at *
 go_enter Tryz.func54,Tryz.ntmps54
 go_wp2_with fail
 generalize w.alloc (.cells #[St x.path,U8 x.status,I x.kids,I x.cut,U x.last,.slice A G.length c,St x.plan.keeper,U x.plan.round,St x.plan.live,St x.plan.by_,U x.plan.cap,St x.plan.owner,U x.plan.base,.bool x.plan.done,.slice A2 n2 c2] 48)=W0 at *
 generalize w.heap.size=gx at *
 clear q2 q5
 go_loopw [8] (fun i wr=>∃ pre post,G=pre++post/\i=I pre.length/\Hid (chkF (goneOk x.kids) goneLe pre.getLast? post=K)/\Ext W0 wr) (fun i _=>G.length - (intOf i).toNat)
 case atStart=>exact⟨[],G,rfl,rfl,Lib.hid HK.out,Ext.refl _⟩
 case round =>
  obtain⟨pre,post,hl,rfl,hch,hx⟩:=hrel
  cases post with
  | nil =>
   rw [List.append_nil] at hl
   subst hl
   have HF:=Lib.hid (show true=K from hch.out)
   clear hch
   go_wp2_with fail
   go_ret
   exact⟨by rw [<- HF.out];rfl,HX0.out.trans hx⟩
  | cons s post =>
   obtain⟨b,o,rfl,c0,c1⟩:=HAT.out pre post s wr (HX0.out.trans hx) hl
   have hlt:pre.length < G.length:=by rw [hl];simp
   have HL:=Lib.hid hl
   have hx1:=(Ext.refl wr).alloc (.cells #[I s.1,I s.2] 76)
   have r1:=rowNew wr 76 [I s.1,I s.2]
   have s0:=r1.cell (j:=0) rfl
   have s1:=r1.cell (j:=1) rfl
   have HX1:=Lib.hid ((HX0.out.trans hx).trans hx1)
   have HXR:=Lib.hid (hx.trans hx1)
   obtain⟨q2,q5⟩:=HR.out _ (hx.trans hx1)
   clear r1 hx1 hx hl
   by_cases t1:s.1 < 1
   case pos =>
    have HF:=Lib.hid (show false=K by rw [<- hch.out];symm;exact chkF_bad (by unfold goneOk;rw [decide_eq_false (show ¬ 1<=s.1 by omega)];simp))
    clear hch
    go_wp2_with fail
    generalize wr.alloc (.cells #[I s.1,I s.2] 76)=W1 at *
    go_quiet (fail)
    go_wp2
    go_ret
    exact⟨by rw [<- HF.out];rfl,HX1.out.drewN _⟩
   have e0:decide (s.1 < 1)=false:=decide_eq_false t1
   by_cases t2:s.1 ≥ s.2
   case pos =>
    have HF:=Lib.hid (show false=K by rw [<- hch.out];symm;exact chkF_bad (by unfold goneOk;rw [decide_eq_false (show ¬ s.1 < s.2 by omega)];simp))
    clear hch
    go_wp2_with fail
    generalize wr.alloc (.cells #[I s.1,I s.2] 76)=W1 at *
    go_quiet (fail)
    go_wp2
    go_ret
    exact⟨by rw [<- HF.out];rfl,HX1.out.drewN _⟩
   have e1:decide (s.1 ≥ s.2)=false:=decide_eq_false t2
   by_cases t3:s.2 > x.kids+1
   case pos =>
    have HF:=Lib.hid (show false=K by rw [<- hch.out];symm;exact chkF_bad (by unfold goneOk;rw [decide_eq_false (show ¬ s.2<=x.kids+1 by omega)];simp))
    clear hch
    go_wp2_with fail
    generalize wr.alloc (.cells #[I s.1,I s.2] 76)=W1 at *
    go_quiet (fail)
    go_wp2
    go_ret
    exact⟨by rw [<- HF.out];rfl,HX1.out.drewN _⟩
   have e2:decide (s.2 > x.kids+1)=false:=decide_eq_false t3
   have hok:goneOk x.kids s=true:=by unfold goneOk;rw [decide_eq_true (show 1<=s.1 by omega),decide_eq_true (show s.1 < s.2 by omega),decide_eq_true (show s.2<=x.kids+1 by omega)];rfl
   rcases List.eq_nil_or_concat pre with rfl | ⟨pre',t,rfl⟩
   case inl =>
    have HM:=Lib.hid (show chkF (goneOk x.kids) goneLe (some s) post=K from (chkF_one hok).symm.trans hch.out)
    simp only [List.length_nil,Nat.zero_mul,Nat.add_zero] at c0 c1 hlt ⊢
    clear hch hok
    go_wp2_with fail
    generalize wr.alloc (.cells #[I s.1,I s.2] 76)=W1 at *
    go_quiet (fail)
    go_wp2
    go_roundw
    case rel=>exact⟨[]++[s],post,by rw [HL.out];simp,by simp <;> omega,Lib.hid (by rw [last_snoc];exact HM.out),HXR.out.drewN _⟩
    case measure=>simp [intOf];omega
   obtain⟨b',o',he,p0,p1⟩:=HAT.out pre' (s :: post) t _ HX1.out (by rw [HL.out];simp)
   cases he
   rw [show (pre'.concat t).getLast? = some t by simp] at hch
   simp only [List.length_concat] at c0 c1 hlt ⊢
   have k0:(0:Int)<=(pre'.length:Int):=by omega
   have k1:((pre'.length:Int)) < (G.length:Int):=by omega
   have k2:((pre'.length:Int)+1) > 0:=by omega
   have k3:(((pre'.length+1:Nat):Int)) > 0:=by omega
   have k4:IntKind.i64.wrap ((pre'.length:Int)+1 - 1)=pre'.length:=by rw [show (pre'.length:Int)+1 - 1=pre'.length by omega];simp [IntKind.wrap,IntKind.signed,IntKind.bits];omega
   have k6:((pre'.length:Int)).toNat=pre'.length:=by omega
   by_cases t4:t.2 ≥ s.1
   case pos =>
    have HF:=Lib.hid (show false=K by rw [<- hch.out];symm;exact chkF_less (by unfold goneLe;exact decide_eq_false (by omega)))
    clear hch
    go_wp2_with fail
    generalize wr.alloc (.cells #[I s.1,I s.2] 76)=W1 at *
    go_quiet (fail)
    go_wp2
    go_ret
    exact⟨by rw [<- HF.out];rfl,HX1.out.drewN _⟩
   have e4:decide (t.2 ≥ s.1)=false:=decide_eq_false t4
   have HM:=Lib.hid (show chkF (goneOk x.kids) goneLe (some s) post=K from (chkF_on hok (by unfold goneLe;exact decide_eq_true (by omega))).symm.trans hch.out)
   clear hch hok
   go_wp2_with fail
   generalize wr.alloc (.cells #[I s.1,I s.2] 76)=W1 at *
   go_quiet (fail)
   go_wp2
   go_roundw
   case rel=>exact⟨(pre'++[t])++[s],post,by rw [HL.out];simp,by simp <;> omega,Lib.hid (by rw [last_snoc];exact HM.out),HXR.out.drewN _⟩
   case measure=>simp [intOf];omega
theorem rspans_any {S:Nat->Prop} {v:Value} {G:List Span} {k:Int} {w:World} (h1:Sl spanT w S v G) (hk0:0<=k) (hk1:k<=1073741824) (hln:G.length<=4294967296) :
  Calls Tryz.prog 94 #[v,I k] w fun e w'=>e=.returned (.bool (chkF (goneOk k) goneLe none G))/\Ext w w':=by
 have hv':=h1
 obtain⟨A,c,rfl,hc1,hc2⟩:=h1.form
 have HAT:=Lib.hid (fun (pre post:List Span) (m:Span) (wr:World) (h:Ext w wr) (hl:G=pre++m :: post)=>span_at hv' h hl)
 obtain⟨K,hK⟩:∃ K,chkF (goneOk k) goneLe none G=K:=⟨_,rfl⟩
 rw [hK]
 have HK:=Lib.hid hK
 have kw:IntKind.i64.wrap (k+1)=k+1:=by simp [IntKind.wrap,IntKind.signed,IntKind.bits];omega
 clear h1 hv' hK
 go_enter Tryz.func94,Tryz.ntmps94
 go_wp2_with fail
 go_loopw [5] (fun i wr=>∃ pre post,G=pre++post/\i=I pre.length/\Hid (chkF (goneOk k) goneLe pre.getLast? post=K)/\Ext w wr) (fun i _=>G.length - (intOf i).toNat)
 case atStart=>exact⟨[],G,rfl,rfl,Lib.hid HK.out,Ext.refl _⟩
 case round =>
  obtain⟨pre,post,hl,rfl,hch,hx⟩:=hrel
  have HX:=Lib.hid hx
  cases post with
  | nil =>
   rw [List.append_nil] at hl
   subst hl
   have HF:=Lib.hid (show true=K from hch.out)
   clear hch hx
   go_wp2_with fail
   go_ret
   exact⟨by rw [<- HF.out];rfl,HX.out⟩
  | cons s post =>
   obtain⟨b,o,rfl,c0,c1⟩:=HAT.out pre post s wr hx hl
   have hlt:pre.length < G.length:=by rw [hl];simp
   have HL:=Lib.hid hl
   clear hx hl
   by_cases t1:s.1 < 1
   case pos =>
    have HF:=Lib.hid (show false=K by rw [<- hch.out];symm;exact chkF_bad (by unfold goneOk;rw [decide_eq_false (show ¬ 1<=s.1 by omega)];simp))
    have e0:decide (s.1 < 1)=true:=decide_eq_true t1
    clear hch
    go_wp2_with fail
    go_quiet (fail)
    go_wp2
    go_ret
    exact⟨by rw [<- HF.out];rfl,HX.out.drewN _⟩
   have e0:decide (s.1 < 1)=false:=decide_eq_false t1
   by_cases t2:s.2<=s.1
   case pos =>
    have HF:=Lib.hid (show false=K by rw [<- hch.out];symm;exact chkF_bad (by unfold goneOk;rw [decide_eq_false (show ¬ s.1 < s.2 by omega)];simp))
    have e1:decide (s.2<=s.1)=true:=decide_eq_true t2
    clear hch
    go_wp2_with fail
    go_quiet (fail)
    go_wp2
    go_ret
    exact⟨by rw [<- HF.out];rfl,HX.out.drewN _⟩
   have e1:decide (s.2<=s.1)=false:=decide_eq_false t2
   by_cases t3:s.2 > k+1
   case pos =>
    have HF:=Lib.hid (show false=K by rw [<- hch.out];symm;exact chkF_bad (by unfold goneOk;rw [decide_eq_false (show ¬ s.2<=k+1 by omega)];simp))
    have e2:decide (s.2 > k+1)=true:=decide_eq_true t3
    clear hch
    go_wp2_with fail
    go_quiet (fail)
    go_wp2
    go_ret
    exact⟨by rw [<- HF.out];rfl,HX.out.drewN _⟩
   have e2:decide (s.2 > k+1)=false:=decide_eq_false t3
   have hok:goneOk k s=true:=by unfold goneOk;rw [decide_eq_true (show 1<=s.1 by omega),decide_eq_true (show s.1 < s.2 by omega),decide_eq_true (show s.2<=k+1 by omega)];rfl
   rcases List.eq_nil_or_concat pre with rfl | ⟨pre',t,rfl⟩
   case inl =>
    have HM:=Lib.hid (show chkF (goneOk k) goneLe (some s) post=K from (chkF_one hok).symm.trans hch.out)
    simp only [List.length_nil,Nat.zero_mul,Nat.add_zero] at c0 c1 hlt ⊢
    clear hch hok
    go_wp2_with fail
    go_quiet (fail)
    go_wp2
    go_roundw
    case rel=>exact⟨[]++[s],post,by rw [HL.out];simp,by simp <;> omega,Lib.hid (by rw [last_snoc];exact HM.out),HX.out.drewN _⟩
    case measure=>simp [intOf];omega
   obtain⟨b',o',he,p0,p1⟩:=HAT.out pre' (s :: post) t _ HX.out (by rw [HL.out];simp)
   cases he
   rw [show (pre'.concat t).getLast? = some t by simp] at hch
   simp only [List.length_concat] at c0 c1 hlt ⊢
   have k0:(0:Int)<=(pre'.length:Int):=by omega
   have k1:((pre'.length:Int)) < (G.length:Int):=by omega
   have k2:((pre'.length:Int)+1) > 0:=by omega
   have k3:(((pre'.length+1:Nat):Int)) > 0:=by omega
   have k4:IntKind.i64.wrap ((pre'.length:Int)+1 - 1)=pre'.length:=by rw [show (pre'.length:Int)+1 - 1=pre'.length by omega];simp [IntKind.wrap,IntKind.signed,IntKind.bits];omega
   have k6:((pre'.length:Int)).toNat=pre'.length:=by omega
   by_cases t4:s.1<=t.2
   case pos =>
    have HF:=Lib.hid (show false=K by rw [<- hch.out];symm;exact chkF_less (by unfold goneLe;exact decide_eq_false (by omega)))
    have e4:decide (s.1<=t.2)=true:=decide_eq_true t4
    clear hch
    go_wp2_with fail
    go_quiet (fail)
    go_wp2
    go_ret
    exact⟨by rw [<- HF.out];rfl,HX.out.drewN _⟩
   have e4:decide (s.1<=t.2)=false:=decide_eq_false t4
   have HM:=Lib.hid (show chkF (goneOk k) goneLe (some s) post=K from (chkF_on hok (by unfold goneLe;exact decide_eq_true (by omega))).symm.trans hch.out)
   clear hch hok
   go_wp2_with fail
   go_quiet (fail)
   go_wp2
   go_roundw
   case rel=>exact⟨(pre'++[t])++[s],post,by rw [HL.out];simp,by simp <;> omega,Lib.hid (by rw [last_snoc];exact HM.out),HX.out.drewN _⟩
   case measure=>simp [intOf];omega
end
end Go.Proofs.YtblkikjmocnllaaGreatDoor
