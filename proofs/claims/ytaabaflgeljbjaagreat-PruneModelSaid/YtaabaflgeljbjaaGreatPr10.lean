/- Laws. -/
import Derived.Test.YtaabaflgeljbjaaGreatPr04
import Derived.Test.YtaabaflgeljbjaaGreatPr09
import Derived.Test.YtaabaflgeljbjaaGreatPr05
set_option linter.unusedVariables false
set_option linter.unusedSimpArgs false
set_option maxRecDepth 100000
set_option maxHeartbeats 40000000
namespace Go.Proofs.YtaabaflgeljbjaaGreat
section
open Go.RowKit Go.Sort
def zbw (l:List Str):List Str:=l.mergeSort fun x y=>decide (x<=y)
theorem zh2 (l:List Str):(zbw l).length=l.length:=List.length_mergeSort _
theorem zns {α:Type}[Inhabited α](enc:α->Value)(w:World)(g:Nat)(d:Array α):putRow enc w g 0 d=putRow id w g 0 (d.map enc):=by
 unfold putRow
 congr 1
 funext cs
 unfold putCells
 apply Array.ext_getElem?
 intro i;rw[Array.getElem?_mapIdx,Array.getElem?_mapIdx]
 cases cs[i]?
 case none=>rfl
 rename_i u
 by_cases hi:i<d.size
 ·simp[hi,getElem!_pos d i hi,getElem!_pos (d.map enc) i (by simpa using hi)]
 simp[hi]
theorem zdz (l:List Str):l.flatMap strC=l.map St:=by
 induction l with
 | nil=>rfl
 | cons a r b=>simp[strC,b]
theorem zo7 {v:Value}{l:List Str}{w:World}{base:Nat}(i:Own w base 9 1 v l.length (l.flatMap strC))(E:l.length<=1099511627776) :
  Calls Tryz.prog 62 #[v] w fun e w'=>e=.returned (.tuple #[])/\Own w' base 9 1 v (zbw l).length ((zbw l).flatMap strC)/\Go.RowKit.Below base w w':=by
 rcases Nat.eq_zero_or_pos l.length with h0|h0
 ·obtain rfl:l = []:=List.eq_nil_of_length_eq_zero h0;obtain⟨A,c,rfl,-,-⟩:=i.form;have g:=Any.slices_Sort_string_none Tryz.lays190 A c w;exact Calls.mono g fun e w' ⟨z,o⟩=>⟨z,by rw[o];simpa[zbw]using i,by rw[o];exact Below.refl _ _⟩
 obtain⟨a,p,tail,rfl,k,h,C,u,t⟩:=i.row h0;have m:RowIs w a 9 (l.toArray.map St).toList tail:=by simpa[zdz]using h
 have s:=zjp m
 have r:Holds encStr w a 0 l.toArray:=fun j d=>by
  have:=s j (by simpa using d);rw[getElem!_pos (l.toArray.map St) j (by simpa using d)]at this;rw[getElem!_pos l.toArray j d]
  simpa[encStr]using this
 have g:=Any.slices_Sort_string Tryz.lays190 a 0 p l w r h.lt (by omega);refine Calls.mono g ?_;rintro e w'⟨rfl,n,os,rfl⟩;have h1:RowIs (putRow id (Sort.ahead w n) a 0 ((zbw l).toArray.map St)) a 9 ((zbw l).toArray.map St).toList tail:=zki (w:=Sort.ahead w n) m _ (by simp[zh2]);have D:putRow encStr (Sort.ahead w n) a 0 (l.mergeSort fun x y=>decide (x<=y)).toArray=putRow id (Sort.ahead w n) a 0 ((zbw l).toArray.map St):=zns _ _ _ _;rw[D];have B:a<(putRow id (Sort.ahead w n) a 0 ((zbw l).toArray.map St)).heap.size:=h1.lt
 have q:RowIs (grow (putRow id (Sort.ahead w n) a 0 ((zbw l).toArray.map St)) os) a 9 ((zbw l).flatMap strC) tail:=by unfold RowIs at h1 ⊢;unfold grow;rw[Array.getElem?_append_left B,h1];simp[zdz]
 refine⟨rfl,?_,?_⟩
 ·have f:(zbw l).length=l.length:=zh2 l;rw[f];refine q.own k C u ?_ ?_ ?_
  ·simp[zdz,f]at t ⊢;omega
  ·rw[zdz,List.take_of_length_le (by simp[f])]
  simp[zdz,f]
 have b:=zi5 (w:=Sort.ahead w n) k ((zbw l).toArray.map St)
 exact⟨b.os,b.tape,b.output,Nat.le_trans b.size (by simp),fun j d=>by unfold grow;rw[Array.getElem?_append_left (by have:=h.lt;simp[Sort.ahead];omega)];exact b.block j d⟩
end
section
theorem zwd:∀a b:Str,(a<b)↔ltS a b=true
 | [],[]=>by simp[ltS,Op.bytesLess]
 | [],_::_=>by simp[ltS,Op.bytesLess]
 | _::_,[]=>by simp[ltS,Op.bytesLess]
 | a::x,b::y=>by rw[List.cons_lt_cons_iff,zwd x y];simp[ltS,Op.bytesLess]
theorem zq2 (a b:Str):(a<=b)↔ltS b a=false:=by
 rw[<- List.not_lt,zwd];simp
theorem zhk (l:List Str):(zbw l).Pairwise (fun a b=>ltS b a=false):=by
 have d:=List.pairwise_mergeSort (le:=fun x y:Str=>decide (x<=y)) (fun a b c h1 e=>by
   simp only[decide_eq_true_eq,zq2]at *;rcases zcj c a with d|rfl|d
   ·rcases zcj a b with h3|rfl|h3
    ·have:=zay d h3;rw[this]at e;cases e
    ·rw[d]at e;cases e
    rw[h3]at h1;cases h1
   ·exact zap _
   ·exact zc8 d) (fun a b=>by
   simp only[Bool.or_eq_true,decide_eq_true_eq,zq2];rcases zcj a b with d|rfl|d
   ·exact .inl (zc8 d)
   ·exact .inl (zap _)
   exact .inr (zc8 d)) l
 refine d.imp fun {a b} f=>?_
 simpa only[decide_eq_true_eq,zq2]using f
theorem zen (l:List Str):(zbw l).Perm l:=List.mergeSort_perm _ _
theorem zyx {a b:Str}(h1:ltS a b=false)(c:ltS b a=false):a=b:=by
 rcases zcj a b with h|h|h
 ·rw[h]at h1;cases h1
 ·exact h
 rw[h]at c;cases c
theorem zt3 {A B:List Str}(a:A.Perm B):zbw A=zbw B :=
 zej (lt:=ltS) (fun _ _ h1 b=>zyx h1 b) (((zen A).trans a).trans (zen B).symm) (zhk A) (zhk B)
end
end Go.Proofs.YtaabaflgeljbjaaGreat
