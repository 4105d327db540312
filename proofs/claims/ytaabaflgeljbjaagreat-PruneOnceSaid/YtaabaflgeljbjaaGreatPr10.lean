/- Laws. -/
import Derived.Test.YtaabaflgeljbjaaGreatPr04
import Derived.Test.YtaabaflgeljbjaaGreatPr09
import Derived.Test.YtaabaflgeljbjaaGreatPr05
set_option linter.unusedVariables false
set_option linter.unusedSimpArgs false
set_option maxRecDepth 100000
set_option maxHeartbeats 40000000
namespace Go.Proofs.YtaabaflgeljbjaaGreat
section
open Go.RowKit Go.Sort
def zbw (l:List Str):List Str:=l.mergeSort fun x y=>decide (x<=y)
theorem zh2 (l:List Str):(zbw l).length=l.length:=List.length_mergeSort _
theorem zns {α:Type} [Inhabited α] (enc:α->Value) (w:World) (g:Nat) (d:Array α):putRow enc w g 0 d=putRow id w g 0 (d.map enc):=by
 unfold putRow
 congr 1
 funext cs
 unfold putCells
 apply Array.ext_getElem?
 intro i;rw [Array.getElem?_mapIdx,Array.getElem?_mapIdx]
 cases cs[i]? with
 | none=>rfl
 | some u =>
  by_cases hi:i < d.size
  ·simp [hi,getElem!_pos d i hi,getElem!_pos (d.map enc) i (by simpa using hi)]
  ·simp [hi]
theorem zdz (l:List Str):l.flatMap strC=l.map St:=by
 induction l with
 | nil=>rfl
 | cons a r ih=>simp [strC,ih]
theorem zo7 {v:Value} {l:List Str} {w:World} {base:Nat} (hv:Own w base 9 1 v l.length (l.flatMap strC)) (hl:l.length<=1099511627776) :
  Calls Tryz.prog 62 #[v] w fun e w'=>e=.returned (.tuple #[])/\Own w' base 9 1 v (zbw l).length ((zbw l).flatMap strC)/\Go.RowKit.Below base w w':=by
 rcases Nat.eq_zero_or_pos l.length with h0 | h0
 ·obtain rfl:l = []:=List.eq_nil_of_length_eq_zero h0;obtain⟨A,c,rfl,-,-⟩:=hv.form;have hcon:=Any.slices_Sort_string_none Tryz.lays190 A c w;exact Calls.mono hcon fun e w' ⟨he,hw⟩=>⟨he,by rw [hw];simpa [zbw] using hv,by rw [hw];exact Below.refl _ _⟩
 ·obtain⟨gb,cap,tail,rfl,hgb,hrow,hnc,hcm,hcl⟩:=hv.row h0;have hrow1:RowIs w gb 9 (l.toArray.map St).toList tail:=by simpa [zdz] using hrow
  have hH0:=zjp hrow1
  have hH:Holds encStr w gb 0 l.toArray:=fun j hj=>by
   have:=hH0 j (by simpa using hj);rw [getElem!_pos (l.toArray.map St) j (by simpa using hj)] at this;rw [getElem!_pos l.toArray j hj]
   simpa [encStr] using this
  have hcon:=Any.slices_Sort_string Tryz.lays190 gb 0 cap l w hH hrow.lt (by omega);refine Calls.mono hcon ?_;rintro e w' ⟨rfl,n,os,rfl⟩;have h1:RowIs (putRow id (Sort.ahead w n) gb 0 ((zbw l).toArray.map St)) gb 9 ((zbw l).toArray.map St).toList tail:=zki (w:=Sort.ahead w n) hrow1 _ (by simp [zh2]);have hrw:putRow encStr (Sort.ahead w n) gb 0 (l.mergeSort fun x y=>decide (x<=y)).toArray=putRow id (Sort.ahead w n) gb 0 ((zbw l).toArray.map St):=zns _ _ _ _;rw [hrw];have hgs:gb < (putRow id (Sort.ahead w n) gb 0 ((zbw l).toArray.map St)).heap.size:=h1.lt
  have h2:RowIs (grow (putRow id (Sort.ahead w n) gb 0 ((zbw l).toArray.map St)) os) gb 9 ((zbw l).flatMap strC) tail:=by unfold RowIs at h1 ⊢;unfold grow;rw [Array.getElem?_append_left hgs,h1];simp [zdz]
  refine ⟨rfl,?_,?_⟩
  ·have hlen:(zbw l).length=l.length:=zh2 l;rw [hlen];refine h2.own hgb hnc hcm ?_ ?_ ?_
   ·simp [zdz,hlen] at hcl ⊢;omega
   ·rw [zdz,List.take_of_length_le (by simp [hlen])]
   ·simp [zdz,hlen]
  ·have h3:=zi5 (w:=Sort.ahead w n) hgb ((zbw l).toArray.map St)
   exact⟨h3.os,h3.tape,h3.output,Nat.le_trans h3.size (by simp),fun j hj=>by unfold grow;rw [Array.getElem?_append_left (by have:=hrow.lt;simp [Sort.ahead];omega)];exact h3.block j hj⟩
end
section
theorem zwd:∀ a b:Str,(a < b)↔ltS a b=true
 | [],[]=>by simp [ltS,Op.bytesLess]
 | [],_ :: _=>by simp [ltS,Op.bytesLess]
 | _ :: _,[]=>by simp [ltS,Op.bytesLess]
 | a :: x,b :: y=>by rw [List.cons_lt_cons_iff,zwd x y];simp [ltS,Op.bytesLess]
theorem zq2 (a b:Str):(a<=b)↔ltS b a=false:=by
 rw [<- List.not_lt,zwd];simp
theorem zhk (l:List Str):(zbw l).Pairwise (fun a b=>ltS b a=false):=by
 have h:=List.pairwise_mergeSort (le:=fun x y:Str=>decide (x<=y)) (fun a b c h1 h2=>by
   simp only [decide_eq_true_eq,zq2] at *;rcases zcj c a with h | rfl | h
   ·rcases zcj a b with h3 | rfl | h3
    ·have:=zay h h3;rw [this] at h2;cases h2
    ·rw [h] at h2;cases h2
    ·rw [h3] at h1;cases h1
   ·exact zap _
   ·exact zc8 h) (fun a b=>by
   simp only [Bool.or_eq_true,decide_eq_true_eq,zq2];rcases zcj a b with h | rfl | h
   ·exact .inl (zc8 h)
   ·exact .inl (zap _)
   ·exact .inr (zc8 h)) l
 refine h.imp fun {a b} hab=>?_
 simpa only [decide_eq_true_eq,zq2] using hab
theorem zen (l:List Str):(zbw l).Perm l:=List.mergeSort_perm _ _
theorem zyx {a b:Str} (h1:ltS a b=false) (h2:ltS b a=false):a=b:=by
 rcases zcj a b with h | h | h
 ·rw [h] at h1;cases h1
 ·exact h
 ·rw [h] at h2;cases h2
theorem zt3 {A B:List Str} (h:A.Perm B):zbw A=zbw B :=
 zej (lt:=ltS) (fun _ _ h1 h2=>zyx h1 h2) (((zen A).trans h).trans (zen B).symm) (zhk A) (zhk B)
end
end Go.Proofs.YtaabaflgeljbjaaGreat
