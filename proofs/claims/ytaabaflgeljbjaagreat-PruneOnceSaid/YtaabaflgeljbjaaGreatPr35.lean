/- slices.Compact at []string: a row of the call's own. -/
import Derived.Test.YtaabaflgeljbjaaGreatPr10
import Derived.Test.YtaabaflgeljbjaaGreatPr13
set_option linter.unusedVariables false
set_option linter.unusedSimpArgs false
set_option maxRecDepth 100000
set_option maxHeartbeats 40000000
namespace Go.Proofs.YtaabaflgeljbjaaGreat
section
open Go.RowKit Go.Sort
theorem zu3 (l:List Str):(Lib.compact l).length<=l.length:=by
 have h:∀ (d:Array Str) (m:Nat),(Lib.compactUpTo d m).length<=m:=fun d m=>by
  induction m with
  | zero=>simp [Lib.compactUpTo]
  | succ m ih=>rw [Lib.compactUpTo_succ,List.length_append];split <;> simp <;> omega
 have:=h l.toArray l.length
 simpa [Lib.compact] using this
theorem zrk {v:Value} {l:List Str} {w:World} {base:Nat} (hv:Own w base 9 1 v l.length (l.flatMap strC)) (hl:l.length<=1099511627776) :
  Calls Tryz.prog 63 #[v] w fun e w'=>∃ v',e=.returned v'/\Own w' base 9 1 v' (Lib.compact l).length ((Lib.compact l).flatMap strC)/\Go.RowKit.Below base w w':=by
 rcases Nat.eq_zero_or_pos l.length with h0 | h0
 ·obtain rfl:l = []:=List.eq_nil_of_length_eq_zero h0;obtain⟨A,c,rfl,-,-⟩:=hv.form;have hcon:=Any.slices_Compact_string_empty Tryz.lays194 A c w;exact Calls.mono hcon fun e w' ⟨he,hw⟩=>⟨_,he,by rw [hw];simpa [Lib.compact,Lib.compactUpTo] using hv,by rw [hw];exact Below.refl _ _⟩
 ·obtain⟨gb,cap,tail,rfl,hgb,hrow,hnc,hcm,hcl⟩:=hv.row h0;have hrow1:RowIs w gb 9 (l.toArray.map St).toList tail:=by simpa [zdz] using hrow
  have hH0:=zjp hrow1
  have hH:Holds encStr w gb 0 l.toArray:=fun j hj=>by
   have:=hH0 j (by simpa using hj);rw [getElem!_pos (l.toArray.map St) j (by simpa using hj)] at this;rw [getElem!_pos l.toArray j hj]
   simpa [encStr] using this
  have hcon:=Any.slices_Compact_string Tryz.lays194 gb 0 cap l w hH (by omega) hnc;refine Calls.mono hcon ?_;rintro e w' ⟨rfl,q,rfl⟩;have hle:=zu3 l;obtain⟨X,hX⟩:∃ X,X=Lib.compact l++List.replicate (l.length - (Lib.compact l).length) []:=⟨_,rfl⟩
  have hXl:X.length=l.length:=by rw [hX,List.length_append,List.length_replicate];omega
  rw [<- hX];have h1:RowIs (putRow id (Sort.ahead w q) gb 0 (X.toArray.map St)) gb 9 (X.toArray.map St).toList tail:=zki (w:=Sort.ahead w q) hrow1 _ (by simp [hXl]);have hrw:putRow encStr (Sort.ahead w q) gb 0 X.toArray=putRow id (Sort.ahead w q) gb 0 (X.toArray.map St):=zns _ _ _ _;rw [hrw]
  have h2:RowIs (putRow id (Sort.ahead w q) gb 0 (X.toArray.map St)) gb 9 ((Lib.compact l).flatMap strC) ((List.replicate (l.length - (Lib.compact l).length) (St []))++tail):=by unfold RowIs at h1 ⊢;rw [h1,hX];simp [zdz]
  refine ⟨_,rfl,?_,?_⟩
  ·refine h2.own hgb (by omega) hcm ?_ ?_ ?_
   ·simp [zdz] at hcl ⊢;omega
   ·rw [zdz,List.take_of_length_le (by simp)]
   ·simp [zdz]
  ·have h3:=zi5 (w:=Sort.ahead w q) hgb (X.toArray.map St);exact⟨h3.os,h3.tape,h3.output,h3.size,h3.block⟩
end
end Go.Proofs.YtaabaflgeljbjaaGreat
