/- slices.Compact at []string: a row of the call's own. -/
import Derived.Test.YtaabaflgeljbjaaGreatPr10
import Derived.Test.YtaabaflgeljbjaaGreatPr13
set_option linter.unusedVariables false
set_option linter.unusedSimpArgs false
set_option maxRecDepth 100000
set_option maxHeartbeats 40000000
namespace Go.Proofs.YtaabaflgeljbjaaGreat
section
open Go.RowKit Go.Sort
theorem zu3 (l:List Str):(Lib.compact l).length<=l.length:=by
 have a:∀(d:Array Str) (m:Nat),(Lib.compactUpTo d m).length<=m:=fun d m=>by
  induction m with
  | zero=>simp[Lib.compactUpTo]
  | succ m b=>rw[Lib.compactUpTo_succ,List.length_append];split<;>simp<;>omega
 have:=a l.toArray l.length
 simpa[Lib.compact]using this
theorem zrk {v:Value}{l:List Str}{w:World}{base:Nat}(i:Own w base 9 1 v l.length (l.flatMap strC))(D:l.length<=1099511627776) :
  Calls Tryz.prog 63 #[v] w fun e w'=>∃v',e=.returned v'/\Own w' base 9 1 v' (Lib.compact l).length ((Lib.compact l).flatMap strC)/\Go.RowKit.Below base w w':=by
 rcases Nat.eq_zero_or_pos l.length with h0|h0
 ·obtain rfl:l = []:=List.eq_nil_of_length_eq_zero h0;obtain⟨A,c,rfl,-,-⟩:=i.form;have g:=Any.slices_Compact_string_empty Tryz.lays194 A c w;exact Calls.mono g fun e w' ⟨y,n⟩=>⟨_,y,by rw[n];simpa[Lib.compact,Lib.compactUpTo]using i,by rw[n];exact Below.refl _ _⟩
 obtain⟨b,o,tail,rfl,k,B,z,x,u⟩:=i.row h0;have m:RowIs w b 9 (l.toArray.map St).toList tail:=by simpa[zdz]using B
 have s:=zjp m
 have r:Holds encStr w b 0 l.toArray:=fun j h=>by
  have:=s j (by simpa using h);rw[getElem!_pos (l.toArray.map St) j (by simpa using h)]at this;rw[getElem!_pos l.toArray j h]
  simpa[encStr]using this
 have g:=Any.slices_Compact_string Tryz.lays194 b 0 o l w r (by omega) z;refine Calls.mono g ?_;rintro e w'⟨rfl,q,rfl⟩;have E:=zu3 l;obtain⟨a,f⟩:∃a,a=Lib.compact l++List.replicate (l.length-(Lib.compact l).length) []:=⟨_,rfl⟩
 have t:a.length=l.length:=by rw[f,List.length_append,List.length_replicate];omega
 rw[<- f];have h1:RowIs (putRow id (Sort.ahead w q) b 0 (a.toArray.map St)) b 9 (a.toArray.map St).toList tail:=zki (w:=Sort.ahead w q) m _ (by simp[t]);have C:putRow encStr (Sort.ahead w q) b 0 a.toArray=putRow id (Sort.ahead w q) b 0 (a.toArray.map St):=zns _ _ _ _;rw[C]
 have p:RowIs (putRow id (Sort.ahead w q) b 0 (a.toArray.map St)) b 9 ((Lib.compact l).flatMap strC) ((List.replicate (l.length-(Lib.compact l).length) (St []))++tail):=by unfold RowIs at h1 ⊢;rw[h1,f];simp[zdz]
 refine⟨_,rfl,?_,?_⟩
 ·refine p.own k (by omega) x ?_ ?_ ?_
  ·simp[zdz]at u ⊢;omega
  ·rw[zdz,List.take_of_length_le (by simp)]
  simp[zdz]
 have d:=zi5 (w:=Sort.ahead w q) k (a.toArray.map St);exact⟨d.os,d.tape,d.output,d.size,d.block⟩
end
end Go.Proofs.YtaabaflgeljbjaaGreat
