/- Package path: Deep, May, Number, Parent, Chain. -/
import Derived.Test.YtblkikjmocnllaaGreatDoorQz07
import Derived.Test.YtblkikjmocnllaaGreatDoorQz08
set_option linter.unusedVariables false
set_option linter.unusedSimpArgs false
set_option maxRecDepth 100000
set_option maxHeartbeats 40000000
namespace Go.Proofs.YtblkikjmocnllaaGreatDoor
section
open Go.RowKit Go.Shelf
abbrev deepP (p:Str):Nat:=(splitP p).length
def mayP (p:Str):Bool:=decide (0 < deepP p)
def numP (p:Str):Nat:=if deepP p < 2 then 0 else (splitP p).getLast?.getD 0
theorem split_namedD (p:Str) (hp:p.length < 4611686018427387904):∃ n0 n1 n2 n3 n4 n5 n6 n7:Nat,arrC (splitP p) = [I n0,I n1,I n2,I n3,I n4,I n5,I n6,I n7] /\
  ∀ w,Calls Tryz.prog 116 #[St p] w fun e w'=>e=.returned (.tuple #[.agg #[I n0,I n1,I n2,I n3,I n4,I n5,I n6,I n7],I (deepP p)])/\Ext w w'/\w.drawn<=w'.drawn:=by
 obtain⟨n0,n1,n2,n3,n4,n5,n6,n7,-,he⟩:=arr8 (splitP_len p)
 refine ⟨n0,n1,n2,n3,n4,n5,n6,n7,he,fun w=>(split_anyD p hp w).mono ?_⟩
 rintro e w' ⟨rfl,hx⟩
 exact⟨by rw [arrV,he],hx⟩
theorem split_named (p:Str) (hp:p.length < 4611686018427387904):∃ n0 n1 n2 n3 n4 n5 n6 n7:Nat,arrC (splitP p) = [I n0,I n1,I n2,I n3,I n4,I n5,I n6,I n7] /\
  ∀ w,Calls Tryz.prog 116 #[St p] w fun e w'=>e=.returned (.tuple #[.agg #[I n0,I n1,I n2,I n3,I n4,I n5,I n6,I n7],I (deepP p)])/\Ext w w':=by
 obtain⟨n0,n1,n2,n3,n4,n5,n6,n7,-,he⟩:=arr8 (splitP_len p)
 refine ⟨n0,n1,n2,n3,n4,n5,n6,n7,he,fun w=>(split_any p hp w).mono ?_⟩
 rintro e w' ⟨rfl,hx⟩
 exact⟨by rw [arrV,he],hx⟩
theorem deep_any (p:Str) (hp:p.length < 4611686018427387904) (w:World):Calls Tryz.prog 89 #[St p] w fun e w'=>e=.returned (I (deepP p))/\Ext w w':=by
 obtain⟨n0,n1,n2,n3,n4,n5,n6,n7,he,H⟩:=split_named p hp
 have H:=Lib.hid H
 clear he
 go_enter Tryz.func89,Tryz.ntmps89
 go_wp2_with fail
 refine (H.out _).mono ?_
 rintro e w' ⟨rfl,hx⟩
 have HX:=Lib.hid hx
 clear hx
 go_wp2
 go_ret
 exact⟨rfl,HX.out.alloc _⟩
theorem may_any (p:Str) (hp:p.length < 4611686018427387904) (w:World):Calls Tryz.prog 47 #[St p] w fun e w'=>e=.returned (.bool (mayP p))/\Ext w w':=by
 have H:=Lib.hid (deep_any p hp)
 unfold mayP
 generalize deepP p=d at *
 go_enter Tryz.func47,Tryz.ntmps47
 go_wp2_with fail
 refine (H.out _).mono ?_
 rintro e w' ⟨rfl,hx⟩
 have HX:=Lib.hid hx
 clear hx
 go_wp2
 go_ret
 exact⟨by simp,HX.out⟩
theorem number1_any (p:Str) (hp:p.length < 4611686018427387904) (w:World):Calls Tryz.prog 50 #[St p] w fun e w'=>e=.returned (I (numP p))/\Ext w w':=by
 obtain⟨n0,n1,n2,n3,n4,n5,n6,n7,he,H⟩:=split_named p hp
 have H:=Lib.hid H
 have h8:=splitP_len p
 by_cases h2:deepP p < 2
 ·have HN:=Lib.hid (show numP p=0 by unfold numP;rw [if_pos h2])
  have h2':((deepP p:Nat):Int) < 2:=by omega
  clear he h2
  generalize deepP p=d at *
  go_enter Tryz.func50,Tryz.ntmps50
  go_wp2_with fail
  refine (H.out _).mono ?_
  rintro e w' ⟨rfl,hx⟩
  have HX:=Lib.hid hx
  clear hx
  go_wp2
  go_ret
  exact⟨by rw [HN.out];rfl,HX.out.alloc _⟩
 ·obtain⟨k,hk⟩:∃ k,deepP p=k+1:=⟨deepP p - 1,by omega⟩
  have HN:=Lib.hid (show (arrC (splitP p))[k]? = some (I (numP p)) by
   unfold numP arrC
   rw [if_neg h2,List.getElem?_map,List.getElem?_append_left (by unfold deepP at hk;omega),List.getLast?_eq_getElem?,show (splitP p).length - 1=k by unfold deepP at hk;omega,List.getElem?_eq_getElem (by unfold deepP at hk;omega)]
   rfl)
  have h2':¬ ((k:Int)+1) < 2:=by omega
  have h3:(k:Int) < 8:=by unfold deepP at hk;omega
  have h4:(k:Int)+1 - 1=k:=by omega
  rw [he] at HN
  rw [hk] at H
  clear he h2 h8 hk
  obtain⟨z,hz⟩:∃ z,numP p=z:=⟨_,rfl⟩
  rw [hz] at HN ⊢
  clear hz
  go_enter Tryz.func50,Tryz.ntmps50
  go_wp2_with fail
  refine (H.out _).mono ?_
  rintro e w' ⟨rfl,hx⟩
  have HX:=Lib.hid hx
  clear hx
  have hc:=(rowNew w' 129 [I n0,I n1,I n2,I n3,I n4,I n5,I n6,I n7]).cell HN.out
  go_wp2
  go_ret
  exact⟨rfl,HX.out.alloc _⟩
end
end Go.Proofs.YtblkikjmocnllaaGreatDoor
