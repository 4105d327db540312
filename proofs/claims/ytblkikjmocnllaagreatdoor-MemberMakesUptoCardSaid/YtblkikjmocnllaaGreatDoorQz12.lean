/- strings.Compare, cmp.Compare at uint64 and int, cmp.Or at two ints: what they return; the world is as it was. -/
import Derived.Test.YtblkikjmocnllaaGreatDoorQz02
import Derived.Test.YtblkikjmocnllaaGreatDoorQz11
import Derived.Test.YtblkikjmocnllaaGreatDoorQz03
set_option linter.unusedVariables false
set_option linter.unusedSimpArgs false
set_option maxRecDepth 100000
set_option maxHeartbeats 40000000
namespace Go.Proofs.YtblkikjmocnllaaGreatDoor
section
open Go.RowKit
theorem compareBytes_eq:∀ a b:Str,Lib.compareBytes a b=cmpS a b
 | [],[]=>rfl
 | [],_ :: _=>rfl
 | _ :: _,[]=>rfl
 | a :: x,b :: y=>by
  have ih:=compareBytes_eq x y
  rcases u8_tri a b with h | rfl | h
  ·have h2:¬ b < a:=UInt8.lt_asymm h
   have h3:a ≠ b:=UInt8.ne_of_lt h
   simp [Lib.compareBytes,cmpS,ltS,Op.bytesLess,h]
  ·simp only [cmpS,ltS] at ih
   simp [Lib.compareBytes,cmpS,ltS,Op.bytesLess,ih]
  ·have h2:¬ a < b:=UInt8.lt_asymm h
   have h3:a ≠ b:=(UInt8.ne_of_lt h).symm
   simp [Lib.compareBytes,cmpS,ltS,Op.bytesLess,h,h2,h3]
theorem scmp_any (a b:Str) (w:World):Calls Tryz.prog 117 #[St a,St b] w fun e w'=>e=.returned (I (cmpS a b))/\w=w':=by
 refine (Any.strings_Compare Tryz.lays106 ⟨a.toArray⟩ ⟨b.toArray⟩ w).mono ?_
 rintro e w' ⟨rfl,rfl⟩
 refine ⟨?_,rfl⟩
 exact congrArg (fun z=>Ending.returned (I z)) (compareBytes_eq a b)
theorem nan64_any (x:Nat) (w:World):Calls Tryz.prog 129 #[U x] w fun e w'=>e=.returned (.bool false)/\w=w':=by
 go_enter Tryz.func129,Tryz.ntmps129
 go_wp2
 go_ret
 exact⟨rfl,rfl⟩
theorem nanint_any (x:Int) (w:World):Calls Tryz.prog 127 #[I x] w fun e w'=>e=.returned (.bool false)/\w=w':=by
 go_enter Tryz.func127,Tryz.ntmps127
 go_wp2
 go_ret
 exact⟨rfl,rfl⟩
theorem ncmp_any (a b:Nat) (w:World):Calls Tryz.prog 67 #[U a,U b] w fun e w'=>e=.returned (I (cmpN a b))/\w=w':=by
 have H:=Lib.hid nan64_any
 by_cases h1:a < b
 ·have k1:(a:Int) < b:=by omega
  go_enter Tryz.func67,Tryz.ntmps67
  go_wp2_with (go_at_call 129;refine (H.out _ _).mono ?_;rintro e w' ⟨rfl,rfl⟩)
  go_ret
  exact⟨by simp [cmpN,h1],rfl⟩
 ·have k1:¬ (a:Int) < b:=by omega
  by_cases h2:b < a
  ·have k2:(a:Int) > b:=by omega
   go_enter Tryz.func67,Tryz.ntmps67
   go_wp2_with (go_at_call 129;refine (H.out _ _).mono ?_;rintro e w' ⟨rfl,rfl⟩)
   go_ret
   exact⟨by simp [cmpN,h1,h2],rfl⟩
  ·have k2:¬ (a:Int) > b:=by omega
   go_enter Tryz.func67,Tryz.ntmps67
   go_wp2_with (go_at_call 129;refine (H.out _ _).mono ?_;rintro e w' ⟨rfl,rfl⟩)
   go_ret
   exact⟨by simp [cmpN,h1,h2],rfl⟩
def cmpI (a b:Int):Int:=if a < b then -1 else if b < a then 1 else 0
theorem icmp_any (a b:Int) (w:World):Calls Tryz.prog 62 #[I a,I b] w fun e w'=>e=.returned (I (cmpI a b))/\w=w':=by
 have H:=Lib.hid nanint_any
 by_cases h1:a < b
 ·go_enter Tryz.func62,Tryz.ntmps62
  go_wp2_with (go_at_call 127;refine (H.out _ _).mono ?_;rintro e w' ⟨rfl,rfl⟩)
  go_ret
  exact⟨by simp [cmpI,h1],rfl⟩
 ·by_cases h2:b < a
  ·have k2:a > b:=by omega
   go_enter Tryz.func62,Tryz.ntmps62
   go_wp2_with (go_at_call 127;refine (H.out _ _).mono ?_;rintro e w' ⟨rfl,rfl⟩)
   go_ret
   exact⟨by simp [cmpI,h1,h2],rfl⟩
  ·have k2:¬ a > b:=by omega
   go_enter Tryz.func62,Tryz.ntmps62
   go_wp2_with (go_at_call 127;refine (H.out _ _).mono ?_;rintro e w' ⟨rfl,rfl⟩)
   go_ret
   exact⟨by unfold cmpI;rw [if_neg (by omega),if_neg (by omega)];rfl,rfl⟩
end
end Go.Proofs.YtblkikjmocnllaaGreatDoor
