/- Package cell: Write. -/
import Derived.Test.YtaabaflgeljbjaaGreatPr14
import Derived.Test.YtaabaflgeljbjaaGreatPr06
set_option linter.unusedVariables false
set_option linter.unusedSimpArgs false
set_option maxRecDepth 100000
set_option maxHeartbeats 40000000
namespace Go.Proofs.YtaabaflgeljbjaaGreat
section
open Go.RowKit
def za5 (c:Cell) (text:Str) (gone:Bool):Cell × Nat :=
 if 4096 < text.length then ((0,[],false),4) else if 281474976710656<=c.1 then ((0,[],false),9) else ((c.1+1,if gone then [] else text,gone),0)
theorem zul (c:Cell) (text:Str) (gone:Bool) (w:World):Calls Tryz.prog 176 #[zdc c,St text,.bool gone] w fun e w'=>e=.returned (.tuple #[zdc (za5 c text gone).1,I (za5 c text gone).2])/\Ext w w':=by
 obtain⟨n,s,g⟩:=c
 by_cases h1:4096 < text.length
 ·have k1:(text.length:Int) > 4096:=by omega
  have HW:=zH (show za5 (n,s,g) text gone=((0,[],false),4) by simp [za5,h1]);clear h1;go_enter Tryz.func176,Tryz.ntmps176;go_wp2_with fail;exact bodyPost_ret (v:=.tuple #[.agg #[U 0,St [],.bool false],I 4]) (by simp [results,Tryz.f176,go_sem]) rfl ⟨by rw [HW.out];rfl,((Ext.refl w).alloc _).alloc _⟩
 ·have k1:¬ (text.length:Int) > 4096:=by omega
  by_cases h2:281474976710656<=n
  ·have k2:(n:Int) ≥ 281474976710656:=(by omega);have HW:=zH (show za5 (n,s,g) text gone=((0,[],false),9) by simp [za5,h1,h2]);clear h1 h2;go_enter Tryz.func176,Tryz.ntmps176;go_wp2_with fail;exact bodyPost_ret (v:=.tuple #[.agg #[U 0,St [],.bool false],I 9]) (by simp [results,Tryz.f176,go_sem]) rfl ⟨by rw [HW.out];rfl,((Ext.refl w).alloc _).alloc _⟩
  ·have k2:¬ (n:Int) ≥ 281474976710656:=(by omega);have k3:IntKind.u64.wrap ((n:Int)+1)=(n:Int)+1:=(by rw [zca];omega);have HW:=zH (show za5 (n,s,g) text gone=((n+1,if gone then [] else text,gone),0) by simp [za5,h1,h2]);clear h1 h2;cases gone
   ·go_enter Tryz.func176,Tryz.ntmps176;go_wp2_with fail;exact bodyPost_ret (v:=.tuple #[.agg #[U (n+1),St text,.bool false],I 0]) (by simp [results,Tryz.f176,go_sem]) rfl ⟨by rw [HW.out];rfl,((Ext.refl w).alloc _).alloc _⟩
   ·go_enter Tryz.func176,Tryz.ntmps176;go_wp2_with fail;exact bodyPost_ret (v:=.tuple #[.agg #[U (n+1),St [],.bool true],I 0]) (by simp [results,Tryz.f176,go_sem]) rfl ⟨by rw [HW.out];rfl,((Ext.refl w).alloc _).alloc _⟩
end
end Go.Proofs.YtaabaflgeljbjaaGreat
