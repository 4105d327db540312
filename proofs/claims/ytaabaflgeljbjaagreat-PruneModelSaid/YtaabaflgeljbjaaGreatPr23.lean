/- Package cell: Write. -/
import Derived.Test.YtaabaflgeljbjaaGreatPr14
import Derived.Test.YtaabaflgeljbjaaGreatPr06
set_option linter.unusedVariables false
set_option linter.unusedSimpArgs false
set_option maxRecDepth 100000
set_option maxHeartbeats 40000000
namespace Go.Proofs.YtaabaflgeljbjaaGreat
section
open Go.RowKit
def za5 (c:Cell)(text:Str)(gone:Bool):Cell×Nat :=
 if 4096<text.length then((0,[],false),4)else if 281474976710656<=c.1 then((0,[],false),9)else((c.1+1,if gone then[]else text,gone),0)
theorem zul (c:Cell)(text:Str)(a:Bool)(w:World):Calls Tryz.prog 176 #[zdc c,St text,.bool a] w fun e w'=>e=.returned (.tuple #[zdc (za5 c text a).1,I (za5 c text a).2])/\Ext w w':=by
 obtain⟨n,s,g⟩:=c
 by_cases h1:4096<text.length
 ·have f:(text.length:Int)>4096:=by omega
  have b:=zH (show za5 (n,s,g) text a=((0,[],false),4) by simp[za5,h1]);clear h1;go_enter Tryz.func176,Tryz.ntmps176;go_wp2_with fail;exact bodyPost_ret (v:=.tuple #[.agg #[U 0,St [],.bool false],I 4]) (by simp[results,Tryz.f176,go_sem]) rfl ⟨by rw[b.out];rfl,((Ext.refl w).alloc _).alloc _⟩
 have f:¬(text.length:Int)>4096:=by omega
 by_cases d:281474976710656<=n
 ·have h:(n:Int)≥281474976710656:=(by omega);have b:=zH (show za5 (n,s,g) text a=((0,[],false),9) by simp[za5,h1,d]);clear h1 d;go_enter Tryz.func176,Tryz.ntmps176;go_wp2_with fail;exact bodyPost_ret (v:=.tuple #[.agg #[U 0,St [],.bool false],I 9]) (by simp[results,Tryz.f176,go_sem]) rfl ⟨by rw[b.out];rfl,((Ext.refl w).alloc _).alloc _⟩
 have h:¬(n:Int)≥281474976710656:=(by omega);have i:IntKind.u64.wrap ((n:Int)+1)=(n:Int)+1:=(by rw[zca];omega);have b:=zH (show za5 (n,s,g) text a=((n+1,if a then[]else text,a),0) by simp[za5,h1,d]);clear h1 d;cases a
 ·go_enter Tryz.func176,Tryz.ntmps176;go_wp2_with fail;exact bodyPost_ret (v:=.tuple #[.agg #[U (n+1),St text,.bool false],I 0]) (by simp[results,Tryz.f176,go_sem]) rfl ⟨by rw[b.out];rfl,((Ext.refl w).alloc _).alloc _⟩
 go_enter Tryz.func176,Tryz.ntmps176;go_wp2_with fail;exact bodyPost_ret (v:=.tuple #[.agg #[U (n+1),St [],.bool true],I 0]) (by simp[results,Tryz.f176,go_sem]) rfl ⟨by rw[b.out];rfl,((Ext.refl w).alloc _).alloc _⟩
end
end Go.Proofs.YtaabaflgeljbjaaGreat
