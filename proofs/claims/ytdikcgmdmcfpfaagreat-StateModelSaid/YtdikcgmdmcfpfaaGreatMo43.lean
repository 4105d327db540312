/- Contracts and plain laws. -/
import Derived.Test.YtdikcgmdmcfpfaaGreatMo42
import Derived.Test.YtdikcgmdmcfpfaaGreatMo28
import Derived.ChangeMaps5
set_option linter.unusedVariables false
set_option linter.unusedSimpArgs false
set_option maxRecDepth 100000
set_option maxHeartbeats 40000000
namespace Go.Proofs.YtdikcgmdmcfpfaaGreat
section
open Go.Deep Go.ChangeShapes Go.WideShapes
section
variable {H:Type} {enc:TypeId × Value→H} {w:World}
theorem yay {α:Type} {l:List α} (h:l.length=7):∃ a b c d e f g,l = [a,b,c,d,e,f,g]:=by
 match l,h with
 | [a,b,c,d,e,f,g],_=>exact⟨a,b,c,d,e,f,g,rfl⟩
end
end
section
open Go.Deep Go.ChangeShapes Go.WideShapes
section
variable {H:Type} {enc:TypeId × Value→H} {w:World}
theorem yah {r:Reach} {b0:Nat} {v:Value} {d:DataW H} {ps:List MemPlace} (hval:Value.okWide Tryz.prog w r b0 5 v) (h:DataW.Trod enc Tryz.prog w 0 (fun _=>true) true 5 v d ps) :
  ∃ n:Nat,v=K8 n∧n < 256:=by
 obtain⟨i,rfl,-,-,hw⟩:=open_int Tryz.underlying5 hval h
 have hb:(decide (IntKind.u8.min≤i) && decide (i≤IntKind.u8.max))=true:=hw
 simp only [Bool.and_eq_true,decide_eq_true_eq] at hb
 have h1:(0:Int)≤i:=hb.1
 have h2:i≤(255:Int):=hb.2
 exact⟨i.toNat,by rw [K8,Int.toNat_of_nonneg h1],by omega⟩
end
end
end Go.Proofs.YtdikcgmdmcfpfaaGreat
