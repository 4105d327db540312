/- What the laws of prune share: rows of four cells; values that are states; slots of a drawn region that are states. -/
import Derived.Test.YtaabaflgeljbjaaGreatQx40
import Derived.Test.YtaabaflgeljbjaaGreatPr37
set_option linter.unusedVariables false
set_option linter.unusedSimpArgs false
set_option maxRecDepth 100000
set_option maxHeartbeats 40000000
namespace Go.Proofs.YtaabaflgeljbjaaGreat
section
open Go.RowKit Go.Shelf
theorem ybj {W:World} {g T:Nat} {a b c d x y z u:Value} (h:RowIs W g T [a,b,c,d] []):RowIs ((((W.setCell ⟨g,0,none⟩ x).setCell ⟨g,1,none⟩ y).setCell ⟨g,2,none⟩ z).setCell ⟨g,3,none⟩ u) g T [x,y,z,u] []:=by
 have h0:=h.set (j:=0) (Nat.succ_pos _) x;have h1:=h0.set (j:=1) (by simp) y;have h2:=h1.set (j:=2) (by simp) z;exact h2.set (j:=3) (by simp) u
def StV (s:State) (v:Value) (W:World):Prop:=∃ C1 x1 C2 x2 C3 x3,v=stV (.slice C1 s.all.length x1) (.slice C2 s.entries.length x2) (.slice C3 s.pruned.length x3)/\StAt W (fun _=>True) s (.slice C1 s.all.length x1) (.slice C2 s.entries.length x2) (.slice C3 s.pruned.length x3)
theorem StV.ext {s:State} {v:Value} {W W':World} (h:StV s v W) (he:Ext W W'):StV s v W':=by
 obtain⟨C1,x1,C2,x2,C3,x3,e,h⟩:=h;exact⟨C1,x1,C2,x2,C3,x3,e,h.ext he⟩
theorem StAt.sv {S:Nat->Prop} {s:State} {v1 v2 v3:Value} {W:World} (h:StAt W S s v1 v2 v3):StV s (stV v1 v2 v3) W:=by
 obtain⟨C1,x1,C2,x2,C3,x3,rfl,rfl,rfl⟩:=h.fm;exact⟨C1,x1,C2,x2,C3,x3,rfl,h.mono fun _ _ _=>trivial⟩
def SlS (s:State) (i:Nat) (st:Nat->Option Value) (W:World):Prop:=∀ v,st i=some v->StV s v W
theorem SlS.ext {s:State} {i:Nat} {st:Nat->Option Value} {W W':World} (h:SlS s i st W) (he:Ext W W'):SlS s i st W':=fun v hv=>(h v hv).ext he
theorem SlS.other {s:State} {i j:Nat} {st:Nat->Option Value} {u:Value} {W:World} (hd:i ≠ j) (h:SlS s i st W):SlS s i (zfo st j u) W:=fun v hv=>h v (by rwa [zah st _ hd] at hv)
theorem SlS.set {s:State} {i:Nat} {st:Nat->Option Value} {v:Value} {W:World} (h:StV s v W):SlS s i (zfo st i v) W:=fun u hu=>by rw [zb2] at hu;cases hu;exact h
end
end Go.Proofs.YtaabaflgeljbjaaGreat
