/-
  No cell of these rows narrows 'for every input' (looked for: loops, veiled, ifaces, maps, wideKeys, modest, calm, conditions, laid).
  DERIVED. THE GIVEN ROWS OF THIS SEAT. 4 by the template 'for every input the law returns true; each argument reads behind the call as it read before'; 0 by the template 'total and deterministic' (their statements: YtaabaflgeljbjaaGreatTotals.lean).
  GIVEN WITH THE SEED: the statements are not yours to turn. If you find one false, say at which input.
  Laid BY PROGRAM, IN A SANDBOX (cutbox-rows.mjs): the forced cells as the released guide's own fill.sh prints them over the translation adbd6dc4e5831f48… (all of the seat's roots in one cut). By AI agents, Wed Nov 11 2026. No macro, syntax, notation, axiom, sorry.
-/
import Derived.Test.YtaabaflgeljbjaaGreatChecked
import GoSem.Claim
import GoSem.ClaimJoined
import GoSem.ClaimMapViews
import Derived.JoinedTies
import Derived.KernelRfl
namespace Go.Proofs.YtaabaflgeljbjaaGreat
/- THE CELL 'sum', in the pinned program and in every row, IS THE sha256 OF THE DUMP (.gsa) THAT YtaabaflgeljbjaaGreatProg.lean LOADS. Nothing in Lean hashes anything: it is a label: what it is worth is what the hold of that sum in a sandbox is worth. -/
noncomputable def Tryz.pinned : Pinned := { name := "ytaabaflgeljbjaagreat", sum := "adbd6dc4e5831f48e4125638d570a995eadfafc1489675d0ba40a0c313d14194", checked := Tryz.checked }
namespace Rows
def none {H : Type} : Left H := { results := [], args := [] }

/-- 'gossamerlaw17.PruneOthers': WHATEVER THE INPUT: true; the input reads as it did. -/
def pruneOthersSpec : ChangeSpec := { name := "pruneOthers", fn := fun _ => fun
  | [d1, d2] => { results := [.lit (.bool true)], args := [d1, d2] }
  | _ => none }
def pruneOthersRow : OpenClaim := { program := "ytaabaflgeljbjaagreat", sum := "adbd6dc4e5831f48e4125638d570a995eadfafc1489675d0ba40a0c313d14194", func := "gossamer/gossamerlaw17.PruneOthers", spec := "pruneOthers", inPlace := ["internal/bytealg.abigen_runtime_cmpstring", "slices.overlaps[gossamer/api.Entry]", "slices.overlaps[string]"], unfollowed := true, recurses := true, plainKeys := false, apart := false }
def PruneOthersSaid : Prop := pruneOthersRow.holds Tryz.pinned (OpenSpec.ofChange pruneOthersSpec)

/-- ITS FALSE NEIGHBOUR: 'it returns false'. Refute it at one input. -/
def pruneOthersWrong : ChangeSpec := { name := "pruneOthers", fn := fun _ => fun
  | [d1, d2] => { results := [.lit (.bool false)], args := [d1, d2] }
  | _ => none }
def PruneOthersWrongFalsely : Prop := pruneOthersRow.holds Tryz.pinned (OpenSpec.ofChange pruneOthersWrong)

/-- 'gossamerlaw17.PruneModel': WHATEVER THE INPUT: true; the input reads as it did. -/
def pruneModelSpec : ChangeSpec := { name := "pruneModel", fn := fun _ => fun
  | [d1, d2] => { results := [.lit (.bool true)], args := [d1, d2] }
  | _ => none }
def pruneModelRow : OpenClaim := { program := "ytaabaflgeljbjaagreat", sum := "adbd6dc4e5831f48e4125638d570a995eadfafc1489675d0ba40a0c313d14194", func := "gossamer/gossamerlaw17.PruneModel", spec := "pruneModel", inPlace := ["internal/bytealg.abigen_runtime_cmpstring", "slices.overlaps[gossamer/api.Entry]", "slices.overlaps[string]"], unfollowed := true, recurses := true, plainKeys := false, apart := false }
def PruneModelSaid : Prop := pruneModelRow.holds Tryz.pinned (OpenSpec.ofChange pruneModelSpec)

/-- ITS FALSE NEIGHBOUR: 'it returns false'. Refute it at one input. -/
def pruneModelWrong : ChangeSpec := { name := "pruneModel", fn := fun _ => fun
  | [d1, d2] => { results := [.lit (.bool false)], args := [d1, d2] }
  | _ => none }
def PruneModelWrongFalsely : Prop := pruneModelRow.holds Tryz.pinned (OpenSpec.ofChange pruneModelWrong)

/-- 'gossamerlaw17.PruneOnce': WHATEVER THE INPUT: true; the input reads as it did. -/
def pruneOnceSpec : ChangeSpec := { name := "pruneOnce", fn := fun _ => fun
  | [d] => { results := [.lit (.bool true)], args := [d] }
  | _ => none }
def pruneOnceRow : OpenClaim := { program := "ytaabaflgeljbjaagreat", sum := "adbd6dc4e5831f48e4125638d570a995eadfafc1489675d0ba40a0c313d14194", func := "gossamer/gossamerlaw17.PruneOnce", spec := "pruneOnce", inPlace := ["internal/bytealg.abigen_runtime_cmpstring", "slices.overlaps[gossamer/api.Entry]", "slices.overlaps[string]"], unfollowed := true, recurses := true, plainKeys := false, apart := false }
def PruneOnceSaid : Prop := pruneOnceRow.holds Tryz.pinned (OpenSpec.ofChange pruneOnceSpec)

/-- ITS FALSE NEIGHBOUR: 'it returns false'. Refute it at one input. -/
def pruneOnceWrong : ChangeSpec := { name := "pruneOnce", fn := fun _ => fun
  | [d] => { results := [.lit (.bool false)], args := [d] }
  | _ => none }
def PruneOnceWrongFalsely : Prop := pruneOnceRow.holds Tryz.pinned (OpenSpec.ofChange pruneOnceWrong)

/-- 'gossamerlaw17.PruneOrder': WHATEVER THE INPUT: true; the input reads as it did. -/
def pruneOrderSpec : ChangeSpec := { name := "pruneOrder", fn := fun _ => fun
  | [d] => { results := [.lit (.bool true)], args := [d] }
  | _ => none }
def pruneOrderRow : OpenClaim := { program := "ytaabaflgeljbjaagreat", sum := "adbd6dc4e5831f48e4125638d570a995eadfafc1489675d0ba40a0c313d14194", func := "gossamer/gossamerlaw17.PruneOrder", spec := "pruneOrder", inPlace := ["internal/bytealg.abigen_runtime_cmpstring", "slices.overlaps[gossamer/api.Entry]", "slices.overlaps[string]"], unfollowed := true, recurses := true, plainKeys := false, apart := false }
def PruneOrderSaid : Prop := pruneOrderRow.holds Tryz.pinned (OpenSpec.ofChange pruneOrderSpec)

/-- ITS FALSE NEIGHBOUR: 'it returns false'. Refute it at one input. -/
def pruneOrderWrong : ChangeSpec := { name := "pruneOrder", fn := fun _ => fun
  | [d] => { results := [.lit (.bool false)], args := [d] }
  | _ => none }
def PruneOrderWrongFalsely : Prop := pruneOrderRow.holds Tryz.pinned (OpenSpec.ofChange pruneOrderWrong)

/- THE SECOND FORM. 'bulk': how many values and letters a reading holds, each counted each time it is reached (what is shared counts as often as it is met; a slice's spare places count too). A statement '..UptoSaid' is the law's where the arguments, and the package variables that the reading takes, are together of bulk at most 1048576: NARROWER than '..Said'. Prove '..Said' where nothing that the law and all that it calls make is longer than what came in: it says more and counts as full. Else prove '..UptoSaid'. A law counts once. -/
mutual
def uptoBulk {H : Type} : DataW H → Nat
  | .lit (.string bytes) => bytes.length + 1
  | .lit _ => 1
  | .nil => 1
  | .ptr d => uptoBulk d + 1
  | .slice elems spare => uptoBulkAll elems + uptoBulkAll spare + 1
  | .agg parts => uptoBulkAll parts + 1
  | .iface _ d => uptoBulk d + 1
  | .map entries => uptoBulkEntries entries + 1
  | .held _ => 1
def uptoBulkAll {H : Type} : List (DataW H) → Nat
  | [] => 0
  | d :: r => uptoBulk d + uptoBulkAll r
def uptoBulkEntries {H : Type} : List (Lit × DataW H) → Nat
  | [] => 0
  | x :: r => uptoBulkEntry x + uptoBulkEntries r
def uptoBulkEntry {H : Type} : Lit × DataW H → Nat
  | (.string bytes, d) => bytes.length + uptoBulk d + 1
  | (_, d) => uptoBulk d + 1
 end
def uptoSmall : (H : Type) → List (DataW H) → Bool := fun _ ds => decide (uptoBulkAll ds ≤ 1048576)
def OpenSpec.upto (s : _root_.Go.ChangeSpec) : _root_.Go.OpenSpec := { _root_.Go.OpenSpec.ofChange s with cond := some uptoSmall }

/-- 'gossamerlaw17.PruneOthers', WHERE WHAT IT READS IS OF BULK AT MOST 1048576: true; the input reads as it did. -/
def pruneOthersUptoRow : OpenClaim := { program := "ytaabaflgeljbjaagreat", sum := "adbd6dc4e5831f48e4125638d570a995eadfafc1489675d0ba40a0c313d14194", func := "gossamer/gossamerlaw17.PruneOthers", spec := "pruneOthers", inPlace := ["internal/bytealg.abigen_runtime_cmpstring", "slices.overlaps[gossamer/api.Entry]", "slices.overlaps[string]"], unfollowed := true, recurses := true, plainKeys := false, apart := false, narrowed := true }
def PruneOthersUptoSaid : Prop := pruneOthersUptoRow.holds Tryz.pinned (OpenSpec.upto pruneOthersSpec)

/-- 'gossamerlaw17.PruneModel', WHERE WHAT IT READS IS OF BULK AT MOST 1048576: true; the input reads as it did. -/
def pruneModelUptoRow : OpenClaim := { program := "ytaabaflgeljbjaagreat", sum := "adbd6dc4e5831f48e4125638d570a995eadfafc1489675d0ba40a0c313d14194", func := "gossamer/gossamerlaw17.PruneModel", spec := "pruneModel", inPlace := ["internal/bytealg.abigen_runtime_cmpstring", "slices.overlaps[gossamer/api.Entry]", "slices.overlaps[string]"], unfollowed := true, recurses := true, plainKeys := false, apart := false, narrowed := true }
def PruneModelUptoSaid : Prop := pruneModelUptoRow.holds Tryz.pinned (OpenSpec.upto pruneModelSpec)

/-- 'gossamerlaw17.PruneOnce', WHERE WHAT IT READS IS OF BULK AT MOST 1048576: true; the input reads as it did. -/
def pruneOnceUptoRow : OpenClaim := { program := "ytaabaflgeljbjaagreat", sum := "adbd6dc4e5831f48e4125638d570a995eadfafc1489675d0ba40a0c313d14194", func := "gossamer/gossamerlaw17.PruneOnce", spec := "pruneOnce", inPlace := ["internal/bytealg.abigen_runtime_cmpstring", "slices.overlaps[gossamer/api.Entry]", "slices.overlaps[string]"], unfollowed := true, recurses := true, plainKeys := false, apart := false, narrowed := true }
def PruneOnceUptoSaid : Prop := pruneOnceUptoRow.holds Tryz.pinned (OpenSpec.upto pruneOnceSpec)

/-- 'gossamerlaw17.PruneOrder', WHERE WHAT IT READS IS OF BULK AT MOST 1048576: true; the input reads as it did. -/
def pruneOrderUptoRow : OpenClaim := { program := "ytaabaflgeljbjaagreat", sum := "adbd6dc4e5831f48e4125638d570a995eadfafc1489675d0ba40a0c313d14194", func := "gossamer/gossamerlaw17.PruneOrder", spec := "pruneOrder", inPlace := ["internal/bytealg.abigen_runtime_cmpstring", "slices.overlaps[gossamer/api.Entry]", "slices.overlaps[string]"], unfollowed := true, recurses := true, plainKeys := false, apart := false, narrowed := true }
def PruneOrderUptoSaid : Prop := pruneOrderUptoRow.holds Tryz.pinned (OpenSpec.upto pruneOrderSpec)

end Rows
end Go.Proofs.YtaabaflgeljbjaaGreat
