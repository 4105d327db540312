/-
  No cell of these rows narrows 'for every input' (looked for: loops, veiled, ifaces, maps, wideKeys, modest, calm, conditions, laid).
  DERIVED. THE GIVEN ROWS OF THIS SEAT. 8 by the template 'for every input the law returns true; each argument reads behind the call as it read before'; 0 by the template 'total and deterministic' (their statements: YtdikcgmdmcfpfaaGreatTotals.lean).
  GIVEN WITH THE SEED: the statements are not yours to turn. If you find one false, say at which input.
  Laid BY PROGRAM, IN A SANDBOX (cutbox-rows.mjs): the forced cells as the released guide's own fill.sh prints them over the translation 83183613bbcc72e1… (all of the seat's roots in one cut). By AI agents, Wed Nov 11 2026. No macro, syntax, notation, axiom, sorry.
-/
import Derived.Test.YtdikcgmdmcfpfaaGreatChecked
import GoSem.Claim
import GoSem.ClaimJoined
import GoSem.ClaimMapViews
import Derived.JoinedTies
import Derived.KernelRfl
namespace Go.Proofs.YtdikcgmdmcfpfaaGreat
/- THE CELL 'sum', in the pinned program and in every row, IS THE sha256 OF THE DUMP (.gsa) THAT YtdikcgmdmcfpfaaGreatProg.lean LOADS. Nothing in Lean hashes anything: it is a label: what it is worth is what the hold of that sum in a sandbox is worth. -/
noncomputable def Tryz.pinned : Pinned := { name := "ytdikcgmdmcfpfaagreat", sum := "83183613bbcc72e13f96419e301a6a36fac83fa280d7eceb21bf4835291d1a2a", checked := Tryz.checked }
namespace Rows
def none {H : Type} : Left H := { results := [], args := [] }

/-- 'gossamerlaw16.StateFull': WHATEVER THE INPUT: true; the input reads as it did. -/
def stateFullSpec : ChangeSpec := { name := "stateFull", fn := fun _ => fun
  | [d] => { results := [.lit (.bool true)], args := [d] }
  | _ => none }
def stateFullRow : OpenClaim := { program := "ytdikcgmdmcfpfaagreat", sum := "83183613bbcc72e13f96419e301a6a36fac83fa280d7eceb21bf4835291d1a2a", func := "gossamer/gossamerlaw16.StateFull", spec := "stateFull", inPlace := ["internal/bytealg.abigen_runtime_cmpstring", "slices.overlaps[gossamer/api.Entry]"], unfollowed := true, recurses := true, plainKeys := false, apart := false }
def StateFullSaid : Prop := stateFullRow.holds Tryz.pinned (OpenSpec.ofChange stateFullSpec)

/-- ITS FALSE NEIGHBOUR: 'it returns false'. Refute it at one input. -/
def stateFullWrong : ChangeSpec := { name := "stateFull", fn := fun _ => fun
  | [d] => { results := [.lit (.bool false)], args := [d] }
  | _ => none }
def StateFullWrongFalsely : Prop := stateFullRow.holds Tryz.pinned (OpenSpec.ofChange stateFullWrong)

/-- 'gossamerlaw16.StateModel': WHATEVER THE INPUT: true; the input reads as it did. -/
def stateModelSpec : ChangeSpec := { name := "stateModel", fn := fun _ => fun
  | [d1, d2] => { results := [.lit (.bool true)], args := [d1, d2] }
  | _ => none }
def stateModelRow : OpenClaim := { program := "ytdikcgmdmcfpfaagreat", sum := "83183613bbcc72e13f96419e301a6a36fac83fa280d7eceb21bf4835291d1a2a", func := "gossamer/gossamerlaw16.StateModel", spec := "stateModel", inPlace := ["internal/bytealg.abigen_runtime_cmpstring", "slices.overlaps[gossamer/api.Entry]"], unfollowed := true, recurses := true, plainKeys := false, apart := false }
def StateModelSaid : Prop := stateModelRow.holds Tryz.pinned (OpenSpec.ofChange stateModelSpec)

/-- ITS FALSE NEIGHBOUR: 'it returns false'. Refute it at one input. -/
def stateModelWrong : ChangeSpec := { name := "stateModel", fn := fun _ => fun
  | [d1, d2] => { results := [.lit (.bool false)], args := [d1, d2] }
  | _ => none }
def StateModelWrongFalsely : Prop := stateModelRow.holds Tryz.pinned (OpenSpec.ofChange stateModelWrong)

/-- 'gossamerlaw16.StateOrder': WHATEVER THE INPUT: true; the input reads as it did. -/
def stateOrderSpec : ChangeSpec := { name := "stateOrder", fn := fun _ => fun
  | [d] => { results := [.lit (.bool true)], args := [d] }
  | _ => none }
def stateOrderRow : OpenClaim := { program := "ytdikcgmdmcfpfaagreat", sum := "83183613bbcc72e13f96419e301a6a36fac83fa280d7eceb21bf4835291d1a2a", func := "gossamer/gossamerlaw16.StateOrder", spec := "stateOrder", inPlace := ["internal/bytealg.abigen_runtime_cmpstring", "slices.overlaps[gossamer/api.Entry]"], unfollowed := true, recurses := true, plainKeys := false, apart := false }
def StateOrderSaid : Prop := stateOrderRow.holds Tryz.pinned (OpenSpec.ofChange stateOrderSpec)

/-- ITS FALSE NEIGHBOUR: 'it returns false'. Refute it at one input. -/
def stateOrderWrong : ChangeSpec := { name := "stateOrder", fn := fun _ => fun
  | [d] => { results := [.lit (.bool false)], args := [d] }
  | _ => none }
def StateOrderWrongFalsely : Prop := stateOrderRow.holds Tryz.pinned (OpenSpec.ofChange stateOrderWrong)

/-- 'gossamerlaw16.StateOwn': WHATEVER THE INPUT: true; the input reads as it did. -/
def stateOwnSpec : ChangeSpec := { name := "stateOwn", fn := fun _ => fun
  | [d1, d2, d3, d4] => { results := [.lit (.bool true)], args := [d1, d2, d3, d4] }
  | _ => none }
def stateOwnRow : OpenClaim := { program := "ytdikcgmdmcfpfaagreat", sum := "83183613bbcc72e13f96419e301a6a36fac83fa280d7eceb21bf4835291d1a2a", func := "gossamer/gossamerlaw16.StateOwn", spec := "stateOwn", inPlace := ["internal/bytealg.abigen_runtime_cmpstring", "slices.overlaps[gossamer/api.Entry]"], unfollowed := true, recurses := true, plainKeys := false, apart := false }
def StateOwnSaid : Prop := stateOwnRow.holds Tryz.pinned (OpenSpec.ofChange stateOwnSpec)

/-- ITS FALSE NEIGHBOUR: 'it returns false'. Refute it at one input. -/
def stateOwnWrong : ChangeSpec := { name := "stateOwn", fn := fun _ => fun
  | [d1, d2, d3, d4] => { results := [.lit (.bool false)], args := [d1, d2, d3, d4] }
  | _ => none }
def StateOwnWrongFalsely : Prop := stateOwnRow.holds Tryz.pinned (OpenSpec.ofChange stateOwnWrong)

/-- 'gossamerlaw16.StateSince': WHATEVER THE INPUT: true; the input reads as it did. -/
def stateSinceSpec : ChangeSpec := { name := "stateSince", fn := fun _ => fun
  | [d1, d2, d3] => { results := [.lit (.bool true)], args := [d1, d2, d3] }
  | _ => none }
def stateSinceRow : OpenClaim := { program := "ytdikcgmdmcfpfaagreat", sum := "83183613bbcc72e13f96419e301a6a36fac83fa280d7eceb21bf4835291d1a2a", func := "gossamer/gossamerlaw16.StateSince", spec := "stateSince", inPlace := ["internal/bytealg.abigen_runtime_cmpstring", "slices.overlaps[gossamer/api.Entry]"], unfollowed := true, recurses := true, plainKeys := false, apart := false }
def StateSinceSaid : Prop := stateSinceRow.holds Tryz.pinned (OpenSpec.ofChange stateSinceSpec)

/-- ITS FALSE NEIGHBOUR: 'it returns false'. Refute it at one input. -/
def stateSinceWrong : ChangeSpec := { name := "stateSince", fn := fun _ => fun
  | [d1, d2, d3] => { results := [.lit (.bool false)], args := [d1, d2, d3] }
  | _ => none }
def StateSinceWrongFalsely : Prop := stateSinceRow.holds Tryz.pinned (OpenSpec.ofChange stateSinceWrong)

/-- 'gossamerlaw16.StateCopies': WHATEVER THE INPUT: true; the input reads as it did. -/
def stateCopiesSpec : ChangeSpec := { name := "stateCopies", fn := fun _ => fun
  | [d1, d2, d3, d4] => { results := [.lit (.bool true)], args := [d1, d2, d3, d4] }
  | _ => none }
def stateCopiesRow : OpenClaim := { program := "ytdikcgmdmcfpfaagreat", sum := "83183613bbcc72e13f96419e301a6a36fac83fa280d7eceb21bf4835291d1a2a", func := "gossamer/gossamerlaw16.StateCopies", spec := "stateCopies", inPlace := ["internal/bytealg.abigen_runtime_cmpstring", "slices.overlaps[gossamer/api.Entry]"], unfollowed := true, recurses := true, plainKeys := false, apart := false }
def StateCopiesSaid : Prop := stateCopiesRow.holds Tryz.pinned (OpenSpec.ofChange stateCopiesSpec)

/-- ITS FALSE NEIGHBOUR: 'it returns false'. Refute it at one input. -/
def stateCopiesWrong : ChangeSpec := { name := "stateCopies", fn := fun _ => fun
  | [d1, d2, d3, d4] => { results := [.lit (.bool false)], args := [d1, d2, d3, d4] }
  | _ => none }
def StateCopiesWrongFalsely : Prop := stateCopiesRow.holds Tryz.pinned (OpenSpec.ofChange stateCopiesWrong)

/-- 'gossamerlaw16.StateJoins': WHATEVER THE INPUT: true; the input reads as it did. -/
def stateJoinsSpec : ChangeSpec := { name := "stateJoins", fn := fun _ => fun
  | [d1, d2, d3, d4] => { results := [.lit (.bool true)], args := [d1, d2, d3, d4] }
  | _ => none }
def stateJoinsRow : OpenClaim := { program := "ytdikcgmdmcfpfaagreat", sum := "83183613bbcc72e13f96419e301a6a36fac83fa280d7eceb21bf4835291d1a2a", func := "gossamer/gossamerlaw16.StateJoins", spec := "stateJoins", inPlace := ["internal/bytealg.abigen_runtime_cmpstring", "slices.overlaps[gossamer/api.Entry]"], unfollowed := true, recurses := true, plainKeys := false, apart := false }
def StateJoinsSaid : Prop := stateJoinsRow.holds Tryz.pinned (OpenSpec.ofChange stateJoinsSpec)

/-- ITS FALSE NEIGHBOUR: 'it returns false'. Refute it at one input. -/
def stateJoinsWrong : ChangeSpec := { name := "stateJoins", fn := fun _ => fun
  | [d1, d2, d3, d4] => { results := [.lit (.bool false)], args := [d1, d2, d3, d4] }
  | _ => none }
def StateJoinsWrongFalsely : Prop := stateJoinsRow.holds Tryz.pinned (OpenSpec.ofChange stateJoinsWrong)

/-- 'gossamerlaw17.PruneOthers': WHATEVER THE INPUT: true; the input reads as it did. -/
def pruneOthersSpec : ChangeSpec := { name := "pruneOthers", fn := fun _ => fun
  | [d1, d2] => { results := [.lit (.bool true)], args := [d1, d2] }
  | _ => none }
def pruneOthersRow : OpenClaim := { program := "ytdikcgmdmcfpfaagreat", sum := "83183613bbcc72e13f96419e301a6a36fac83fa280d7eceb21bf4835291d1a2a", func := "gossamer/gossamerlaw17.PruneOthers", spec := "pruneOthers", inPlace := ["internal/bytealg.abigen_runtime_cmpstring", "slices.overlaps[gossamer/api.Entry]", "slices.overlaps[string]"], unfollowed := true, recurses := true, plainKeys := false, apart := false }
def PruneOthersSaid : Prop := pruneOthersRow.holds Tryz.pinned (OpenSpec.ofChange pruneOthersSpec)

/-- ITS FALSE NEIGHBOUR: 'it returns false'. Refute it at one input. -/
def pruneOthersWrong : ChangeSpec := { name := "pruneOthers", fn := fun _ => fun
  | [d1, d2] => { results := [.lit (.bool false)], args := [d1, d2] }
  | _ => none }
def PruneOthersWrongFalsely : Prop := pruneOthersRow.holds Tryz.pinned (OpenSpec.ofChange pruneOthersWrong)

/- THE SECOND FORM. 'bulk': how many values and letters a reading holds, each counted each time it is reached (what is shared counts as often as it is met; a slice's spare places count too). A statement '..UptoSaid' is the law's where the arguments, and the package variables that the reading takes, are together of bulk at most 1048576: NARROWER than '..Said'. Prove '..Said' where nothing that the law and all that it calls make is longer than what came in: it says more and counts as full. Else prove '..UptoSaid'. A law counts once. -/
mutual
def uptoBulk {H : Type} : DataW H → Nat
  | .lit (.string bytes) => bytes.length + 1
  | .lit _ => 1
  | .nil => 1
  | .ptr d => uptoBulk d + 1
  | .slice elems spare => uptoBulkAll elems + uptoBulkAll spare + 1
  | .agg parts => uptoBulkAll parts + 1
  | .iface _ d => uptoBulk d + 1
  | .map entries => uptoBulkEntries entries + 1
  | .held _ => 1
def uptoBulkAll {H : Type} : List (DataW H) → Nat
  | [] => 0
  | d :: r => uptoBulk d + uptoBulkAll r
def uptoBulkEntries {H : Type} : List (Lit × DataW H) → Nat
  | [] => 0
  | x :: r => uptoBulkEntry x + uptoBulkEntries r
def uptoBulkEntry {H : Type} : Lit × DataW H → Nat
  | (.string bytes, d) => bytes.length + uptoBulk d + 1
  | (_, d) => uptoBulk d + 1
 end
def uptoSmall : (H : Type) → List (DataW H) → Bool := fun _ ds => decide (uptoBulkAll ds ≤ 1048576)
def OpenSpec.upto (s : _root_.Go.ChangeSpec) : _root_.Go.OpenSpec := { _root_.Go.OpenSpec.ofChange s with cond := some uptoSmall }

/-- 'gossamerlaw16.StateFull', WHERE WHAT IT READS IS OF BULK AT MOST 1048576: true; the input reads as it did. -/
def stateFullUptoRow : OpenClaim := { program := "ytdikcgmdmcfpfaagreat", sum := "83183613bbcc72e13f96419e301a6a36fac83fa280d7eceb21bf4835291d1a2a", func := "gossamer/gossamerlaw16.StateFull", spec := "stateFull", inPlace := ["internal/bytealg.abigen_runtime_cmpstring", "slices.overlaps[gossamer/api.Entry]"], unfollowed := true, recurses := true, plainKeys := false, apart := false, narrowed := true }
def StateFullUptoSaid : Prop := stateFullUptoRow.holds Tryz.pinned (OpenSpec.upto stateFullSpec)

/-- 'gossamerlaw16.StateModel', WHERE WHAT IT READS IS OF BULK AT MOST 1048576: true; the input reads as it did. -/
def stateModelUptoRow : OpenClaim := { program := "ytdikcgmdmcfpfaagreat", sum := "83183613bbcc72e13f96419e301a6a36fac83fa280d7eceb21bf4835291d1a2a", func := "gossamer/gossamerlaw16.StateModel", spec := "stateModel", inPlace := ["internal/bytealg.abigen_runtime_cmpstring", "slices.overlaps[gossamer/api.Entry]"], unfollowed := true, recurses := true, plainKeys := false, apart := false, narrowed := true }
def StateModelUptoSaid : Prop := stateModelUptoRow.holds Tryz.pinned (OpenSpec.upto stateModelSpec)

/-- 'gossamerlaw16.StateOrder', WHERE WHAT IT READS IS OF BULK AT MOST 1048576: true; the input reads as it did. -/
def stateOrderUptoRow : OpenClaim := { program := "ytdikcgmdmcfpfaagreat", sum := "83183613bbcc72e13f96419e301a6a36fac83fa280d7eceb21bf4835291d1a2a", func := "gossamer/gossamerlaw16.StateOrder", spec := "stateOrder", inPlace := ["internal/bytealg.abigen_runtime_cmpstring", "slices.overlaps[gossamer/api.Entry]"], unfollowed := true, recurses := true, plainKeys := false, apart := false, narrowed := true }
def StateOrderUptoSaid : Prop := stateOrderUptoRow.holds Tryz.pinned (OpenSpec.upto stateOrderSpec)

/-- 'gossamerlaw16.StateOwn', WHERE WHAT IT READS IS OF BULK AT MOST 1048576: true; the input reads as it did. -/
def stateOwnUptoRow : OpenClaim := { program := "ytdikcgmdmcfpfaagreat", sum := "83183613bbcc72e13f96419e301a6a36fac83fa280d7eceb21bf4835291d1a2a", func := "gossamer/gossamerlaw16.StateOwn", spec := "stateOwn", inPlace := ["internal/bytealg.abigen_runtime_cmpstring", "slices.overlaps[gossamer/api.Entry]"], unfollowed := true, recurses := true, plainKeys := false, apart := false, narrowed := true }
def StateOwnUptoSaid : Prop := stateOwnUptoRow.holds Tryz.pinned (OpenSpec.upto stateOwnSpec)

/-- 'gossamerlaw16.StateSince', WHERE WHAT IT READS IS OF BULK AT MOST 1048576: true; the input reads as it did. -/
def stateSinceUptoRow : OpenClaim := { program := "ytdikcgmdmcfpfaagreat", sum := "83183613bbcc72e13f96419e301a6a36fac83fa280d7eceb21bf4835291d1a2a", func := "gossamer/gossamerlaw16.StateSince", spec := "stateSince", inPlace := ["internal/bytealg.abigen_runtime_cmpstring", "slices.overlaps[gossamer/api.Entry]"], unfollowed := true, recurses := true, plainKeys := false, apart := false, narrowed := true }
def StateSinceUptoSaid : Prop := stateSinceUptoRow.holds Tryz.pinned (OpenSpec.upto stateSinceSpec)

/-- 'gossamerlaw16.StateCopies', WHERE WHAT IT READS IS OF BULK AT MOST 1048576: true; the input reads as it did. -/
def stateCopiesUptoRow : OpenClaim := { program := "ytdikcgmdmcfpfaagreat", sum := "83183613bbcc72e13f96419e301a6a36fac83fa280d7eceb21bf4835291d1a2a", func := "gossamer/gossamerlaw16.StateCopies", spec := "stateCopies", inPlace := ["internal/bytealg.abigen_runtime_cmpstring", "slices.overlaps[gossamer/api.Entry]"], unfollowed := true, recurses := true, plainKeys := false, apart := false, narrowed := true }
def StateCopiesUptoSaid : Prop := stateCopiesUptoRow.holds Tryz.pinned (OpenSpec.upto stateCopiesSpec)

/-- 'gossamerlaw16.StateJoins', WHERE WHAT IT READS IS OF BULK AT MOST 1048576: true; the input reads as it did. -/
def stateJoinsUptoRow : OpenClaim := { program := "ytdikcgmdmcfpfaagreat", sum := "83183613bbcc72e13f96419e301a6a36fac83fa280d7eceb21bf4835291d1a2a", func := "gossamer/gossamerlaw16.StateJoins", spec := "stateJoins", inPlace := ["internal/bytealg.abigen_runtime_cmpstring", "slices.overlaps[gossamer/api.Entry]"], unfollowed := true, recurses := true, plainKeys := false, apart := false, narrowed := true }
def StateJoinsUptoSaid : Prop := stateJoinsUptoRow.holds Tryz.pinned (OpenSpec.upto stateJoinsSpec)

/-- 'gossamerlaw17.PruneOthers', WHERE WHAT IT READS IS OF BULK AT MOST 1048576: true; the input reads as it did. -/
def pruneOthersUptoRow : OpenClaim := { program := "ytdikcgmdmcfpfaagreat", sum := "83183613bbcc72e13f96419e301a6a36fac83fa280d7eceb21bf4835291d1a2a", func := "gossamer/gossamerlaw17.PruneOthers", spec := "pruneOthers", inPlace := ["internal/bytealg.abigen_runtime_cmpstring", "slices.overlaps[gossamer/api.Entry]", "slices.overlaps[string]"], unfollowed := true, recurses := true, plainKeys := false, apart := false, narrowed := true }
def PruneOthersUptoSaid : Prop := pruneOthersUptoRow.holds Tryz.pinned (OpenSpec.upto pruneOthersSpec)

end Rows
end Go.Proofs.YtdikcgmdmcfpfaaGreat
