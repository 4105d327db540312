/- Contracts of the functions that the statement goes through, and plain laws of them. -/
import Derived.Test.YtblkikjmocnllaaGreatDoorQv28
import Derived.Test.YtblkikjmocnllaaGreatDoorQv05
set_option linter.unusedVariables false
set_option linter.unusedSimpArgs false
set_option linter.unusedSectionVars false
namespace Go.Proofs.YtblkikjmocnllaaGreatDoor
open Go.RowKit
section
variable {P : Program} {ops : Array Oper} {Q : Exit → Act → World → Prop}
end
section
variable {P : Program} {Q : Exit → Act → World → Prop} {a0 : Act}
end
end Go.Proofs.YtblkikjmocnllaaGreatDoor
namespace Go.Proofs.YtblkikjmocnllaaGreatDoor
open Go.RowKit
def LowP (v : Value) (w : World) : Prop := ∃ g, v = .pointer (some ⟨g, 0, none⟩) ∧ g < w.heap.size
def FreshP (v : Value) (w w' : World) : Prop := ∃ g, v = .pointer (some ⟨g, 0, none⟩) ∧ w.heap.size ≤ g ∧ g < w'.heap.size
theorem LowP.ext {v : Value} {w w' : World} (h : LowP v w) (he : Ext w w') : LowP v w' := by obtain ⟨g, e, h⟩ := h; exact ⟨g, e, Nat.lt_of_lt_of_le h he.size⟩
theorem FreshP.low {v : Value} {w w' : World} (h : FreshP v w w') : LowP v w' := by obtain ⟨g, e, _, h⟩ := h; exact ⟨g, e, h⟩
def freshQ (fr : List Nat) (dst : Option Tmp) (r : Value → World → Prop) (w : World) (v : Value) (w' : World) : Prop := r v w' ∧ match dst with
 | none => True
 | some d => d ∈ fr → FreshP v w w'
section
variable {P : Program} {ops : Array Oper} {Q : Exit → Act → World → Prop}
variable {n N : Nat} {a0 : Act} {w0 : World} {R : Nat → Value → World → Prop} {fr : List Nat}
structure RInvA (ops : Array Oper) (n : Nat) (fr : List Nat) (listed : Array Bool) (a : Act) (w : World) : Prop where
 low : ∀ d i, d ∈ fr → dstIdx ops n d = some i → listed.getD i false = true → LowP (a.eval (.tmp d)) w
 apart : ∀ d i e j, d ∈ fr → e ∈ fr → d ≠ e → dstIdx ops n d = some i → dstIdx ops n e = some j → listed.getD i false = true → listed.getD j false = true → a.eval (.tmp d) ≠ a.eval (.tmp e)
def stepsAllA (P : Program) (ops : Array Oper) (n : Nat) (a0 : Act) (w0 : World) (R : Nat → Value → World → Prop) (fr : List Nat) : List Oper → List (Value → World → Prop) → Prop
 | o :: l, r :: rs => (∀ (x : Nat → Value) (w : World), Ext w0 w → slotFacts ops n a0 R x w (o.looksAt ops) → wpList P ops (stepQ (InvAct a0.tmps.size a0.defers x) o.dst (freshQ fr o.dst r w) w) [o] (InvAct a0.tmps.size a0.defers x) w) ∧ stepsAllA P ops n a0 w0 R fr l rs
 | [], [] => True
 | _, _ => False
def apartL (x : Nat → Value) : List Nat → Prop
 | [] => True
 | d :: l => (∀ e ∈ l, x d ≠ x e) ∧ apartL x l
end
end Go.Proofs.YtblkikjmocnllaaGreatDoor
namespace Go.Proofs.YtblkikjmocnllaaGreatDoor
open Go.RowKit
def ghostQ (fr : List Nat) (RG : Nat → Value → Nat × Nat → World → Prop) (dst : Option Tmp) (r : Value → World → Prop) (w : World) (v : Value) (w' : World) : Prop := r v w' ∧ match dst with
 | none => True
 | some d => d ∈ fr → RG d v (w.heap.size, w'.heap.size) w'
def farG (p q : Nat × Nat) : Prop := p.2 ≤ q.1 ∨ q.2 ≤ p.1
section
variable {P : Program} {ops : Array Oper} {Q : Exit → Act → World → Prop}
variable {n N : Nat} {a0 : Act} {w0 : World} {R : Nat → Value → World → Prop} {fr : List Nat} {RG : Nat → Value → Nat × Nat → World → Prop}
structure RInvG (ops : Array Oper) (n : Nat) (fr : List Nat) (RG : Nat → Value → Nat × Nat → World → Prop) (listed : Array Bool) (a : Act) (w : World) (gh : Nat → Nat × Nat) : Prop where
 low : ∀ d i, d ∈ fr → dstIdx ops n d = some i → listed.getD i false = true → RG d (a.eval (.tmp d)) (gh d) w ∧ (gh d).2 ≤ w.heap.size
 apart : ∀ d i e j, d ∈ fr → e ∈ fr → d ≠ e → dstIdx ops n d = some i → dstIdx ops n e = some j → listed.getD i false = true → listed.getD j false = true → farG (gh d) (gh e)
def stepsAllG (P : Program) (ops : Array Oper) (n : Nat) (a0 : Act) (w0 : World) (R : Nat → Value → World → Prop) (fr : List Nat) (RG : Nat → Value → Nat × Nat → World → Prop) : List Oper → List (Value → World → Prop) → Prop
 | o :: l, r :: rs => (∀ (x : Nat → Value) (w : World), Ext w0 w → slotFacts ops n a0 R x w (o.looksAt ops) → wpList P ops (stepQ (InvAct a0.tmps.size a0.defers x) o.dst (ghostQ fr RG o.dst r w) w) [o] (InvAct a0.tmps.size a0.defers x) w) ∧ stepsAllG P ops n a0 w0 R fr RG l rs
 | [], [] => True
 | _, _ => False
def farL (gh : Nat → Nat × Nat) : List Nat → Prop
 | [] => True
 | d :: l => (∀ e ∈ l, farG (gh d) (gh e)) ∧ farL gh l
end
end Go.Proofs.YtblkikjmocnllaaGreatDoor
