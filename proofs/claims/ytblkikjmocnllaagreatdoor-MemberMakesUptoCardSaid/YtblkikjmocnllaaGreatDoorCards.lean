/-
  DERIVED. GIVEN WITH THE SEED: THE CARDS: each row of YtblkikjmocnllaaGreatDoorRows.lean that lists a variable, with what it lists TIED to the program's text (the seventh form; the later family's looks); each row that meets fmt, with fmt's text TOLD by the authors' own Lean function (tested against real Go, not proved from fmt's source: count such statements apart). THE CARD IS WHAT COUNTS. Prove the row's statement (the work); the ties are given (YtblkikjmocnllaaGreatDoorTie.lean); close each card by the builder's one call (the guide's Derived/Test/ToyasCard.lean, 'card_holds'). Laid BY PROGRAM, IN A SANDBOX (cutbox-door.mjs). By AI agents, Wed Nov 11 2026. No macro, syntax, notation, axiom, sorry.
-/
import Derived.Test.YtblkikjmocnllaaGreatDoorRows
import GoSem.ClaimSeven
namespace Go.Proofs.YtblkikjmocnllaaGreatDoor
namespace Rows

/-- THE TIED CARD OF 'gossamerlaw20.MemberMakes'. -/
def memberMakesCard : Claim7 := { stood := { row := memberMakesRow, standIns := [], harness := (true, "72e0ca8385f4d1a8ac6acfd43ca54da02d9e9f1d66856de97416567bab6de55d"), looks := false }, kinds := [], alts := [], laidByText := true, laidKinds := [.data, .data, .data, .data, .pinned], laidTests := true, laidLooks := .later }
def MemberMakesCardSaid : Prop := Claim7.holds Tryz.pinned (.plain (OpenSpec.ofChange memberMakesSpec)) memberMakesCard

/-- THE TIED CARD OF 'gossamerlaw20.MemberOrder'. -/
def memberOrderCard : Claim7 := { stood := { row := memberOrderRow, standIns := [], harness := (true, "72e0ca8385f4d1a8ac6acfd43ca54da02d9e9f1d66856de97416567bab6de55d"), looks := false }, kinds := [], alts := [], laidByText := true, laidKinds := [.data, .data, .data, .data, .pinned], laidTests := true, laidLooks := .later }
def MemberOrderCardSaid : Prop := Claim7.holds Tryz.pinned (.plain (OpenSpec.ofChange memberOrderSpec)) memberOrderCard

/-- THE TIED CARD OF 'gossamerlaw20.MemberPaths'. -/
def memberPathsCard : Claim7 := { stood := { row := memberPathsRow, standIns := [], harness := (true, "72e0ca8385f4d1a8ac6acfd43ca54da02d9e9f1d66856de97416567bab6de55d"), looks := false }, kinds := [], alts := [], laidByText := true, laidKinds := [.data, .data, .data, .data, .pinned], laidTests := true, laidLooks := .later }
def MemberPathsCardSaid : Prop := Claim7.holds Tryz.pinned (.plain (OpenSpec.ofChange memberPathsSpec)) memberPathsCard

/-- THE TIED CARD OF 'gossamerlaw20.MemberVoid'. -/
def memberVoidCard : Claim7 := { stood := { row := memberVoidRow, standIns := [], harness := (true, "72e0ca8385f4d1a8ac6acfd43ca54da02d9e9f1d66856de97416567bab6de55d"), looks := false }, kinds := [], alts := [], laidByText := true, laidKinds := [.data, .data, .data, .data, .pinned], laidTests := true, laidLooks := .later }
def MemberVoidCardSaid : Prop := Claim7.holds Tryz.pinned (.plain (OpenSpec.ofChange memberVoidSpec)) memberVoidCard

/-- THE TIED CARD OF 'gossamerlaw20.MemberGone'. -/
def memberGoneCard : Claim7 := { stood := { row := memberGoneRow, standIns := [], harness := (true, "72e0ca8385f4d1a8ac6acfd43ca54da02d9e9f1d66856de97416567bab6de55d"), looks := false }, kinds := [], alts := [], laidByText := true, laidKinds := [.data, .data, .data, .data, .pinned], laidTests := true, laidLooks := .later }
def MemberGoneCardSaid : Prop := Claim7.holds Tryz.pinned (.plain (OpenSpec.ofChange memberGoneSpec)) memberGoneCard

/-- THE SECOND FORM's CARD OF 'gossamerlaw20.MemberMakes'. -/
def memberMakesUptoCard : Claim7 := { stood := { row := memberMakesUptoRow, standIns := [], harness := (true, "72e0ca8385f4d1a8ac6acfd43ca54da02d9e9f1d66856de97416567bab6de55d"), looks := false }, kinds := [], alts := [], laidByText := true, laidKinds := [.data, .data, .data, .data, .pinned], laidTests := true, laidLooks := .later }
def MemberMakesUptoCardSaid : Prop := Claim7.holds Tryz.pinned (.plain (OpenSpec.upto memberMakesSpec)) memberMakesUptoCard

/-- THE SECOND FORM's CARD OF 'gossamerlaw20.MemberOrder'. -/
def memberOrderUptoCard : Claim7 := { stood := { row := memberOrderUptoRow, standIns := [], harness := (true, "72e0ca8385f4d1a8ac6acfd43ca54da02d9e9f1d66856de97416567bab6de55d"), looks := false }, kinds := [], alts := [], laidByText := true, laidKinds := [.data, .data, .data, .data, .pinned], laidTests := true, laidLooks := .later }
def MemberOrderUptoCardSaid : Prop := Claim7.holds Tryz.pinned (.plain (OpenSpec.upto memberOrderSpec)) memberOrderUptoCard

/-- THE SECOND FORM's CARD OF 'gossamerlaw20.MemberPaths'. -/
def memberPathsUptoCard : Claim7 := { stood := { row := memberPathsUptoRow, standIns := [], harness := (true, "72e0ca8385f4d1a8ac6acfd43ca54da02d9e9f1d66856de97416567bab6de55d"), looks := false }, kinds := [], alts := [], laidByText := true, laidKinds := [.data, .data, .data, .data, .pinned], laidTests := true, laidLooks := .later }
def MemberPathsUptoCardSaid : Prop := Claim7.holds Tryz.pinned (.plain (OpenSpec.upto memberPathsSpec)) memberPathsUptoCard

/-- THE SECOND FORM's CARD OF 'gossamerlaw20.MemberVoid'. -/
def memberVoidUptoCard : Claim7 := { stood := { row := memberVoidUptoRow, standIns := [], harness := (true, "72e0ca8385f4d1a8ac6acfd43ca54da02d9e9f1d66856de97416567bab6de55d"), looks := false }, kinds := [], alts := [], laidByText := true, laidKinds := [.data, .data, .data, .data, .pinned], laidTests := true, laidLooks := .later }
def MemberVoidUptoCardSaid : Prop := Claim7.holds Tryz.pinned (.plain (OpenSpec.upto memberVoidSpec)) memberVoidUptoCard

/-- THE SECOND FORM's CARD OF 'gossamerlaw20.MemberGone'. -/
def memberGoneUptoCard : Claim7 := { stood := { row := memberGoneUptoRow, standIns := [], harness := (true, "72e0ca8385f4d1a8ac6acfd43ca54da02d9e9f1d66856de97416567bab6de55d"), looks := false }, kinds := [], alts := [], laidByText := true, laidKinds := [.data, .data, .data, .data, .pinned], laidTests := true, laidLooks := .later }
def MemberGoneUptoCardSaid : Prop := Claim7.holds Tryz.pinned (.plain (OpenSpec.upto memberGoneSpec)) memberGoneUptoCard
end Rows
end Go.Proofs.YtblkikjmocnllaaGreatDoor
