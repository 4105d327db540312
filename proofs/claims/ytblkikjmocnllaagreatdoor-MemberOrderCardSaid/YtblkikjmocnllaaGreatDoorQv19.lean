/- append to a row of the call's own, as one step of a region that draws. -/
import Derived.Test.YtblkikjmocnllaaGreatDoorQv02
import Derived.Deep.RegionLaw
set_option linter.unusedVariables false
set_option linter.unusedSimpArgs false
set_option linter.unusedSectionVars false
namespace Go.Proofs.YtblkikjmocnllaaGreatDoor
open Go.RowKit
end Go.Proofs.YtblkikjmocnllaaGreatDoor
