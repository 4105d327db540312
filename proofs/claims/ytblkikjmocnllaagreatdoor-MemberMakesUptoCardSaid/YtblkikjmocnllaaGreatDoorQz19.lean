/- append to a row of the call's own, as one step of a region that draws. -/
import Derived.Test.YtblkikjmocnllaaGreatDoorQz01
import Derived.Deep.RegionLaw
set_option linter.unusedVariables false
set_option linter.unusedSimpArgs false
set_option maxRecDepth 100000
set_option maxHeartbeats 40000000
namespace Go.Proofs.YtblkikjmocnllaaGreatDoor
section
open Go.RowKit
end
end Go.Proofs.YtblkikjmocnllaaGreatDoor
