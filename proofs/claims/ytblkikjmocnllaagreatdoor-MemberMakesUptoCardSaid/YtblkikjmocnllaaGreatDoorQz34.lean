/- Laws. -/
import Derived.Test.YtblkikjmocnllaaGreatDoorQz24
import Derived.Test.YtblkikjmocnllaaGreatDoorQz02
set_option linter.unusedVariables false
set_option linter.unusedSimpArgs false
set_option maxRecDepth 100000
set_option maxHeartbeats 40000000
namespace Go.Proofs.YtblkikjmocnllaaGreatDoor
section
open Go.RowKit
section
variable {P:Program} {ops:Array Oper} {Q:Exit->Act->World->Prop}
end
section
variable {P:Program} {Q:Exit->Act->World->Prop} {a0:Act}
end
section
variable {P:Program} {ops:Array Oper} {Q:Exit->Act->World->Prop}
variable {n N:Nat} {a0:Act} {w0:World} {R:Nat->Value->World->Prop} {fr:List Nat}
end
section
variable {P:Program} {ops:Array Oper} {Q:Exit->Act->World->Prop}
variable {n N:Nat} {a0:Act} {w0:World} {R:Nat->Value->World->Prop} {fr:List Nat} {RG:Nat->Value->Nat × Nat->World->Prop}
end
end
end Go.Proofs.YtblkikjmocnllaaGreatDoor
