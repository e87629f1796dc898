/-What the call of the law needs:how what came in is read. -/
import Derived.Test.YtebiafomiemgbaaGreatDoorWMtU5x2
set_option linter.unusedVariables false set_option linter.unusedSimpArgs false set_option linter.unusedVariables false
set_option linter.unusedSimpArgs false
namespace Go.Proofs.YtebiafomiemgbaaGreatDoor
set_option maxHeartbeats 8000000
open Go.RowKit
open Go.RowKit
open Go.RowKit
open Go.RowKit Go.ChangeShapes Go.WideShapes Go.ChangeAt Go.Deep
variable {P : Program}
end Go.Proofs.YtebiafomiemgbaaGreatDoor
namespace Go.Proofs.YtebiafomiemgbaaGreatDoor.Sw
open Go.Proofs.YtebiafomiemgbaaGreatDoor renaming lo → qL, hi → qH
open Go.RowKit
set_option maxRecDepth 10000
end Go.Proofs.YtebiafomiemgbaaGreatDoor.Sw
namespace Go.Proofs.YtebiafomiemgbaaGreatDoor
end Go.Proofs.YtebiafomiemgbaaGreatDoor
namespace Go.Proofs.YtebiafomiemgbaaGreatDoor.Sw
open Go.Proofs.YtebiafomiemgbaaGreatDoor renaming lo → qL, hi → qH
open Go.RowKit
set_option maxRecDepth 10000
set_option maxRecDepth 10000
open Go.RowKit
set_option maxRecDepth 10000
set_option maxRecDepth 10000
open Go.RowKit
set_option maxRecDepth 10000
set_option maxRecDepth 10000
open Go.RowKit
set_option maxRecDepth 10000
end Go.Proofs.YtebiafomiemgbaaGreatDoor.Sw

set_option linter.unusedVariables false set_option linter.unusedSimpArgs false set_option linter.unusedVariables false
set_option linter.unusedSimpArgs false
namespace Go.Proofs.YtebiafomiemgbaaGreatDoor.Sw
set_option maxHeartbeats 8000000
open Go.Proofs.YtebiafomiemgbaaGreatDoor renaming lo → qL, hi → qH
open Go.RowKit
set_option maxRecDepth 10000
set_option maxRecDepth 100000
open Go.RowKit
set_option maxRecDepth 10000
set_option maxRecDepth 10000
open Go.RowKit
set_option maxRecDepth 10000
end Go.Proofs.YtebiafomiemgbaaGreatDoor.Sw
