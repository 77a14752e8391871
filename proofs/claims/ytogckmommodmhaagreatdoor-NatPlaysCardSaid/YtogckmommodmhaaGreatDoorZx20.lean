import Derived.Test.YtogckmommodmhaaGreatDoorZx18
namespace Go.Proofs.YtogckmommodmhaaGreatDoor
open Go.RowKit
open Go.RowKit Go.ChangeShapes Go.WideShapes Go.Deep
set_option linter.all false
set_option maxRecDepth 100000
end Go.Proofs.YtogckmommodmhaaGreatDoor
