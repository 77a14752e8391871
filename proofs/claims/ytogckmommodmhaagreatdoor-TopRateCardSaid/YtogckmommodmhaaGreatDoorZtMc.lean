import Derived.Test.YtogckmommodmhaaGreatDoorZt16
import Derived.Test.YtogckmommodmhaaGreatDoorZtMa
import Derived.Test.YtogckmommodmhaaGreatDoorZtMb
set_option maxHeartbeats 16000000
namespace Go.Proofs.YtogckmommodmhaaGreatDoor
open Go.RowKit
set_option linter.all false
set_option linter.unusedSimpArgs false
set_option maxRecDepth 100000
theorem Iu (b:Bool) (l:List Ac) (hl:mh l) (i:Nat):rT (Wa b l i):=It (We b l i) _ (ET hl i)
end Go.Proofs.YtogckmommodmhaaGreatDoor
