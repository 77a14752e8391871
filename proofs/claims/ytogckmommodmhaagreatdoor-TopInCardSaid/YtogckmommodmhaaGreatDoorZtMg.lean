import Derived.Test.YtogckmommodmhaaGreatDoorZt8
import Derived.Test.YtogckmommodmhaaGreatDoorZt16
import Derived.Test.YtogckmommodmhaaGreatDoorZt14
import Derived.Test.YtogckmommodmhaaGreatDoorZtMa
import Derived.Test.YtogckmommodmhaaGreatDoorZtMb
import Derived.Test.YtogckmommodmhaaGreatDoorZtMc
import Derived.Test.YtogckmommodmhaaGreatDoorZtMe
set_option maxHeartbeats 16000000
namespace Go.Proofs.YtogckmommodmhaaGreatDoor
open Go.RowKit
set_option linter.all false
set_option linter.unusedSimpArgs false
set_option maxRecDepth 100000
def W6:List SK:=List.replicate 11 (.int .i64)++[.str]
theorem Yca:jh Tryz.prog 100 61=some W6:=by kernel_rfl
theorem W7 (p:Pk):p.enc.map Zi=W6.map some:=rfl
theorem W8 {c:Cx} {ne:Bool} (p:Pk):jN Tryz.prog c (.cA ne 61) [.agg p.enc,.agg p.enc] (.bool (ne != true)) :=
 Cr Yca (by kernel_rfl) (by kernel_rfl) (W7 p) (W7 p) au
theorem W9 {f:List UInt8} (h:bP f=0):Ji (az f)∧¬ Wd (az f):=⟨(Wb (BD h).e).2.1,(Wb (BD h).e).2.2.2⟩
end Go.Proofs.YtogckmommodmhaaGreatDoor
