import Derived.Test.YtogckmommodmhaaGreatDoorZt2
import Derived.Test.YtogckmommodmhaaGreatDoorRows
import Derived.WalkKit
import Derived.ProofKit
import Derived.OpenShut
import Derived.ShutString
import Derived.SizedLaws
import Derived.ChangeOld
import Derived.Below
set_option maxHeartbeats 16000000
namespace Go.Proofs.YtogckmommodmhaaGreatDoor
open Go.ChangeMaps (open_string shut_string)
open Go.ChangeShapes Go.WideShapes Go.ChangeAt Go.RowKit
open Go.RowKit
set_option linter.all false
set_option linter.unusedSimpArgs false
set_option maxRecDepth 100000
section
variable {H:Type} {enc:TypeId × Value→H} {P:Program} {W:World} {b0 b:Nat} {sp:Nat→Bool} {held:Bool}
theorem BF {t:TypeId} {v:Value} {d:DataW H} (ht:P.underlying t=some (.int .i64)) (eO:Value.okWide P W .any b0 t v) {p} (hd:DataW.Trod enc P W b sp held t v d p) :
  ∃ n:Int,v=.int .i64 n∧-9223372036854775808≤n∧n≤9223372036854775807:=by
 obtain ⟨n,h1,h2,_,hw⟩:=open_int ht eO hd
 simp[Lit.wf,IntKind.min,IntKind.max,IntKind.bits,IntKind.signed]at hw
 exact ⟨n,h1,by omega,by omega⟩
end
end Go.Proofs.YtogckmommodmhaaGreatDoor
namespace Go.Proofs.YtogckmommodmhaaGreatDoor
open Go.RowKit
set_option linter.all false
set_option linter.unusedSimpArgs false
set_option maxRecDepth 100000
end Go.Proofs.YtogckmommodmhaaGreatDoor
