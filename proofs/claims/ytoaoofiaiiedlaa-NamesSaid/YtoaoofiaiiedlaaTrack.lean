/- The walks of the statements on names and on tracks. No conditions but the ones that stand in each. -/
import Derived.Test.YtoaoofiaiiedlaaBase
import Derived.Test.YtoaoofiaiiedlaaRows
namespace Go.Proofs.Ytoaoofiaiiedlaa
open Go.RowKit

set_option maxHeartbeats 1000000 in
theorem LNames (w : World) : Calls Try.prog 3 #[] w fun e w' => e = .returned (.bool true) ∧ Ext w w' := by
  go_enter Try.func3, Try.ntmps3
  go_wp2
  go_ret
  exact ⟨rfl, Ext.refl _⟩
end Go.Proofs.Ytoaoofiaiiedlaa
