/- Numbers as bytes. No conditions but the ones that stand in each. -/
import Derived.Test.YtblimjilinkmbaaBase
namespace Go.Proofs.Ytblimjilinkmbaa
set_option linter.all false
set_option linter.unusedSimpArgs false
open Go.RowKit

/-- A byte of a number. -/
def byteI (v : Int) (k : Nat) : UInt8 := UInt8.ofNat (IntKind.u8.wrap (v.fdiv (2 ^ min (8 * (k : Int)).toNat 64))).toNat
/-- The lowest n bytes of a number, the highest first. -/
def be (v : Int) : Nat → List UInt8
  | 0 => []
  | k + 1 => byteI v k :: be v k
theorem be_len (v : Int) : ∀ n, (be v n).length = n
  | 0 => rfl
  | n + 1 => by simp [be, be_len v n]
end Go.Proofs.Ytblimjilinkmbaa
