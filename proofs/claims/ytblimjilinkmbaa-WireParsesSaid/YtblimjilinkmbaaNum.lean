/- Lemmas on numbers. No conditions but the ones that stand in each. -/
import Derived.Test.YtblimjilinkmbaaBase
namespace Go.Proofs.Ytblimjilinkmbaa
open Go.RowKit

theorem tmod_low (x : Int) : (x.tmod 65536 + 65536) % 65536 = x % 65536 := by
  rw [Int.tmod_def]; omega
theorem tmod_bd (x m : Int) (h : 0 < m) : -m < x.tmod m ∧ x.tmod m < m := by
  rw [Int.tmod_eq_emod]
  have := Int.emod_nonneg x (show m ≠ 0 by omega)
  have := Int.emod_lt_of_pos x h
  split
  · omega
  · rename_i hh
    have e : (m.natAbs : Int) = m := by omega
    by_cases h0 : x % m = 0
    · exfalso; apply hh; right; exact Int.dvd_of_emod_eq_zero h0
    · omega

end Go.Proofs.Ytblimjilinkmbaa
