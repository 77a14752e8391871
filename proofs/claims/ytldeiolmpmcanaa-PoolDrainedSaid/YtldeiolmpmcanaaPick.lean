/- The statements' own 'pick'. No conditions but the ones that stand in each. -/
import Derived.Test.YtldeiolmpmcanaaNum
import Derived.Test.YtldeiolmpmcanaaRows
namespace Go.Proofs.Ytldeiolmpmcanaa
open Go.RowKit

theorem emod_of_tmod' (k n : Int) (hn : 0 < n) : (if k.tmod n < 0 then k.tmod n + n else k.tmod n) = k % n := by
  rw [Int.tmod_eq_emod]
  have h1 := Int.emod_nonneg k (show n ≠ 0 by omega)
  have h2 := Int.emod_lt_of_pos k hn
  have e : (n.natAbs : Int) = n := by omega
  by_cases h : 0 ≤ k ∨ n ∣ k
  · rw [if_pos h]; simp; omega
  · rw [if_neg h, e]
    have : k % n ≠ 0 := fun h0 => h (.inr (Int.dvd_of_emod_eq_zero h0))
    rw [if_pos (by omega)]; omega

set_option maxHeartbeats 400000 in
theorem pickK2_any (k n : Int) (w : World) (hn : 0 < n) (hn2 : n ≤ 4611686018427387904) :
    Calls Try.prog 11 #[.int .i64 k, .int .i64 n] w fun e w' => e = .returned (.int .i64 (k % n)) ∧ w' = w := by
  have hE := Lib.hid (emod_of_tmod' k n hn)
  have hb := tmod_bd k n hn
  have h1 : -n < k.tmod n := hb.1
  have h2 : k.tmod n < n := hb.2
  have hne : (n == 0) = false := by simp; omega
  clear hb
  by_cases hlt : k.tmod n < 0
  · go_enter Try.func11, Try.ntmps11
    go_wp2
    go_ret
    exact ⟨ret_int (by rw [← hE.out, if_pos hlt]), rfl⟩
  · go_enter Try.func11, Try.ntmps11
    go_wp2
    go_ret
    exact ⟨ret_int (by rw [← hE.out, if_neg (by omega)]), rfl⟩
end Go.Proofs.Ytldeiolmpmcanaa
