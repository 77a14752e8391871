/- Arguments that are structs by value, opened. No conditions but the ones that stand in each. -/
import Derived.Test.YtblimjilinkmbaaFrame
namespace Go.Proofs.Ytblimjilinkmbaa
open Go.RowKit

section
variable {P : Program} {W : World} {b0 : Nat}
theorem arg_cells {t : TypeId} {v : Value} {ts : List TypeId} {n : Nat} (hu : (∃ fs, P.underlying t = some (.struct fs)) ∨ ∃ k e, P.underlying t = some (.array k e)) (hts : P.cellTypes P.depth t = some ts) (hn : P.cellsOf t = n) (hl : ts.length = n)
    (hval : Value.okWide P W .any b0 t v) : ∃ cs : Array Value, v = .agg cs ∧ cs.size = n ∧ ∀ (i : Nat) (u : TypeId), ts[i]? = some u → ∃ x, cs[i]? = some x ∧ Cell.okWide P W .any b0 u x := by
  have h : ∃ cs, v = .agg cs ∧ cs.size = P.cellsOf t ∧ Row.okWide P W .any b0 t cs := by
    unfold Value.okWide at hval
    rcases hu with ⟨fs, hu⟩ | ⟨k, e, hu⟩ <;> rw [hu] at hval <;> exact hval
  obtain ⟨cs, rfl, hs, ts', hts', _, hall⟩ := h
  rw [hts] at hts'
  obtain rfl : ts = ts' := by injection hts'
  refine ⟨cs, rfl, by omega, fun i u hu' => ?_⟩
  have hi : i < ts.length := (List.getElem?_eq_some_iff.1 hu').1
  obtain ⟨u', h1, h2⟩ := hall i cs[i] (Array.getElem?_eq_getElem (by omega))
  rw [Nat.mod_eq_of_lt hi, hu'] at h1
  obtain rfl : u = u' := by injection h1
  exact ⟨cs[i], Array.getElem?_eq_getElem (by omega), h2⟩

theorem cell_int {u : TypeId} {x : Value} (h : Cell.okWide P W .any b0 u x) (hu : P.underlying u = some (.int .i64)) : ∃ n : Int, x = .int .i64 n ∧ -9223372036854775808 ≤ n ∧ n ≤ 9223372036854775807 := by
  unfold Cell.okWide Cell.ok at h
  rw [hu] at h
  cases x <;> simp at h
  obtain ⟨rfl, h1, h2⟩ := h
  simp [IntKind.min, IntKind.max, IntKind.bits, IntKind.signed] at h1 h2
  exact ⟨_, rfl, by omega, by omega⟩
theorem cell_bool {u : TypeId} {x : Value} (h : Cell.okWide P W .any b0 u x) (hu : P.underlying u = some .bool) : ∃ b : Bool, x = .bool b := by
  unfold Cell.okWide Cell.ok at h
  rw [hu] at h
  cases x <;> simp at h
  exact ⟨_, rfl⟩
theorem cell_string {u : TypeId} {x : Value} (h : Cell.okWide P W .any b0 u x) (hu : P.underlying u = some .string) : ∃ s : ByteArray, x = .string s ∧ s.size ≤ maxLen := by
  unfold Cell.okWide Cell.ok at h
  rw [hu] at h
  cases x <;> simp at h
  refine ⟨_, rfl, ?_⟩
  unfold maxLen; omega
end
end Go.Proofs.Ytblimjilinkmbaa
