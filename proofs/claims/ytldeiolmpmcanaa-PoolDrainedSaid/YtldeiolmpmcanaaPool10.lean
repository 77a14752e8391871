/- Two pools that are the same are the same to '=='; the laws' own looks. No conditions but the ones that stand in each. -/
import Derived.Test.YtldeiolmpmcanaaPool9
import Derived.ChangeKeysEq
namespace Go.Proofs.Ytldeiolmpmcanaa
open Go.RowKit

theorem Pool.wf.form {p : Pool} (hp : p.wf) : ∃ x0 x1 x2 x3 x4 x5 x6 x7 x8 x9 x10 x11 x12 x13 x14 x15 x16 x17 : Int, ∃ b0 b1 b2 : Bool, p = ⟨[x0, x1, x2, x3, x4, x5, x6, x7, x8, x9, x10, x11, x12, x13, x14, x15, x16, x17], [b0, b1, b2]⟩ := by
  obtain ⟨own, dr⟩ := p
  have h1 : own.length = 18 := hp.own
  have h2 : dr.length = 3 := hp.dr
  obtain _ | ⟨x0, own⟩ := own
  · simp at h1
  obtain _ | ⟨x1, own⟩ := own
  · simp at h1
  obtain _ | ⟨x2, own⟩ := own
  · simp at h1
  obtain _ | ⟨x3, own⟩ := own
  · simp at h1
  obtain _ | ⟨x4, own⟩ := own
  · simp at h1
  obtain _ | ⟨x5, own⟩ := own
  · simp at h1
  obtain _ | ⟨x6, own⟩ := own
  · simp at h1
  obtain _ | ⟨x7, own⟩ := own
  · simp at h1
  obtain _ | ⟨x8, own⟩ := own
  · simp at h1
  obtain _ | ⟨x9, own⟩ := own
  · simp at h1
  obtain _ | ⟨x10, own⟩ := own
  · simp at h1
  obtain _ | ⟨x11, own⟩ := own
  · simp at h1
  obtain _ | ⟨x12, own⟩ := own
  · simp at h1
  obtain _ | ⟨x13, own⟩ := own
  · simp at h1
  obtain _ | ⟨x14, own⟩ := own
  · simp at h1
  obtain _ | ⟨x15, own⟩ := own
  · simp at h1
  obtain _ | ⟨x16, own⟩ := own
  · simp at h1
  obtain _ | ⟨x17, own⟩ := own
  · simp at h1
  obtain _ | ⟨x99, own⟩ := own
  rotate_left
  · simp at h1
  obtain _ | ⟨b0, dr⟩ := dr
  · simp at h2
  obtain _ | ⟨b1, dr⟩ := dr
  · simp at h2
  obtain _ | ⟨b2, dr⟩ := dr
  · simp at h2
  obtain _ | ⟨b99, dr⟩ := dr
  rotate_left
  · simp at h2
  exact ⟨x0, x1, x2, x3, x4, x5, x6, x7, x8, x9, x10, x11, x12, x13, x14, x15, x16, x17, b0, b1, b2, rfl⟩
theorem eq_arr {P : Program} (t e : TypeId) (n c : Nat) (d : Nat) (xs ys : Array Value) (w : World) (hu : P.underlying t = some (.array n e)) (hi : (P.info? e).isSome = true) (hc : P.cellsOf e = c) :
    (Op.equalIn (d + 1) t (.agg xs) (.agg ys)).run P w = (Op.eqItems d e c xs ys (List.range n)).run P w := by
  obtain ⟨i, hi⟩ := Option.isSome_iff_exists.1 hi
  rw [run_equalIn_array w d xs ys hu hi, hc]
theorem Try.eq_own (d : Nat) (xs ys : Array Value) (w : World) : (Op.equalIn (d + 1) 37 (.agg xs) (.agg ys)).run Try.prog w = (Op.eqItems d 36 6 xs ys [0, 1, 2]).run Try.prog w :=
  eq_arr _ _ 3 _ d xs ys w Try.underlying37 (by kernel_rfl) (by kernel_rfl)
theorem Try.eq_row (d : Nat) (xs ys : Array Value) (w : World) : (Op.equalIn (d + 1) 36 (.agg xs) (.agg ys)).run Try.prog w = (Op.eqItems d 3 1 xs ys [0, 1, 2, 3, 4, 5]).run Try.prog w :=
  eq_arr _ _ 6 _ d xs ys w Try.underlying36 (by kernel_rfl) (by kernel_rfl)
theorem Try.eq_dr (d : Nat) (xs ys : Array Value) (w : World) : (Op.equalIn (d + 1) 38 (.agg xs) (.agg ys)).run Try.prog w = (Op.eqItems d 4 1 xs ys [0, 1, 2]).run Try.prog w :=
  eq_arr _ _ 3 _ d xs ys w Try.underlying38 (by kernel_rfl) (by kernel_rfl)
set_option maxHeartbeats 1000000 in
theorem eql_pool (p : Pool) (hp : p.wf) (w : World) : (binOp .eql 40 p.v p.v).run Try.prog w = .ok (.bool true) w := by
  obtain ⟨x0, x1, x2, x3, x4, x5, x6, x7, x8, x9, x10, x11, x12, x13, x14, x15, x16, x17, b0, b1, b2, rfl⟩ := hp.form
  show (binOp .eql 40 (.agg #[.int .i64 x0, .int .i64 x1, .int .i64 x2, .int .i64 x3, .int .i64 x4, .int .i64 x5, .int .i64 x6, .int .i64 x7, .int .i64 x8, .int .i64 x9, .int .i64 x10, .int .i64 x11, .int .i64 x12, .int .i64 x13, .int .i64 x14, .int .i64 x15, .int .i64 x16, .int .i64 x17, .bool b0, .bool b1, .bool b2]) (.agg #[.int .i64 x0, .int .i64 x1, .int .i64 x2, .int .i64 x3, .int .i64 x4, .int .i64 x5, .int .i64 x6, .int .i64 x7, .int .i64 x8, .int .i64 x9, .int .i64 x10, .int .i64 x11, .int .i64 x12, .int .i64 x13, .int .i64 x14, .int .i64 x15, .int .i64 x16, .int .i64 x17, .bool b0, .bool b1, .bool b2])).run Try.prog w = _
  rw [run_eql_struct]
  simp [go_sem, Try.eq_own, Try.eq_row, Try.eq_dr, Op.eqItems]
set_option maxHeartbeats 1000000 in
theorem neq_pool (p : Pool) (hp : p.wf) (w : World) : (binOp .neq 40 p.v p.v).run Try.prog w = .ok (.bool false) w := by
  obtain ⟨x0, x1, x2, x3, x4, x5, x6, x7, x8, x9, x10, x11, x12, x13, x14, x15, x16, x17, b0, b1, b2, rfl⟩ := hp.form
  show (binOp .neq 40 (.agg #[.int .i64 x0, .int .i64 x1, .int .i64 x2, .int .i64 x3, .int .i64 x4, .int .i64 x5, .int .i64 x6, .int .i64 x7, .int .i64 x8, .int .i64 x9, .int .i64 x10, .int .i64 x11, .int .i64 x12, .int .i64 x13, .int .i64 x14, .int .i64 x15, .int .i64 x16, .int .i64 x17, .bool b0, .bool b1, .bool b2]) (.agg #[.int .i64 x0, .int .i64 x1, .int .i64 x2, .int .i64 x3, .int .i64 x4, .int .i64 x5, .int .i64 x6, .int .i64 x7, .int .i64 x8, .int .i64 x9, .int .i64 x10, .int .i64 x11, .int .i64 x12, .int .i64 x13, .int .i64 x14, .int .i64 x15, .int .i64 x16, .int .i64 x17, .bool b0, .bool b1, .bool b2])).run Try.prog w = _
  rw [run_neq_struct]
  simp [go_sem, Try.eq_own, Try.eq_row, Try.eq_dr, Op.eqItems]
end Go.Proofs.Ytldeiolmpmcanaa
