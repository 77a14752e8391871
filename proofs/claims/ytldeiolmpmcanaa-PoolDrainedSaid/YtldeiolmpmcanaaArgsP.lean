/- A pool that came in, opened. No conditions but the ones that stand in each. -/
import Derived.Test.YtldeiolmpmcanaaPool
import Derived.Test.YtldeiolmpmcanaaArgsB
namespace Go.Proofs.Ytldeiolmpmcanaa
open Go.RowKit

structure Pool.ok (p : Pool) : Prop where
  wf : p.wf
  bd : ∀ n ∈ p.own, -9223372036854775808 ≤ n ∧ n ≤ 9223372036854775807
theorem Try.cellTypes_pool : Try.prog.cellTypes Try.prog.depth 40 = some [3, 3, 3, 3, 3, 3, 3, 3, 3, 3, 3, 3, 3, 3, 3, 3, 3, 3, 4, 4, 4] := by kernel_rfl
theorem Try.cellsOf_pool : Try.prog.cellsOf 40 = 21 := by kernel_rfl
set_option maxRecDepth 100000 in
theorem arg_pool {W : World} {b0 : Nat} {v : Value} (hval : Value.okWide Try.prog W .any b0 40 v) : ∃ p : Pool, v = p.v ∧ p.ok := by
  obtain ⟨cs, rfl, hs, hall⟩ := arg_cells (.inl ⟨_, Try.underlying40⟩) Try.cellTypes_pool Try.cellsOf_pool rfl hval
  obtain ⟨x0, e0, c0⟩ := hall 0 _ rfl
  obtain ⟨n0, rfl, lo0, hi0⟩ := cell_int c0 Try.underlying3
  obtain ⟨x1, e1, c1⟩ := hall 1 _ rfl
  obtain ⟨n1, rfl, lo1, hi1⟩ := cell_int c1 Try.underlying3
  obtain ⟨x2, e2, c2⟩ := hall 2 _ rfl
  obtain ⟨n2, rfl, lo2, hi2⟩ := cell_int c2 Try.underlying3
  obtain ⟨x3, e3, c3⟩ := hall 3 _ rfl
  obtain ⟨n3, rfl, lo3, hi3⟩ := cell_int c3 Try.underlying3
  obtain ⟨x4, e4, c4⟩ := hall 4 _ rfl
  obtain ⟨n4, rfl, lo4, hi4⟩ := cell_int c4 Try.underlying3
  obtain ⟨x5, e5, c5⟩ := hall 5 _ rfl
  obtain ⟨n5, rfl, lo5, hi5⟩ := cell_int c5 Try.underlying3
  obtain ⟨x6, e6, c6⟩ := hall 6 _ rfl
  obtain ⟨n6, rfl, lo6, hi6⟩ := cell_int c6 Try.underlying3
  obtain ⟨x7, e7, c7⟩ := hall 7 _ rfl
  obtain ⟨n7, rfl, lo7, hi7⟩ := cell_int c7 Try.underlying3
  obtain ⟨x8, e8, c8⟩ := hall 8 _ rfl
  obtain ⟨n8, rfl, lo8, hi8⟩ := cell_int c8 Try.underlying3
  obtain ⟨x9, e9, c9⟩ := hall 9 _ rfl
  obtain ⟨n9, rfl, lo9, hi9⟩ := cell_int c9 Try.underlying3
  obtain ⟨x10, e10, c10⟩ := hall 10 _ rfl
  obtain ⟨n10, rfl, lo10, hi10⟩ := cell_int c10 Try.underlying3
  obtain ⟨x11, e11, c11⟩ := hall 11 _ rfl
  obtain ⟨n11, rfl, lo11, hi11⟩ := cell_int c11 Try.underlying3
  obtain ⟨x12, e12, c12⟩ := hall 12 _ rfl
  obtain ⟨n12, rfl, lo12, hi12⟩ := cell_int c12 Try.underlying3
  obtain ⟨x13, e13, c13⟩ := hall 13 _ rfl
  obtain ⟨n13, rfl, lo13, hi13⟩ := cell_int c13 Try.underlying3
  obtain ⟨x14, e14, c14⟩ := hall 14 _ rfl
  obtain ⟨n14, rfl, lo14, hi14⟩ := cell_int c14 Try.underlying3
  obtain ⟨x15, e15, c15⟩ := hall 15 _ rfl
  obtain ⟨n15, rfl, lo15, hi15⟩ := cell_int c15 Try.underlying3
  obtain ⟨x16, e16, c16⟩ := hall 16 _ rfl
  obtain ⟨n16, rfl, lo16, hi16⟩ := cell_int c16 Try.underlying3
  obtain ⟨x17, e17, c17⟩ := hall 17 _ rfl
  obtain ⟨n17, rfl, lo17, hi17⟩ := cell_int c17 Try.underlying3
  obtain ⟨x18, e18, c18⟩ := hall 18 _ rfl
  obtain ⟨b18, rfl⟩ := cell_bool c18 Try.underlying4
  obtain ⟨x19, e19, c19⟩ := hall 19 _ rfl
  obtain ⟨b19, rfl⟩ := cell_bool c19 Try.underlying4
  obtain ⟨x20, e20, c20⟩ := hall 20 _ rfl
  obtain ⟨b20, rfl⟩ := cell_bool c20 Try.underlying4
  obtain rfl : cs = #[.int .i64 n0, .int .i64 n1, .int .i64 n2, .int .i64 n3, .int .i64 n4, .int .i64 n5, .int .i64 n6, .int .i64 n7, .int .i64 n8, .int .i64 n9, .int .i64 n10, .int .i64 n11, .int .i64 n12, .int .i64 n13, .int .i64 n14, .int .i64 n15, .int .i64 n16, .int .i64 n17, .bool b18, .bool b19, .bool b20] := by
    apply Array.ext_getElem?
    intro i
    rcases i with _ | i
    · exact e0
    rcases i with _ | i
    · exact e1
    rcases i with _ | i
    · exact e2
    rcases i with _ | i
    · exact e3
    rcases i with _ | i
    · exact e4
    rcases i with _ | i
    · exact e5
    rcases i with _ | i
    · exact e6
    rcases i with _ | i
    · exact e7
    rcases i with _ | i
    · exact e8
    rcases i with _ | i
    · exact e9
    rcases i with _ | i
    · exact e10
    rcases i with _ | i
    · exact e11
    rcases i with _ | i
    · exact e12
    rcases i with _ | i
    · exact e13
    rcases i with _ | i
    · exact e14
    rcases i with _ | i
    · exact e15
    rcases i with _ | i
    · exact e16
    rcases i with _ | i
    · exact e17
    rcases i with _ | i
    · exact e18
    rcases i with _ | i
    · exact e19
    rcases i with _ | i
    · exact e20
    rw [Array.getElem?_eq_none (by omega), Array.getElem?_eq_none (by simp)]
  exact ⟨⟨[n0, n1, n2, n3, n4, n5, n6, n7, n8, n9, n10, n11, n12, n13, n14, n15, n16, n17], [b18, b19, b20]⟩, rfl, ⟨⟨rfl, rfl⟩, by simp; omega⟩⟩
end Go.Proofs.Ytldeiolmpmcanaa
