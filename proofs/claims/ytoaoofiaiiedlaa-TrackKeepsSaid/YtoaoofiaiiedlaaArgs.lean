/- A packet that came in, opened. No conditions but the ones that stand in each. -/
import Derived.Test.YtoaoofiaiiedlaaTrack
import Derived.Test.YtoaoofiaiiedlaaArgsB
namespace Go.Proofs.Ytoaoofiaiiedlaa
open Go.RowKit

def Pkt.ok (p : Pkt) : Prop := p.body.size ≤ maxLen ∧ (-9223372036854775808 ≤ p.proto ∧ p.proto ≤ 9223372036854775807) ∧ (-9223372036854775808 ≤ p.frm ∧ p.frm ≤ 9223372036854775807) ∧ (-9223372036854775808 ≤ p.sport ∧ p.sport ≤ 9223372036854775807) ∧ (-9223372036854775808 ≤ p.to_ ∧ p.to_ ≤ 9223372036854775807) ∧ (-9223372036854775808 ≤ p.dport ∧ p.dport ≤ 9223372036854775807) ∧ (-9223372036854775808 ≤ p.ttl ∧ p.ttl ≤ 9223372036854775807) ∧ (-9223372036854775808 ≤ p.id ∧ p.id ≤ 9223372036854775807) ∧ (-9223372036854775808 ≤ p.flags ∧ p.flags ≤ 9223372036854775807) ∧ (-9223372036854775808 ≤ p.seq ∧ p.seq ≤ 9223372036854775807) ∧ (-9223372036854775808 ≤ p.ack ∧ p.ack ≤ 9223372036854775807) ∧ (-9223372036854775808 ≤ p.win ∧ p.win ≤ 9223372036854775807)
theorem Try.cellTypes_pkt : Try.prog.cellTypes Try.prog.depth 33 = some [3, 3, 3, 3, 3, 3, 3, 3, 3, 3, 3, 9] := by kernel_rfl
theorem Try.cellsOf_pkt : Try.prog.cellsOf 33 = 12 := by kernel_rfl
theorem arg_pkt {W : World} {b0 : Nat} {v : Value} (hval : Value.okWide Try.prog W .any b0 33 v) : ∃ p : Pkt, v = p.v ∧ p.ok := by
  obtain ⟨cs, rfl, hs, hall⟩ := arg_cells (.inl ⟨_, Try.underlying33⟩) Try.cellTypes_pkt Try.cellsOf_pkt rfl hval
  obtain ⟨x0, e0, c0⟩ := hall 0 _ rfl
  obtain ⟨n0, rfl, lo0, hi0⟩ := cell_int c0 Try.underlying3
  obtain ⟨x1, e1, c1⟩ := hall 1 _ rfl
  obtain ⟨n1, rfl, lo1, hi1⟩ := cell_int c1 Try.underlying3
  obtain ⟨x2, e2, c2⟩ := hall 2 _ rfl
  obtain ⟨n2, rfl, lo2, hi2⟩ := cell_int c2 Try.underlying3
  obtain ⟨x3, e3, c3⟩ := hall 3 _ rfl
  obtain ⟨n3, rfl, lo3, hi3⟩ := cell_int c3 Try.underlying3
  obtain ⟨x4, e4, c4⟩ := hall 4 _ rfl
  obtain ⟨n4, rfl, lo4, hi4⟩ := cell_int c4 Try.underlying3
  obtain ⟨x5, e5, c5⟩ := hall 5 _ rfl
  obtain ⟨n5, rfl, lo5, hi5⟩ := cell_int c5 Try.underlying3
  obtain ⟨x6, e6, c6⟩ := hall 6 _ rfl
  obtain ⟨n6, rfl, lo6, hi6⟩ := cell_int c6 Try.underlying3
  obtain ⟨x7, e7, c7⟩ := hall 7 _ rfl
  obtain ⟨n7, rfl, lo7, hi7⟩ := cell_int c7 Try.underlying3
  obtain ⟨x8, e8, c8⟩ := hall 8 _ rfl
  obtain ⟨n8, rfl, lo8, hi8⟩ := cell_int c8 Try.underlying3
  obtain ⟨x9, e9, c9⟩ := hall 9 _ rfl
  obtain ⟨n9, rfl, lo9, hi9⟩ := cell_int c9 Try.underlying3
  obtain ⟨x10, e10, c10⟩ := hall 10 _ rfl
  obtain ⟨n10, rfl, lo10, hi10⟩ := cell_int c10 Try.underlying3
  obtain ⟨x11, e11, c11⟩ := hall 11 _ rfl
  obtain ⟨s11, rfl, z11⟩ := cell_string c11 Try.underlying9
  obtain rfl : cs = #[.int .i64 n0, .int .i64 n1, .int .i64 n2, .int .i64 n3, .int .i64 n4, .int .i64 n5, .int .i64 n6, .int .i64 n7, .int .i64 n8, .int .i64 n9, .int .i64 n10, .string s11] := by
    apply Array.ext_getElem?
    intro i
    by_cases hi : i < 12
    · match i, hi with
      | 0, _ => exact e0
      | 1, _ => exact e1
      | 2, _ => exact e2
      | 3, _ => exact e3
      | 4, _ => exact e4
      | 5, _ => exact e5
      | 6, _ => exact e6
      | 7, _ => exact e7
      | 8, _ => exact e8
      | 9, _ => exact e9
      | 10, _ => exact e10
      | 11, _ => exact e11
    · rw [Array.getElem?_eq_none (by omega), Array.getElem?_eq_none (by simp; omega)]
  exact ⟨⟨n0, n1, n2, n3, n4, n5, n6, n7, n8, n9, n10, s11⟩, rfl, z11, ⟨lo0, hi0⟩, ⟨lo1, hi1⟩, ⟨lo2, hi2⟩, ⟨lo3, hi3⟩, ⟨lo4, hi4⟩, ⟨lo5, hi5⟩, ⟨lo6, hi6⟩, ⟨lo7, hi7⟩, ⟨lo8, hi8⟩, ⟨lo9, hi9⟩, ⟨lo10, hi10⟩⟩
end Go.Proofs.Ytoaoofiaiiedlaa
