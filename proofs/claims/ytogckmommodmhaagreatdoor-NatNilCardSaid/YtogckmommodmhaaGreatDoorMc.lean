/- An act that came in. No conditions but the ones that stand in each. -/
import Derived.Test.YtogckmommodmhaaGreatDoorR0
import Derived.Test.YtogckmommodmhaaGreatDoorBr
namespace Go.Proofs.YtogckmommodmhaaGreatDoor
set_option linter.all false
set_option linter.unusedSimpArgs false
open Go.RowKit Go.ChangeShapes Go.WideShapes

theorem fixStr (l : List UInt8) : Fix (.str l) (.string ⟨l.toArray⟩) := fun _ _ _ u => ⟨fun h => by cases h; rfl, fun h => by subst h; exact .str _⟩
theorem Tryz.cellTypes_act : Tryz.prog.cellTypes Tryz.prog.depth 23 = some [3, 3, 3, 9] := by kernel_rfl
theorem Tryz.cellsOf_act : Tryz.prog.cellsOf 23 = 4 := by kernel_rfl
set_option maxRecDepth 100000 in
theorem arg_act {W : World} {b0 : Nat} {v : Value} (hval : Value.okWide Tryz.prog W .any b0 23 v) : ∃ (k n d : Int) (f : List UInt8), VR (fun _ => .un) (fun _ => False) W (.agg [.int .i64 k, .int .i64 n, .int .i64 d, .str f]) v := by
  obtain ⟨cs, rfl, hs, hall⟩ := arg_cells (.inl ⟨_, Tryz.underlying23⟩) Tryz.cellTypes_act Tryz.cellsOf_act rfl hval
  obtain ⟨x0, e0, c0⟩ := hall 0 _ rfl
  obtain ⟨n0, rfl, lo0, hi0⟩ := cell_int c0 Tryz.underlying3
  obtain ⟨x1, e1, c1⟩ := hall 1 _ rfl
  obtain ⟨n1, rfl, lo1, hi1⟩ := cell_int c1 Tryz.underlying3
  obtain ⟨x2, e2, c2⟩ := hall 2 _ rfl
  obtain ⟨n2, rfl, lo2, hi2⟩ := cell_int c2 Tryz.underlying3
  obtain ⟨x3, e3, c3⟩ := hall 3 _ rfl
  obtain ⟨s3, rfl, z3⟩ := cell_string c3 Tryz.underlying9
  obtain rfl : cs = #[.int .i64 n0, .int .i64 n1, .int .i64 n2, .string s3] := by
    apply Array.ext_getElem?
    intro i
    by_cases hi : i < 4
    · match i, hi with
      | 0, _ => exact e0
      | 1, _ => exact e1
      | 2, _ => exact e2
      | 3, _ => exact e3
    · rw [Array.getElem?_eq_none (by omega), Array.getElem?_eq_none (by simp; omega)]
  refine ⟨n0, n1, n2, s3.data.toList, ?_⟩
  have hs : Value.string s3 = .string ⟨s3.data.toList.toArray⟩ := by cases s3; simp
  rw [hs]
  exact (Fix.agg (xs := [.int .i64 n0, .int .i64 n1, .int .i64 n2, .str s3.data.toList]) (vs := [.int .i64 n0, .int .i64 n1, .int .i64 n2, .string ⟨s3.data.toList.toArray⟩])
    ⟨.int _ _, rfl, .int _ _, rfl, .int _ _, rfl, fixStr _, rfl, trivial⟩ _ _ _ _).2 rfl
end Go.Proofs.YtogckmommodmhaaGreatDoor
