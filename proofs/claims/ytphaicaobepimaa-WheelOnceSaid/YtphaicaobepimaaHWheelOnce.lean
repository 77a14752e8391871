/- The statement WheelOnce is proved: for all numbers and lists of dues, each timer fires once as P3.2 says. No conditions. -/
import Derived.Test.YtphaicaobepimaaR0
import Derived.Test.YtphaicaobepimaaVo
import Derived.Test.YtphaicaobepimaaAi
import Derived.Test.YtphaicaobepimaaLn
namespace Go.Proofs.Ytphaicaobepimaa
set_option linter.all false
open Go.ChangeShapes Go.WideShapes Go.ChangeAt Go.RowKit

set_option maxRecDepth 100000 in
theorem WheelOnce_lifted (os : Os) (started : os.Started) (H : Type) (enc : TypeId × Value → H) :
    ReturnsInHanded {} Try.checked os 9 .any (Rows.wheelOnceSpec.pre6 enc Try.prog Try.f9 Rows.wheelOnceRow.domain false) (Rows.wheelOnceSpec.post enc Try.prog Try.f9 false true false false) := by
  refine law_lifted (by kernel_rfl) Try.func9 ?_ (by kernel_rfl) _ rfl ?_ os started H enc
    (ChangeSpec.witness6 (enc := enc) (C := Try.checked) false ⟨#[], #[.int .i64 0, .slice none 0 0, .slice none 0 0], []⟩ 8 (by kernel_rfl) (by kernel_rfl) (by kernel_rfl) (by kernel_rfl)) ?_
  · rw [Try.params9]
    intro t ht
    simp at ht
    repeat' (rcases ht with rfl | ht)
    all_goals (try subst ht)
    all_goals exact ⟨by kernel_rfl, of_decide_eq_true (by kernel_rfl)⟩
  · intro H ds hl
    rw [Try.params9] at hl
    match ds, hl with
    | [d0, d1, d2], _ => rfl
  · intro W base args ds hin
    obtain ⟨hok, ⟨p, hA⟩, hsz⟩ := hin
    rw [Try.params9] at hA hok hsz
    obtain ⟨v0, vs0, d0, ds0, p0, q0, hargs, rfl, rfl, h0, r0⟩ := trodAll_cons hA
    obtain ⟨v1, vs1, d1, ds1, p1, q1, rfl, rfl, rfl, h1, r1⟩ := trodAll_cons r0
    obtain ⟨v2, vs2, d2, ds2, p2, q2, rfl, rfl, rfl, h2, r2⟩ := trodAll_cons r1
    obtain ⟨rfl, rfl, rfl⟩ := trodAll_nil r2
    obtain rfl : args = #[v0, v1, v2] := by cases args; simp_all
    obtain ⟨n0, rfl, lo0, hi0⟩ := arg_int Try.underlying3 (hok 0 3 v0 rfl rfl) h0
    obtain ⟨n1, y1, s1⟩ := arg_sliceI (hok 1 57 v1 rfl rfl) h1
    have z1 : n1 * 8 ≤ 140737488351232 := by
      rcases y1 with ⟨_, rfl⟩ | ⟨es, sp, rfl, rfl⟩
      · omega
      · have := sized_slice hsz (j := 1) (t := 57) rfl rfl Try.underlying57
        rw [int_bytes8] at this
        simp only [reachBytes] at this; omega
    obtain ⟨l1, rfl, e1, x1⟩ := s1.ints
    obtain ⟨n2, y2, s2⟩ := arg_sliceI (hok 2 57 v2 rfl rfl) h2
    have z2 : n2 * 8 ≤ 140737488351232 := by
      rcases y2 with ⟨_, rfl⟩ | ⟨es, sp, rfl, rfl⟩
      · omega
      · have := sized_slice hsz (j := 2) (t := 57) rfl rfl Try.underlying57
        rw [int_bytes8] at this
        simp only [reachBytes] at this; omega
    obtain ⟨l2, rfl, e2, x2⟩ := s2.ints
    exact (WheelOnce_ps (fun _ => .any) n0 l1 l2 ⟨lo0, hi0⟩ e1 e2 (by omega) (by omega)).lawN ⟨.int _ _, x1, x2, trivial⟩

theorem WheelOnce_over : Rows.wheelOnceRow.holds Try.pinned (OpenSpec.ofChange Rows.wheelOnceSpec) :=
  OpenClaim.holds_of_wide 9 Try.f9 rfl rfl rfl rfl rfl rfl rfl ⟨rfl, rfl, rfl, rfl, rfl⟩ rfl rfl rfl rfl rfl (by kernel_rfl) Try.func9 (by kernel_rfl)
    (of_decide_eq_true (by kernel_rfl)) (by unfold Func.isWrapper; first | (rw [if_pos (by decide +kernel)]; kernel_rfl) | (rw [if_neg (by decide +kernel)]; exact ⟨rfl, rfl⟩))
    (fun os started H enc _ => WheelOnce_lifted os started H enc)

/-- The statement. -/
theorem WheelOnce_holds : Rows.WheelOnceSaid := WheelOnce_over
end Go.Proofs.Ytphaicaobepimaa
