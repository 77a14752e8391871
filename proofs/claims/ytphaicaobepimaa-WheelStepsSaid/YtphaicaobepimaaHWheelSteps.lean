/- The statement WheelSteps is proved: for all timers, going on in two steps tells what one step tells. No conditions. -/
import Derived.Test.YtphaicaobepimaaR0
import Derived.Test.YtphaicaobepimaaVw
import Derived.Test.YtphaicaobepimaaAi
import Derived.Test.YtphaicaobepimaaLn
namespace Go.Proofs.Ytphaicaobepimaa
set_option linter.all false
open Go.ChangeShapes Go.WideShapes Go.ChangeAt Go.RowKit

set_option maxRecDepth 100000 in
theorem WheelSteps_lifted (os : Os) (started : os.Started) (H : Type) (enc : TypeId × Value → H) :
    ReturnsInHanded {} Try.checked os 10 .any (Rows.wheelStepsSpec.pre6 enc Try.prog Try.f10 Rows.wheelStepsRow.domain false) (Rows.wheelStepsSpec.post enc Try.prog Try.f10 false true false false) := by
  refine law_lifted (by kernel_rfl) Try.func10 ?_ (by kernel_rfl) _ rfl ?_ os started H enc
    (ChangeSpec.witness6 (enc := enc) (C := Try.checked) false ⟨#[], #[.slice none 0 0, .int .i64 0, .int .i64 0], []⟩ 8 (by kernel_rfl) (by kernel_rfl) (by kernel_rfl) (by kernel_rfl)) ?_
  · rw [Try.params10]
    intro t ht
    simp at ht
    repeat' (rcases ht with rfl | ht)
    all_goals (try subst ht)
    all_goals exact ⟨by kernel_rfl, of_decide_eq_true (by kernel_rfl)⟩
  · intro H ds hl
    rw [Try.params10] at hl
    match ds, hl with
    | [d0, d1, d2], _ => rfl
  · intro W base args ds hin
    obtain ⟨hok, ⟨p, hA⟩, hsz⟩ := hin
    rw [Try.params10] at hA hok hsz
    obtain ⟨v0, vs0, d0, ds0, p0, q0, hargs, rfl, rfl, h0, r0⟩ := trodAll_cons hA
    obtain ⟨v1, vs1, d1, ds1, p1, q1, rfl, rfl, rfl, h1, r1⟩ := trodAll_cons r0
    obtain ⟨v2, vs2, d2, ds2, p2, q2, rfl, rfl, rfl, h2, r2⟩ := trodAll_cons r1
    obtain ⟨rfl, rfl, rfl⟩ := trodAll_nil r2
    obtain rfl : args = #[v0, v1, v2] := by cases args; simp_all
    obtain ⟨n0, y0, s0⟩ := arg_sliceI (hok 0 57 v0 rfl rfl) h0
    have z0 : n0 * 8 ≤ 140737488351232 := by
      rcases y0 with ⟨_, rfl⟩ | ⟨es, sp, rfl, rfl⟩
      · omega
      · have := sized_slice hsz (j := 0) (t := 57) rfl rfl Try.underlying57
        rw [int_bytes8] at this
        simp only [reachBytes] at this; omega
    obtain ⟨l0, rfl, e0, x0⟩ := s0.ints
    obtain ⟨n1, rfl, lo1, hi1⟩ := arg_int Try.underlying3 (hok 1 3 v1 rfl rfl) h1
    obtain ⟨n2, rfl, lo2, hi2⟩ := arg_int Try.underlying3 (hok 2 3 v2 rfl rfl) h2
    exact (WheelSteps_ps (fun _ => .any) l0 n1 n2 e0 ⟨lo1, hi1⟩ ⟨lo2, hi2⟩ (by omega)).lawN ⟨x0, .int _ _, .int _ _, trivial⟩

theorem WheelSteps_over : Rows.wheelStepsRow.holds Try.pinned (OpenSpec.ofChange Rows.wheelStepsSpec) :=
  OpenClaim.holds_of_wide 10 Try.f10 rfl rfl rfl rfl rfl rfl rfl ⟨rfl, rfl, rfl, rfl, rfl⟩ rfl rfl rfl rfl rfl (by kernel_rfl) Try.func10 (by kernel_rfl)
    (of_decide_eq_true (by kernel_rfl)) (by unfold Func.isWrapper; first | (rw [if_pos (by decide +kernel)]; kernel_rfl) | (rw [if_neg (by decide +kernel)]; exact ⟨rfl, rfl⟩))
    (fun os started H enc _ => WheelSteps_lifted os started H enc)

/-- The statement. -/
theorem WheelSteps_holds : Rows.WheelStepsSaid := WheelSteps_over
end Go.Proofs.Ytphaicaobepimaa
