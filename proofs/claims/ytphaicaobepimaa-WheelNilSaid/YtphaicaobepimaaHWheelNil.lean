/- The statement WheelNil is proved: for all numbers, a wheel that is nil answers as P3.1 says. No conditions. -/
import Derived.Test.YtphaicaobepimaaR0
import Derived.Test.YtphaicaobepimaaLn
import Derived.Test.YtphaicaobepimaaVc
namespace Go.Proofs.Ytphaicaobepimaa
set_option linter.all false
open Go.ChangeShapes Go.WideShapes Go.ChangeAt Go.RowKit

set_option maxRecDepth 100000 in
theorem WheelNil_lifted (os : Os) (started : os.Started) (H : Type) (enc : TypeId × Value → H) :
    ReturnsInHanded {} Try.checked os 11 .any (Rows.wheelNilSpec.pre6 enc Try.prog Try.f11 Rows.wheelNilRow.domain false) (Rows.wheelNilSpec.post enc Try.prog Try.f11 false true false false) := by
  refine law_lifted (by kernel_rfl) Try.func11 ?_ (by kernel_rfl) _ rfl ?_ os started H enc
    (ChangeSpec.witness6 (enc := enc) (C := Try.checked) false ⟨#[], #[.int .i64 0, .int .i64 0], []⟩ 8 (by kernel_rfl) (by kernel_rfl) (by kernel_rfl) (by kernel_rfl)) ?_
  · rw [Try.params11]
    intro t ht
    simp at ht
    repeat' (rcases ht with rfl | ht)
    all_goals (try subst ht)
    all_goals exact ⟨by kernel_rfl, of_decide_eq_true (by kernel_rfl)⟩
  · intro H ds hl
    rw [Try.params11] at hl
    match ds, hl with
    | [d0, d1], _ => rfl
  · intro W base args ds hin
    obtain ⟨hok, ⟨p, hA⟩, hsz⟩ := hin
    rw [Try.params11] at hA hok hsz
    obtain ⟨v0, vs0, d0, ds0, p0, q0, hargs, rfl, rfl, h0, r0⟩ := trodAll_cons hA
    obtain ⟨v1, vs1, d1, ds1, p1, q1, rfl, rfl, rfl, h1, r1⟩ := trodAll_cons r0
    obtain ⟨rfl, rfl, rfl⟩ := trodAll_nil r1
    obtain rfl : args = #[v0, v1] := by cases args; simp_all
    obtain ⟨n0, rfl, lo0, hi0⟩ := arg_int Try.underlying3 (hok 0 3 v0 rfl rfl) h0
    obtain ⟨n1, rfl, lo1, hi1⟩ := arg_int Try.underlying3 (hok 1 3 v1 rfl rfl) h1
    exact (WheelNil_ps (fun _ => .any) n0 n1).lawN ⟨.int _ _, .int _ _, trivial⟩

theorem WheelNil_over : Rows.wheelNilRow.holds Try.pinned (OpenSpec.ofChange Rows.wheelNilSpec) :=
  OpenClaim.holds_of_wide 11 Try.f11 rfl rfl rfl rfl rfl rfl rfl ⟨rfl, rfl, rfl, rfl, rfl⟩ rfl rfl rfl rfl rfl (by kernel_rfl) Try.func11 (by kernel_rfl)
    (of_decide_eq_true (by kernel_rfl)) (by unfold Func.isWrapper; first | (rw [if_pos (by decide +kernel)]; kernel_rfl) | (rw [if_neg (by decide +kernel)]; exact ⟨rfl, rfl⟩))
    (fun os started H enc _ => WheelNil_lifted os started H enc)

/-- The statement. -/
theorem WheelNil_holds : Rows.WheelNilSaid := WheelNil_over
end Go.Proofs.Ytphaicaobepimaa
