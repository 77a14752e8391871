/- The statement WireRefused is proved: for every packet, what tells its sender that it is refused has the first 28 bytes of its frame, right checks, and is no packet itself. No conditions. -/
import Derived.Test.YtblimjilinkmbaaR0
import Derived.Test.YtblimjilinkmbaaRn
import Derived.Test.YtblimjilinkmbaaWy
namespace Go.Proofs.Ytblimjilinkmbaa
set_option linter.all false
open Go.ChangeShapes Go.WideShapes Go.ChangeAt Go.RowKit

set_option maxRecDepth 100000 in
theorem WireRefused_lifted (os : Os) (started : os.Started) (H : Type) (enc : TypeId × Value → H) :
    ReturnsInHanded {} Try.checked os 8 .any (Rows.wireRefusedSpec.pre6 enc Try.prog Try.f8 Rows.wireRefusedRow.domain false) (Rows.wireRefusedSpec.post enc Try.prog Try.f8 false true false false) := by
  refine law_lifted (by kernel_rfl) Try.func8 ?_ (by kernel_rfl) _ rfl ?_ os started H enc
    (ChangeSpec.witness6 (enc := enc) (C := Try.checked) false ⟨#[], #[.agg #[.int .i64 0, .int .i64 0, .int .i64 0, .int .i64 0, .int .i64 0, .int .i64 0, .int .i64 0, .int .i64 0, .int .i64 0, .int .i64 0, .int .i64 0, .string ⟨#[]⟩], .int .i64 0], []⟩ 8 (by kernel_rfl) (by kernel_rfl) (by kernel_rfl) (by kernel_rfl)) ?_
  · rw [Try.params8]
    intro t ht
    simp at ht
    repeat' (rcases ht with rfl | ht)
    all_goals (try subst ht)
    all_goals exact ⟨by kernel_rfl, of_decide_eq_true (by kernel_rfl)⟩
  · intro H ds hl
    rw [Try.params8] at hl
    match ds, hl with
    | [d0, d1], _ => rfl
  · intro W base args ds hin
    obtain ⟨hok, ⟨p, hA⟩, hsz⟩ := hin
    rw [Try.params8] at hA hok hsz
    obtain ⟨v0, vs0, d0, ds0, p0, q0, hargs, rfl, rfl, h0, r0⟩ := trodAll_cons hA
    obtain ⟨v1, vs1, d1, ds1, p1, q1, rfl, rfl, rfl, h1, r1⟩ := trodAll_cons r0
    obtain ⟨rfl, rfl, rfl⟩ := trodAll_nil r1
    obtain rfl : args = #[v0, v1] := by cases args; simp_all
    obtain ⟨p0, w0, k0⟩ := arg_pk (hok 0 23 v0 rfl rfl)
    obtain ⟨n1, rfl, lo1, hi1⟩ := arg_int Try.underlying3 (hok 1 3 v1 rfl rfl) h1
    exact (WireRefused_ps (fun _ => .any) p0 n1).lawN ⟨w0, .int _ _, trivial⟩

theorem WireRefused_over : Rows.wireRefusedRow.holds Try.pinned (OpenSpec.ofChange Rows.wireRefusedSpec) :=
  OpenClaim.holds_of_wide 8 Try.f8 rfl rfl rfl rfl rfl rfl rfl ⟨rfl, rfl, rfl, rfl, rfl⟩ rfl rfl rfl rfl rfl (by kernel_rfl) Try.func8 (by kernel_rfl)
    (of_decide_eq_true (by kernel_rfl)) (by unfold Func.isWrapper; first | (rw [if_pos (by decide +kernel)]; kernel_rfl) | (rw [if_neg (by decide +kernel)]; exact ⟨rfl, rfl⟩))
    (fun os started H enc _ => WireRefused_lifted os started H enc)

/-- The statement. -/
theorem WireRefused_holds : Rows.WireRefusedSaid := WireRefused_over
end Go.Proofs.Ytblimjilinkmbaa
