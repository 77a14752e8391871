/- The statement WireAnew is proved: for every packet, a frame that is turned is, to the byte, the one that would be built anew. No conditions. -/
import Derived.Test.YtblimjilinkmbaaR0
import Derived.Test.YtblimjilinkmbaaRn
import Derived.Test.YtblimjilinkmbaaYw
namespace Go.Proofs.Ytblimjilinkmbaa
set_option linter.all false
open Go.ChangeShapes Go.WideShapes Go.ChangeAt Go.RowKit

set_option maxRecDepth 100000 in
theorem WireAnew_lifted (os : Os) (started : os.Started) (H : Type) (enc : TypeId × Value → H) :
    ReturnsInHanded {} Try.checked os 9 .any (Rows.wireAnewSpec.pre6 enc Try.prog Try.f9 Rows.wireAnewRow.domain false) (Rows.wireAnewSpec.post enc Try.prog Try.f9 false true false false) := by
  refine law_lifted (by kernel_rfl) Try.func9 ?_ (by kernel_rfl) _ rfl ?_ os started H enc
    (ChangeSpec.witness6 (enc := enc) (C := Try.checked) false ⟨#[], #[.agg #[.int .i64 0, .int .i64 0, .int .i64 0, .int .i64 0, .int .i64 0, .int .i64 0, .int .i64 0, .int .i64 0, .int .i64 0, .int .i64 0, .int .i64 0, .string ⟨#[]⟩], .int .i64 0, .int .i64 0, .int .i64 0], []⟩ 8 (by kernel_rfl) (by kernel_rfl) (by kernel_rfl) (by kernel_rfl)) ?_
  · rw [Try.params9]
    intro t ht
    simp at ht
    repeat' (rcases ht with rfl | ht)
    all_goals (try subst ht)
    all_goals exact ⟨by kernel_rfl, of_decide_eq_true (by kernel_rfl)⟩
  · intro H ds hl
    rw [Try.params9] at hl
    match ds, hl with
    | [d0, d1, d2, d3], _ => rfl
  · intro W base args ds hin
    obtain ⟨hok, ⟨p, hA⟩, hsz⟩ := hin
    rw [Try.params9] at hA hok hsz
    obtain ⟨v0, vs0, d0, ds0, p0, q0, hargs, rfl, rfl, h0, r0⟩ := trodAll_cons hA
    obtain ⟨v1, vs1, d1, ds1, p1, q1, rfl, rfl, rfl, h1, r1⟩ := trodAll_cons r0
    obtain ⟨v2, vs2, d2, ds2, p2, q2, rfl, rfl, rfl, h2, r2⟩ := trodAll_cons r1
    obtain ⟨v3, vs3, d3, ds3, p3, q3, rfl, rfl, rfl, h3, r3⟩ := trodAll_cons r2
    obtain ⟨rfl, rfl, rfl⟩ := trodAll_nil r3
    obtain rfl : args = #[v0, v1, v2, v3] := by cases args; simp_all
    obtain ⟨p0, w0, k0⟩ := arg_pk (hok 0 23 v0 rfl rfl)
    obtain ⟨n1, rfl, lo1, hi1⟩ := arg_int Try.underlying3 (hok 1 3 v1 rfl rfl) h1
    obtain ⟨n2, rfl, lo2, hi2⟩ := arg_int Try.underlying3 (hok 2 3 v2 rfl rfl) h2
    obtain ⟨n3, rfl, lo3, hi3⟩ := arg_int Try.underlying3 (hok 3 3 v3 rfl rfl) h3
    exact (WireAnew_ps (fun _ => .any) p0 n1 n2 n3).lawN ⟨w0, .int _ _, .int _ _, .int _ _, trivial⟩

theorem WireAnew_over : Rows.wireAnewRow.holds Try.pinned (OpenSpec.ofChange Rows.wireAnewSpec) :=
  OpenClaim.holds_of_wide 9 Try.f9 rfl rfl rfl rfl rfl rfl rfl ⟨rfl, rfl, rfl, rfl, rfl⟩ rfl rfl rfl rfl rfl (by kernel_rfl) Try.func9 (by kernel_rfl)
    (of_decide_eq_true (by kernel_rfl)) (by unfold Func.isWrapper; first | (rw [if_pos (by decide +kernel)]; kernel_rfl) | (rw [if_neg (by decide +kernel)]; exact ⟨rfl, rfl⟩))
    (fun os started H enc _ => WireAnew_lifted os started H enc)

/-- The statement. -/
theorem WireAnew_holds : Rows.WireAnewSaid := WireAnew_over
end Go.Proofs.Ytblimjilinkmbaa
