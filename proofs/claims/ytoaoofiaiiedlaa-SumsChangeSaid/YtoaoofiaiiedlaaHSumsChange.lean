/- The statement SumsChange is proved: for all bytes and a word in them, what Update says of its change is what Check says anew, and back. No conditions. -/
import Derived.Test.YtoaoofiaiiedlaaFrame
import Derived.Test.YtoaoofiaiiedlaaSumsLaws
namespace Go.Proofs.Ytoaoofiaiiedlaa
open Go.ChangeShapes Go.WideShapes Go.ChangeAt Go.RowKit

set_option maxRecDepth 100000 in
theorem SumsChange_lifted (os : Os) (started : os.Started) (H : Type) (enc : TypeId × Value → H) :
    ReturnsInHanded {} Try.checked os 8 .any (Rows.sumsChangeSpec.pre6 enc Try.prog Try.f8 Rows.sumsChangeRow.domain false) (Rows.sumsChangeSpec.post enc Try.prog Try.f8 false true false false) := by
  refine law_lifted (by kernel_rfl) Try.func8 ?_ (by kernel_rfl) _ rfl ?_ os started H enc
    (ChangeSpec.witness6 (enc := enc) (C := Try.checked) false ⟨#[], #[.string ⟨#[]⟩, .int .i64 0, .int .i64 0, .string ⟨#[]⟩], []⟩ 8 (by kernel_rfl) (by kernel_rfl) (by kernel_rfl) (by kernel_rfl)) ?_
  · rw [Try.params8]
    intro t ht
    simp at ht
    repeat' (rcases ht with rfl | ht)
    all_goals (try subst ht)
    all_goals exact ⟨by kernel_rfl, of_decide_eq_true (by kernel_rfl)⟩
  · intro H ds hl
    rw [Try.params8] at hl
    match ds, hl with
    | [d0, d1, d2, d3], _ => rfl
  · intro W base args ds hin
    obtain ⟨hok, ⟨p, hA⟩, hsz⟩ := hin
    rw [Try.params8] at hA hok hsz
    obtain ⟨v0, vs0, d0, ds0, p0, q0, hargs, rfl, rfl, h0, r0⟩ := trodAll_cons hA
    obtain ⟨v1, vs1, d1, ds1, p1, q1, rfl, rfl, rfl, h1, r1⟩ := trodAll_cons r0
    obtain ⟨v2, vs2, d2, ds2, p2, q2, rfl, rfl, rfl, h2, r2⟩ := trodAll_cons r1
    obtain ⟨v3, vs3, d3, ds3, p3, q3, rfl, rfl, rfl, h3, r3⟩ := trodAll_cons r2
    obtain ⟨rfl, rfl, rfl⟩ := trodAll_nil r3
    obtain rfl : args = #[v0, v1, v2, v3] := by cases args; simp_all
    obtain ⟨s0, rfl, rfl⟩ := arg_string Try.underlying9 (hok 0 9 v0 rfl rfl) h0
    have z0 : s0.size ≤ 140737488351232 := by
      have := sized_string hsz (j := 0) (t := 9) rfl rfl
      simpa [reachBytes] using this
    obtain ⟨n1, rfl, lo1, hi1⟩ := arg_int Try.underlying3 (hok 1 3 v1 rfl rfl) h1
    obtain ⟨n2, rfl, lo2, hi2⟩ := arg_int Try.underlying3 (hok 2 3 v2 rfl rfl) h2
    obtain ⟨s3, rfl, rfl⟩ := arg_string Try.underlying9 (hok 3 9 v3 rfl rfl) h3
    have z3 : s3.size ≤ 140737488351232 := by
      have := sized_string hsz (j := 3) (t := 9) rfl rfl
      simpa [reachBytes] using this
    exact LSumsChange s0 n1 n2 s3 W z0 z3

theorem SumsChange_over : Rows.sumsChangeRow.holds Try.pinned (OpenSpec.ofChange Rows.sumsChangeSpec) :=
  OpenClaim.holds_of_wide 8 Try.f8 rfl rfl rfl rfl rfl rfl rfl ⟨rfl, rfl, rfl, rfl, rfl⟩ rfl rfl rfl rfl rfl (by kernel_rfl) Try.func8 (by kernel_rfl)
    (of_decide_eq_true (by kernel_rfl)) (by unfold Func.isWrapper; first | (rw [if_pos (by decide +kernel)]; kernel_rfl) | (rw [if_neg (by decide +kernel)]; exact ⟨rfl, rfl⟩))
    (fun os started H enc _ => SumsChange_lifted os started H enc)

/-- The statement. -/
theorem SumsChange_holds : Rows.SumsChangeSaid := SumsChange_over
end Go.Proofs.Ytoaoofiaiiedlaa
