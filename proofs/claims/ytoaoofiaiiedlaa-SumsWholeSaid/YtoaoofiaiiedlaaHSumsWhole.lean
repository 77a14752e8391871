/- The statement SumsWhole is proved: for all bytes, the sum of two texts is that of their sums, and bytes with their check behind come to 65535. No conditions. -/
import Derived.Test.YtoaoofiaiiedlaaFrame
import Derived.Test.YtoaoofiaiiedlaaSumsLaws
namespace Go.Proofs.Ytoaoofiaiiedlaa
open Go.ChangeShapes Go.WideShapes Go.ChangeAt Go.RowKit

set_option maxRecDepth 100000 in
theorem SumsWhole_lifted (os : Os) (started : os.Started) (H : Type) (enc : TypeId × Value → H) :
    ReturnsInHanded {} Try.checked os 6 .any (Rows.sumsWholeSpec.pre6 enc Try.prog Try.f6 Rows.sumsWholeRow.domain false) (Rows.sumsWholeSpec.post enc Try.prog Try.f6 false true false false) := by
  refine law_lifted (by kernel_rfl) Try.func6 ?_ (by kernel_rfl) _ rfl ?_ os started H enc
    (ChangeSpec.witness6 (enc := enc) (C := Try.checked) false ⟨#[], #[.string ⟨#[]⟩, .string ⟨#[]⟩], []⟩ 8 (by kernel_rfl) (by kernel_rfl) (by kernel_rfl) (by kernel_rfl)) ?_
  · rw [Try.params6]
    intro t ht
    simp at ht
    subst ht
    exact ⟨by kernel_rfl, of_decide_eq_true (by kernel_rfl)⟩
  · intro H ds hl
    rw [Try.params6] at hl
    match ds, hl with
    | [d0, d1], _ => rfl
  · intro W base args ds hin
    obtain ⟨hok, ⟨p, hA⟩, hsz⟩ := hin
    rw [Try.params6] at hA hok hsz
    obtain ⟨v0, vs0, d0, ds0, p0, q0, hargs, rfl, rfl, h0, r0⟩ := trodAll_cons hA
    obtain ⟨v1, vs1, d1, ds1, p1, q1, rfl, rfl, rfl, h1, r1⟩ := trodAll_cons r0
    obtain ⟨rfl, rfl, rfl⟩ := trodAll_nil r1
    obtain rfl : args = #[v0, v1] := by cases args; simp_all
    obtain ⟨s0, rfl, rfl⟩ := arg_string Try.underlying9 (hok 0 9 v0 rfl rfl) h0
    have z0 : s0.size ≤ 140737488351232 := by
      have := sized_string hsz (j := 0) (t := 9) rfl rfl
      simpa [reachBytes] using this
    obtain ⟨s1, rfl, rfl⟩ := arg_string Try.underlying9 (hok 1 9 v1 rfl rfl) h1
    have z1 : s1.size ≤ 140737488351232 := by
      have := sized_string hsz (j := 1) (t := 9) rfl rfl
      simpa [reachBytes] using this
    exact LSumsWhole s0 s1 W z0 z1

theorem SumsWhole_over : Rows.sumsWholeRow.holds Try.pinned (OpenSpec.ofChange Rows.sumsWholeSpec) :=
  OpenClaim.holds_of_wide 6 Try.f6 rfl rfl rfl rfl rfl rfl rfl ⟨rfl, rfl, rfl, rfl, rfl⟩ rfl rfl rfl rfl rfl (by kernel_rfl) Try.func6 (by kernel_rfl)
    (of_decide_eq_true (by kernel_rfl)) (by unfold Func.isWrapper; first | (rw [if_pos (by decide +kernel)]; kernel_rfl) | (rw [if_neg (by decide +kernel)]; exact ⟨rfl, rfl⟩))
    (fun os started H enc _ => SumsWhole_lifted os started H enc)

/-- The statement. -/
theorem SumsWhole_holds : Rows.SumsWholeSaid := SumsWhole_over
end Go.Proofs.Ytoaoofiaiiedlaa
