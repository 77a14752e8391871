/- The statement WireRefuses is proved: for all bytes and ids, Refuse answers exactly what the document says, errors too. No conditions. -/
import Derived.Test.YtblimjilinkmbaaR0
import Derived.Test.YtblimjilinkmbaaRn
import Derived.Test.YtblimjilinkmbaaWu
namespace Go.Proofs.Ytblimjilinkmbaa
set_option linter.all false
open Go.ChangeShapes Go.WideShapes Go.ChangeAt Go.RowKit

set_option maxRecDepth 100000 in
theorem WireRefuses_lifted (os : Os) (started : os.Started) (H : Type) (enc : TypeId × Value → H) :
    ReturnsInHanded {} Try.checked os 7 .any (Rows.wireRefusesSpec.pre6 enc Try.prog Try.f7 Rows.wireRefusesRow.domain false) (Rows.wireRefusesSpec.post enc Try.prog Try.f7 false true false false) := by
  refine law_lifted (by kernel_rfl) Try.func7 ?_ (by kernel_rfl) _ rfl ?_ os started H enc
    (ChangeSpec.witness6 (enc := enc) (C := Try.checked) false ⟨#[], #[.string ⟨#[]⟩, .int .i64 0], []⟩ 8 (by kernel_rfl) (by kernel_rfl) (by kernel_rfl) (by kernel_rfl)) ?_
  · rw [Try.params7]
    intro t ht
    simp at ht
    repeat' (rcases ht with rfl | ht)
    all_goals (try subst ht)
    all_goals exact ⟨by kernel_rfl, of_decide_eq_true (by kernel_rfl)⟩
  · intro H ds hl
    rw [Try.params7] at hl
    match ds, hl with
    | [d0, d1], _ => rfl
  · intro W base args ds hin
    obtain ⟨hok, ⟨p, hA⟩, hsz⟩ := hin
    rw [Try.params7] at hA hok hsz
    obtain ⟨v0, vs0, d0, ds0, p0, q0, hargs, rfl, rfl, h0, r0⟩ := trodAll_cons hA
    obtain ⟨v1, vs1, d1, ds1, p1, q1, rfl, rfl, rfl, h1, r1⟩ := trodAll_cons r0
    obtain ⟨rfl, rfl, rfl⟩ := trodAll_nil r1
    obtain rfl : args = #[v0, v1] := by cases args; simp_all
    obtain ⟨s0, rfl, rfl⟩ := arg_string Try.underlying9 (hok 0 9 v0 rfl rfl) h0
    have z0 : s0.data.toList.length ≤ 140737488351232 := by
      have := sized_string hsz (j := 0) (t := 9) rfl rfl
      simpa [reachBytes] using this
    obtain ⟨n1, rfl, lo1, hi1⟩ := arg_int Try.underlying3 (hok 1 3 v1 rfl rfl) h1
    exact (WireRefuses_ps (fun _ => .any) _ n1 z0).lawN ⟨vr_string _, .int _ _, trivial⟩

theorem WireRefuses_over : Rows.wireRefusesRow.holds Try.pinned (OpenSpec.ofChange Rows.wireRefusesSpec) :=
  OpenClaim.holds_of_wide 7 Try.f7 rfl rfl rfl rfl rfl rfl rfl ⟨rfl, rfl, rfl, rfl, rfl⟩ rfl rfl rfl rfl rfl (by kernel_rfl) Try.func7 (by kernel_rfl)
    (of_decide_eq_true (by kernel_rfl)) (by unfold Func.isWrapper; first | (rw [if_pos (by decide +kernel)]; kernel_rfl) | (rw [if_neg (by decide +kernel)]; exact ⟨rfl, rfl⟩))
    (fun os started H enc _ => WireRefuses_lifted os started H enc)

/-- The statement. -/
theorem WireRefuses_holds : Rows.WireRefusesSaid := WireRefuses_over
end Go.Proofs.Ytblimjilinkmbaa
