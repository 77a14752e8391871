/- The statement WireParses is proved: for all bytes, Parse answers exactly what the document says, errors too. No conditions. -/
import Derived.Test.YtblimjilinkmbaaFrame
import Derived.Test.YtblimjilinkmbaaRn
import Derived.Test.YtblimjilinkmbaaWt
namespace Go.Proofs.Ytblimjilinkmbaa
set_option linter.all false
open Go.ChangeShapes Go.WideShapes Go.ChangeAt Go.RowKit

set_option maxRecDepth 100000 in
theorem WireParses_lifted (os : Os) (started : os.Started) (H : Type) (enc : TypeId × Value → H) :
    ReturnsInHanded {} Try.checked os 4 .any (Rows.wireParsesSpec.pre6 enc Try.prog Try.f4 Rows.wireParsesRow.domain false) (Rows.wireParsesSpec.post enc Try.prog Try.f4 false true false false) := by
  refine law_lifted (by kernel_rfl) Try.func4 ?_ (by kernel_rfl) _ rfl ?_ os started H enc
    (ChangeSpec.witness6 (enc := enc) (C := Try.checked) false ⟨#[], #[.string ⟨#[]⟩], []⟩ 8 (by kernel_rfl) (by kernel_rfl) (by kernel_rfl) (by kernel_rfl)) ?_
  · rw [Try.params4]
    intro t ht
    simp at ht
    repeat' (rcases ht with rfl | ht)
    all_goals (try subst ht)
    all_goals exact ⟨by kernel_rfl, of_decide_eq_true (by kernel_rfl)⟩
  · intro H ds hl
    rw [Try.params4] at hl
    match ds, hl with
    | [d0], _ => rfl
  · intro W base args ds hin
    obtain ⟨hok, ⟨p, hA⟩, hsz⟩ := hin
    rw [Try.params4] at hA hok hsz
    obtain ⟨v0, vs0, d0, ds0, p0, q0, hargs, rfl, rfl, h0, r0⟩ := trodAll_cons hA
    obtain ⟨rfl, rfl, rfl⟩ := trodAll_nil r0
    obtain rfl : args = #[v0] := by cases args; simp_all
    obtain ⟨s0, rfl, rfl⟩ := arg_string Try.underlying9 (hok 0 9 v0 rfl rfl) h0
    have z0 : s0.data.toList.length ≤ 140737488351232 := by
      have := sized_string hsz (j := 0) (t := 9) rfl rfl
      simpa [reachBytes] using this
    exact (WireParses_ps (fun _ => .any) _ z0).lawN ⟨vr_string _, trivial⟩

theorem WireParses_over : Rows.wireParsesRow.holds Try.pinned (OpenSpec.ofChange Rows.wireParsesSpec) :=
  OpenClaim.holds_of_wide 4 Try.f4 rfl rfl rfl rfl rfl rfl rfl ⟨rfl, rfl, rfl, rfl, rfl⟩ rfl rfl rfl rfl rfl (by kernel_rfl) Try.func4 (by kernel_rfl)
    (of_decide_eq_true (by kernel_rfl)) (by unfold Func.isWrapper; first | (rw [if_pos (by decide +kernel)]; kernel_rfl) | (rw [if_neg (by decide +kernel)]; exact ⟨rfl, rfl⟩))
    (fun os started H enc _ => WireParses_lifted os started H enc)

/-- The statement. -/
theorem WireParses_holds : Rows.WireParsesSaid := WireParses_over
end Go.Proofs.Ytblimjilinkmbaa
