/- The statement TrackBegins is proved: for every packet, Begins and First answer exactly what the document says. No conditions. -/
import Derived.Test.YtoaoofiaiiedlaaFrame
import Derived.Test.YtoaoofiaiiedlaaTrackLaws
namespace Go.Proofs.Ytoaoofiaiiedlaa
open Go.ChangeShapes Go.WideShapes Go.ChangeAt Go.RowKit

set_option maxRecDepth 100000 in
theorem TrackBegins_lifted (os : Os) (started : os.Started) (H : Type) (enc : TypeId × Value → H) :
    ReturnsInHanded {} Try.checked os 9 .any (Rows.trackBeginsSpec.pre6 enc Try.prog Try.f9 Rows.trackBeginsRow.domain false) (Rows.trackBeginsSpec.post enc Try.prog Try.f9 false true false false) := by
  refine law_lifted (by kernel_rfl) Try.func9 ?_ (by kernel_rfl) _ rfl ?_ os started H enc
    (ChangeSpec.witness6 (enc := enc) (C := Try.checked) false ⟨#[], #[.agg #[.int .i64 0, .int .i64 0, .int .i64 0, .int .i64 0, .int .i64 0, .int .i64 0, .int .i64 0, .int .i64 0, .int .i64 0, .int .i64 0, .int .i64 0, .string ⟨#[]⟩]], []⟩ 8 (by kernel_rfl) (by kernel_rfl) (by kernel_rfl) (by kernel_rfl)) ?_
  · rw [Try.params9]
    intro t ht
    simp at ht
    subst ht
    exact ⟨by kernel_rfl, of_decide_eq_true (by kernel_rfl)⟩
  · intro H ds hl
    rw [Try.params9] at hl
    match ds, hl with
    | [d0], _ => rfl
  · intro W base args ds hin
    obtain ⟨hok, ⟨p, hA⟩, hsz⟩ := hin
    rw [Try.params9] at hA hok hsz
    obtain ⟨v0, vs0, d0, ds0, p0, q0, hargs, rfl, rfl, h0, r0⟩ := trodAll_cons hA
    obtain ⟨rfl, rfl, rfl⟩ := trodAll_nil r0
    obtain rfl : args = #[v0] := by cases args; simp_all
    obtain ⟨p0, rfl, k0⟩ := arg_pkt (hok 0 33 v0 rfl rfl)
    exact LTrackBegins p0 W k0

theorem TrackBegins_over : Rows.trackBeginsRow.holds Try.pinned (OpenSpec.ofChange Rows.trackBeginsSpec) :=
  OpenClaim.holds_of_wide 9 Try.f9 rfl rfl rfl rfl rfl rfl rfl ⟨rfl, rfl, rfl, rfl, rfl⟩ rfl rfl rfl rfl rfl (by kernel_rfl) Try.func9 (by kernel_rfl)
    (of_decide_eq_true (by kernel_rfl)) (by unfold Func.isWrapper; first | (rw [if_pos (by decide +kernel)]; kernel_rfl) | (rw [if_neg (by decide +kernel)]; exact ⟨rfl, rfl⟩))
    (fun os started H enc _ => TrackBegins_lifted os started H enc)

/-- The statement. -/
theorem TrackBegins_holds : Rows.TrackBeginsSaid := TrackBegins_over
end Go.Proofs.Ytoaoofiaiiedlaa
