/- The statement TrackRuns is proved: for every row of packets, a flow never goes back, is open only behind an answer, closed only behind an end, and lasts just as long as its state says. No conditions. -/
import Derived.Test.YtldeiolmpmcanaaFrame
import Derived.Test.YtldeiolmpmcanaaTn
namespace Go.Proofs.Ytldeiolmpmcanaa
open Go.ChangeShapes Go.WideShapes Go.ChangeAt Go.RowKit

set_option maxRecDepth 100000 in
theorem TrackRuns_lifted (os : Os) (started : os.Started) (H : Type) (enc : TypeId × Value → H) :
    ReturnsInHanded {} Try.checked os 3 .any (Rows.trackRunsSpec.pre6 enc Try.prog Try.f3 Rows.trackRunsRow.domain false) (Rows.trackRunsSpec.post enc Try.prog Try.f3 false true false false) := by
  refine law_lifted (by kernel_rfl) Try.func3 ?_ (by kernel_rfl) _ rfl ?_ os started H enc
    (ChangeSpec.witness6 (enc := enc) (C := Try.checked) false ⟨#[], #[.slice none 0 0], []⟩ 8 (by kernel_rfl) (by kernel_rfl) (by kernel_rfl) (by kernel_rfl)) ?_
  · rw [Try.params3]
    intro t ht
    simp at ht
    subst ht
    exact ⟨by kernel_rfl, of_decide_eq_true (by kernel_rfl)⟩
  · intro H ds hl
    rw [Try.params3] at hl
    match ds, hl with
    | [d0], _ => rfl
  · intro W base args ds hin
    obtain ⟨hok, ⟨p, hA⟩, hsz⟩ := hin
    rw [Try.params3] at hA hok hsz
    obtain ⟨v0, vs0, d0, ds0, p0, q0, hargs, rfl, rfl, h0, r0⟩ := trodAll_cons hA
    obtain ⟨rfl, rfl, rfl⟩ := trodAll_nil r0
    obtain rfl : args = #[v0] := by cases args; simp_all
    obtain ⟨n0, -, s0⟩ := arg_slice Try.underlying22 seen_struct (by kernel_rfl) (by kernel_rfl) (by rw [seen_size]; decide) (hok 0 22 v0 rfl rfl) h0
    rw [seen_size] at s0
    exact LTrackRuns v0 n0 W s0

theorem TrackRuns_over : Rows.trackRunsRow.holds Try.pinned (OpenSpec.ofChange Rows.trackRunsSpec) :=
  OpenClaim.holds_of_wide 3 Try.f3 rfl rfl rfl rfl rfl rfl rfl ⟨rfl, rfl, rfl, rfl, rfl⟩ rfl rfl rfl rfl rfl (by kernel_rfl) Try.func3 (by kernel_rfl)
    (of_decide_eq_true (by kernel_rfl)) (by unfold Func.isWrapper; first | (rw [if_pos (by decide +kernel)]; kernel_rfl) | (rw [if_neg (by decide +kernel)]; exact ⟨rfl, rfl⟩))
    (fun os started H enc _ => TrackRuns_lifted os started H enc)

/-- The statement. -/
theorem TrackRuns_holds : Rows.TrackRunsSaid := TrackRuns_over
end Go.Proofs.Ytldeiolmpmcanaa
