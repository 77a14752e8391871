/- The statement TrackKeeps is proved: for every flow over UDP, packet and hour, a packet outward renews the flow, and one inward leaves it. No conditions. -/
import Derived.Test.YtoaoofiaiiedlaaFrame
import Derived.Test.YtoaoofiaiiedlaaTrack5
namespace Go.Proofs.Ytoaoofiaiiedlaa
open Go.ChangeShapes Go.WideShapes Go.ChangeAt Go.RowKit

set_option maxRecDepth 100000 in
theorem TrackKeeps_lifted (os : Os) (started : os.Started) (H : Type) (enc : TypeId × Value → H) :
    ReturnsInHanded {} Try.checked os 11 .any (Rows.trackKeepsSpec.pre6 enc Try.prog Try.f11 Rows.trackKeepsRow.domain false) (Rows.trackKeepsSpec.post enc Try.prog Try.f11 false true false false) := by
  refine law_lifted (by kernel_rfl) Try.func11 ?_ (by kernel_rfl) _ rfl ?_ os started H enc
    (ChangeSpec.witness6 (enc := enc) (C := Try.checked) false ⟨#[], #[.agg #[.int .i64 0, .int .i64 0, .int .i64 0, .int .i64 0, .int .i64 0, .int .i64 0, .int .i64 0, .int .i64 0, .int .i64 0, .int .i64 0], .agg #[.int .i64 0, .int .i64 0, .int .i64 0, .int .i64 0, .int .i64 0, .int .i64 0, .int .i64 0, .int .i64 0, .int .i64 0, .int .i64 0, .int .i64 0, .string ⟨#[]⟩], .int .i64 0], []⟩ 8 (by kernel_rfl) (by kernel_rfl) (by kernel_rfl) (by kernel_rfl)) ?_
  · rw [Try.params11]
    intro t ht
    simp at ht
    repeat' (rcases ht with rfl | ht)
    all_goals (try subst ht)
    all_goals exact ⟨by kernel_rfl, of_decide_eq_true (by kernel_rfl)⟩
  · intro H ds hl
    rw [Try.params11] at hl
    match ds, hl with
    | [d0, d1, d2], _ => rfl
  · intro W base args ds hin
    obtain ⟨hok, ⟨p, hA⟩, hsz⟩ := hin
    rw [Try.params11] at hA hok hsz
    obtain ⟨v0, vs0, d0, ds0, p0, q0, hargs, rfl, rfl, h0, r0⟩ := trodAll_cons hA
    obtain ⟨v1, vs1, d1, ds1, p1, q1, rfl, rfl, rfl, h1, r1⟩ := trodAll_cons r0
    obtain ⟨v2, vs2, d2, ds2, p2, q2, rfl, rfl, rfl, h2, r2⟩ := trodAll_cons r1
    obtain ⟨rfl, rfl, rfl⟩ := trodAll_nil r2
    obtain rfl : args = #[v0, v1, v2] := by cases args; simp_all
    obtain ⟨f0, rfl, k0⟩ := arg_flow (hok 0 39 v0 rfl rfl)
    obtain ⟨p1, rfl, k1⟩ := arg_pkt (hok 1 33 v1 rfl rfl)
    obtain ⟨n2, rfl, lo2, hi2⟩ := arg_int Try.underlying3 (hok 2 3 v2 rfl rfl) h2
    exact LTrackKeeps f0 p1 n2 W k0 k1

theorem TrackKeeps_over : Rows.trackKeepsRow.holds Try.pinned (OpenSpec.ofChange Rows.trackKeepsSpec) :=
  OpenClaim.holds_of_wide 11 Try.f11 rfl rfl rfl rfl rfl rfl rfl ⟨rfl, rfl, rfl, rfl, rfl⟩ rfl rfl rfl rfl rfl (by kernel_rfl) Try.func11 (by kernel_rfl)
    (of_decide_eq_true (by kernel_rfl)) (by unfold Func.isWrapper; first | (rw [if_pos (by decide +kernel)]; kernel_rfl) | (rw [if_neg (by decide +kernel)]; exact ⟨rfl, rfl⟩))
    (fun os started H enc _ => TrackKeeps_lifted os started H enc)

/-- The statement. -/
theorem TrackKeeps_holds : Rows.TrackKeepsSaid := TrackKeeps_over
end Go.Proofs.Ytoaoofiaiiedlaa
