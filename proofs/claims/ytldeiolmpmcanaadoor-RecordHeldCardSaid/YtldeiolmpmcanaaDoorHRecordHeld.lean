/- The statement RecordHeld is proved: for all events that go well, each block is his of whom its last event says so. No conditions. -/
import Derived.Test.YtldeiolmpmcanaaDoorFrameL
import Derived.Test.YtldeiolmpmcanaaDoorRs
import Derived.Test.YtldeiolmpmcanaaDoorCards
import Derived.Test.YtldeiolmpmcanaaDoorTie
import Derived.SevenTiedAt
namespace Go.Proofs.YtldeiolmpmcanaaDoor
set_option linter.all false
open Go.ChangeShapes Go.WideShapes Go.ChangeAt Go.RowKit

set_option maxRecDepth 100000 in
theorem RecordHeld_lifted (os : Os) (started : os.Started) (H : Type) (enc : TypeId × Value → H) :
    ReturnsInHanded {} Tryd.checked os 4 .any (fun w args => (Rows.recordHeldSpec.pre enc Tryd.prog Tryd.f4 [] false w args ∧ laidMetH Tryd.prog laidL w) ∧ sizedMet enc Tryd.prog Tryd.f4 (OpenSpec.ofChange Rows.recordHeldSpec) false w args) (Rows.recordHeldSpec.post enc Tryd.prog Tryd.f4 false true false false) := by
  refine law_liftedL (by kernel_rfl) Tryd.func4 ?_ (by kernel_rfl) _ rfl ?_ os started H enc
    (ChangeSpec.witness_shaped (enc := enc) (C := Tryd.checked) (os := os) (X := fun w _ => laidMetH Tryd.prog laidL w) false (World.doorLaid Tryd.prog 400 os) #[.slice none 0 0] 8 rfl (World.shaped_of_RefB (by kernel_rfl) (by kernel_rfl)) (by kernel_rfl) (by kernel_rfl) (by kernel_rfl) (door_met os _)) ?_
  · rw [Tryd.params4]
    intro t ht
    simp at ht
    repeat' (rcases ht with rfl | ht)
    all_goals (try subst ht)
    all_goals exact ⟨by kernel_rfl, of_decide_eq_true (by kernel_rfl)⟩
  · intro H ds hl
    rw [Tryd.params4] at hl
    match ds, hl with
    | [d0], _ => rfl
  · intro W base args ds hin hgl
    obtain ⟨hok, ⟨p, hA⟩, hsz⟩ := hin
    rw [Tryd.params4] at hA hok hsz
    obtain ⟨v0, vs0, d0, ds0, p0, q0, hargs, rfl, rfl, h0, r0⟩ := trodAll_cons hA
    obtain ⟨rfl, rfl, rfl⟩ := trodAll_nil r0
    obtain rfl : args = #[v0] := by cases args; simp_all
    obtain ⟨n0, y0, s0⟩ := arg_slice Tryd.underlying22 ev_struct ev_one ev_cells (by rw [ev_size]; decide) (hok 0 22 v0 rfl rfl) h0
    rw [ev_size] at s0
    have z0 : n0 * 40 ≤ 140737488351232 := by
      rcases y0 with ⟨_, rfl⟩ | ⟨es, sp, rfl, rfl⟩
      · omega
      · have := sized_slice hsz (j := 0) (t := 22) rfl rfl Tryd.underlying22
        rw [ev_bytes] at this
        simp only [reachBytes] at this; omega
    obtain ⟨l0, rfl, e0, x0⟩ := s0.evs
    exact (RecordHeld_ps glF glF_0 l0 (by omega)).law hgl ⟨x0, trivial⟩

theorem RecordHeld_over : Rows.recordHeldRow.holds Tryd.pinned (OpenSpec.ofChange Rows.recordHeldSpec) :=
  OpenClaim.holds_of_wide 4 Tryd.f4 rfl rfl rfl rfl rfl rfl rfl ⟨rfl, rfl, rfl, rfl, rfl⟩ rfl rfl rfl rfl rfl (by kernel_rfl) Tryd.func4 (by kernel_rfl)
    (of_decide_eq_true (by kernel_rfl)) (by unfold Func.isWrapper; first | (rw [if_pos (by decide +kernel)]; kernel_rfl) | (rw [if_neg (by decide +kernel)]; exact ⟨rfl, rfl⟩))
    (fun os started H enc _ => RecordHeld_lifted os started H enc)

/-- The statement. -/
theorem RecordHeld_holds : Rows.RecordHeldCardSaid :=
  Claim7.holds_tied_plain_at .later [] [.data] true _ false
    RecordHeld_over (fun _ h => by cases h) (by kernel_rfl) (fun _ h => by cases h) recordHeld_row_tie rfl ⟨rfl, rfl⟩ (by kernel_rfl) rfl
    (fun f fn hf hfn => by
      obtain rfl : f = 4 := Option.some.inj ((show Tryd.prog.funcNamed "rentroll/rentrollkeep.RecordHeld" = some 4 by kernel_rfl).symm.trans hf) |>.symm
      obtain rfl : fn = Tryd.f4 := (Option.some.inj (Tryd.func4.symm.trans hfn)).symm
      exact ⟨by kernel_rfl, fun j t ht => by
        rw [Tryd.params4] at ht
        have hm : t ∈ [22] := by simpa using Array.mem_of_getElem? ht
        have hall : ([22].all fun u => !Tryd.prog.wantsStandIn u) = true := by kernel_rfl
        exact (show Tryd.prog.wantsStandIn t = false by simpa using List.all_eq_true.1 hall t hm)⟩)
    (by kernel_rfl)
end Go.Proofs.YtldeiolmpmcanaaDoor
