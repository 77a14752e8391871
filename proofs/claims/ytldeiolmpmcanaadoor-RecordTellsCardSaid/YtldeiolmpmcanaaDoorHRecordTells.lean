/- The statement RecordTells is proved: for every number and events, Good, Template and Message answer just what the document says, errors too. No conditions. -/
import Derived.Test.YtldeiolmpmcanaaDoorFrameL
import Derived.Test.YtldeiolmpmcanaaDoorArgsS
import Derived.Test.YtldeiolmpmcanaaDoorRs
import Derived.Test.YtldeiolmpmcanaaDoorRi
import Derived.Test.YtldeiolmpmcanaaDoorCards
import Derived.Test.YtldeiolmpmcanaaDoorTie
import Derived.SevenTiedAt
namespace Go.Proofs.YtldeiolmpmcanaaDoor
set_option linter.all false
open Go.ChangeShapes Go.WideShapes Go.ChangeAt Go.RowKit

set_option maxRecDepth 100000 in
theorem RecordTells_lifted (os : Os) (started : os.Started) (H : Type) (enc : TypeId × Value → H) :
    ReturnsInHanded {} Tryd.checked os 5 .any (fun w args => (Rows.recordTellsSpec.pre enc Tryd.prog Tryd.f5 [] false w args ∧ laidMetH Tryd.prog laidL w) ∧ sizedMet enc Tryd.prog Tryd.f5 (OpenSpec.ofChange Rows.recordTellsSpec) false w args) (Rows.recordTellsSpec.post enc Tryd.prog Tryd.f5 false true false false) := by
  refine law_liftedL (by kernel_rfl) Tryd.func5 ?_ (by kernel_rfl) _ rfl ?_ os started H enc
    (ChangeSpec.witness_shaped (enc := enc) (C := Tryd.checked) (os := os) (X := fun w _ => laidMetH Tryd.prog laidL w) false (World.doorLaid Tryd.prog 400 os) #[.int .i64 0, .slice none 0 0] 8 rfl (World.shaped_of_RefB (by kernel_rfl) (by kernel_rfl)) (by kernel_rfl) (by kernel_rfl) (by kernel_rfl) (door_met os _)) ?_
  · rw [Tryd.params5]
    intro t ht
    simp at ht
    repeat' (rcases ht with rfl | ht)
    all_goals (try subst ht)
    all_goals exact ⟨by kernel_rfl, of_decide_eq_true (by kernel_rfl)⟩
  · intro H ds hl
    rw [Tryd.params5] at hl
    match ds, hl with
    | [d0, d1], _ => rfl
  · intro W base args ds hin hgl
    obtain ⟨hok, ⟨p, hA⟩, hsz⟩ := hin
    rw [Tryd.params5] at hA hok hsz
    obtain ⟨v0, vs0, d0, ds0, p0, q0, hargs, rfl, rfl, h0, r0⟩ := trodAll_cons hA
    obtain ⟨v1, vs1, d1, ds1, p1, q1, rfl, rfl, rfl, h1, r1⟩ := trodAll_cons r0
    obtain ⟨rfl, rfl, rfl⟩ := trodAll_nil r1
    obtain rfl : args = #[v0, v1] := by cases args; simp_all
    obtain ⟨n0, rfl, lo0, hi0⟩ := arg_int Tryd.underlying3 (hok 0 3 v0 rfl rfl) h0
    obtain ⟨n1, y1, s1⟩ := arg_slice Tryd.underlying22 ev_struct ev_one ev_cells (by rw [ev_size]; decide) (hok 1 22 v1 rfl rfl) h1
    rw [ev_size] at s1
    have z1 : n1 * 40 ≤ 140737488351232 := by
      rcases y1 with ⟨_, rfl⟩ | ⟨es, sp, rfl, rfl⟩
      · omega
      · have := sized_slice hsz (j := 1) (t := 22) rfl rfl Tryd.underlying22
        rw [ev_bytes] at this
        simp only [reachBytes] at this; omega
    obtain ⟨l1, rfl, e1, x1⟩ := s1.evs
    exact (RecordTells_ps glF glF_0 n0 l1 (by omega)).law hgl ⟨.int _ _, x1, trivial⟩

theorem RecordTells_over : Rows.recordTellsRow.holds Tryd.pinned (OpenSpec.ofChange Rows.recordTellsSpec) :=
  OpenClaim.holds_of_wide 5 Tryd.f5 rfl rfl rfl rfl rfl rfl rfl ⟨rfl, rfl, rfl, rfl, rfl⟩ rfl rfl rfl rfl rfl (by kernel_rfl) Tryd.func5 (by kernel_rfl)
    (of_decide_eq_true (by kernel_rfl)) (by unfold Func.isWrapper; first | (rw [if_pos (by decide +kernel)]; kernel_rfl) | (rw [if_neg (by decide +kernel)]; exact ⟨rfl, rfl⟩))
    (fun os started H enc _ => RecordTells_lifted os started H enc)

/-- The statement. -/
theorem RecordTells_holds : Rows.RecordTellsCardSaid :=
  Claim7.holds_tied_plain_at .later [] [.data] true _ false
    RecordTells_over (fun _ h => by cases h) (by kernel_rfl) (fun _ h => by cases h) recordTells_row_tie rfl ⟨rfl, rfl⟩ (by kernel_rfl) rfl
    (fun f fn hf hfn => by
      obtain rfl : f = 5 := Option.some.inj ((show Tryd.prog.funcNamed "rentroll/rentrolllaw.RecordTells" = some 5 by kernel_rfl).symm.trans hf) |>.symm
      obtain rfl : fn = Tryd.f5 := (Option.some.inj (Tryd.func5.symm.trans hfn)).symm
      exact ⟨by kernel_rfl, fun j t ht => by
        rw [Tryd.params5] at ht
        have hm : t ∈ [3, 22] := by simpa using Array.mem_of_getElem? ht
        have hall : ([3, 22].all fun u => !Tryd.prog.wantsStandIn u) = true := by kernel_rfl
        exact (show Tryd.prog.wantsStandIn t = false by simpa using List.all_eq_true.1 hall t hm)⟩)
    (by kernel_rfl)
end Go.Proofs.YtldeiolmpmcanaaDoor
