/- The statement RecordReads is proved: for all bytes, Read answers exactly what the document says, errors too. No conditions. -/
import Derived.Test.YtglkiaiipkdkbaaDoorFrameL
import Derived.Test.YtglkiaiipkdkbaaDoorRq
import Derived.Test.YtglkiaiipkdkbaaDoorRs
import Derived.Test.YtglkiaiipkdkbaaDoorVs
import Derived.Test.YtglkiaiipkdkbaaDoorCards
import Derived.Test.YtglkiaiipkdkbaaDoorTie
import Derived.SevenTiedAt
namespace Go.Proofs.YtglkiaiipkdkbaaDoor
set_option linter.all false
open Go.ChangeShapes Go.WideShapes Go.ChangeAt Go.RowKit

set_option maxRecDepth 100000 in
theorem RecordReads_lifted (os : Os) (started : os.Started) (H : Type) (enc : TypeId × Value → H) :
    ReturnsInHanded {} Tryd.checked os 6 .any (fun w args => (Rows.recordReadsSpec.pre enc Tryd.prog Tryd.f6 [] false w args ∧ laidMetH Tryd.prog laidL w) ∧ sizedMet enc Tryd.prog Tryd.f6 (OpenSpec.ofChange Rows.recordReadsSpec) false w args) (Rows.recordReadsSpec.post enc Tryd.prog Tryd.f6 false true false false) := by
  refine law_liftedL (by kernel_rfl) Tryd.func6 ?_ (by kernel_rfl) _ rfl ?_ os started H enc
    (ChangeSpec.witness_shaped (enc := enc) (C := Tryd.checked) (os := os) (X := fun w _ => laidMetH Tryd.prog laidL w) false (World.doorLaid Tryd.prog 400 os) #[.string ⟨#[]⟩] 8 rfl (World.shaped_of_RefB (by kernel_rfl) (by kernel_rfl)) (by kernel_rfl) (by kernel_rfl) (by kernel_rfl) (door_met os _)) ?_
  · rw [Tryd.params6]
    intro t ht
    simp at ht
    repeat' (rcases ht with rfl | ht)
    all_goals (try subst ht)
    all_goals exact ⟨by kernel_rfl, of_decide_eq_true (by kernel_rfl)⟩
  · intro H ds hl
    rw [Tryd.params6] at hl
    match ds, hl with
    | [d0], _ => rfl
  · intro W base args ds hin hgl
    obtain ⟨hok, ⟨p, hA⟩, hsz⟩ := hin
    rw [Tryd.params6] at hA hok hsz
    obtain ⟨v0, vs0, d0, ds0, p0, q0, hargs, rfl, rfl, h0, r0⟩ := trodAll_cons hA
    obtain ⟨rfl, rfl, rfl⟩ := trodAll_nil r0
    obtain rfl : args = #[v0] := by cases args; simp_all
    obtain ⟨s0, rfl, rfl⟩ := arg_string Tryd.underlying9 (hok 0 9 v0 rfl rfl) h0
    have z0 : s0.data.toList.length ≤ 140737488351232 := by
      have := sized_string hsz (j := 0) (t := 9) rfl rfl
      simpa [reachBytes] using this
    exact (RecordReads_ps glF glF_0 _ (by omega)).law hgl ⟨vr_string _, trivial⟩

theorem RecordReads_over : Rows.recordReadsRow.holds Tryd.pinned (OpenSpec.ofChange Rows.recordReadsSpec) :=
  OpenClaim.holds_of_wide 6 Tryd.f6 rfl rfl rfl rfl rfl rfl rfl ⟨rfl, rfl, rfl, rfl, rfl⟩ rfl rfl rfl rfl rfl (by kernel_rfl) Tryd.func6 (by kernel_rfl)
    (of_decide_eq_true (by kernel_rfl)) (by unfold Func.isWrapper; first | (rw [if_pos (by decide +kernel)]; kernel_rfl) | (rw [if_neg (by decide +kernel)]; exact ⟨rfl, rfl⟩))
    (fun os started H enc _ => RecordReads_lifted os started H enc)

/-- The statement. -/
theorem RecordReads_holds : Rows.RecordReadsCardSaid :=
  Claim7.holds_tied_plain_at .later [] [.data] true _ false
    RecordReads_over (fun _ h => by cases h) (by kernel_rfl) (fun _ h => by cases h) recordReads_row_tie rfl ⟨rfl, rfl⟩ (by kernel_rfl) rfl
    (fun f fn hf hfn => by
      obtain rfl : f = 6 := Option.some.inj ((show Tryd.prog.funcNamed "rentroll/rentrolllaw.RecordReads" = some 6 by kernel_rfl).symm.trans hf) |>.symm
      obtain rfl : fn = Tryd.f6 := (Option.some.inj (Tryd.func6.symm.trans hfn)).symm
      exact ⟨by kernel_rfl, fun j t ht => by
        rw [Tryd.params6] at ht
        have hm : t ∈ [9] := by simpa using Array.mem_of_getElem? ht
        have hall : ([9].all fun u => !Tryd.prog.wantsStandIn u) = true := by kernel_rfl
        exact (show Tryd.prog.wantsStandIn t = false by simpa using List.all_eq_true.1 hall t hm)⟩)
    (by kernel_rfl)
end Go.Proofs.YtglkiaiipkdkbaaDoor
