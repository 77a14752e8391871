/- The statement RecordBack is proved: for all events, told in messages they are read as they were, and not with a byte less. No conditions. -/
import Derived.Test.YtglkiaiipkdkbaaDoorFrameL
import Derived.Test.YtglkiaiipkdkbaaDoorRx
import Derived.Test.YtglkiaiipkdkbaaDoorCards
import Derived.Test.YtglkiaiipkdkbaaDoorTie
import Derived.SevenTiedAt
namespace Go.Proofs.YtglkiaiipkdkbaaDoor
set_option linter.all false
open Go.ChangeShapes Go.WideShapes Go.ChangeAt Go.RowKit

set_option maxRecDepth 100000 in
theorem RecordBack_lifted (os : Os) (started : os.Started) (H : Type) (enc : TypeId × Value → H) :
    ReturnsInHanded {} Tryd.checked os 7 .any (fun w args => (Rows.recordBackSpec.pre enc Tryd.prog Tryd.f7 [] false w args ∧ laidMetH Tryd.prog laidL w) ∧ sizedMet enc Tryd.prog Tryd.f7 (OpenSpec.ofChange Rows.recordBackSpec) false w args) (Rows.recordBackSpec.post enc Tryd.prog Tryd.f7 false true false false) := by
  refine law_liftedL (by kernel_rfl) Tryd.func7 ?_ (by kernel_rfl) _ rfl ?_ os started H enc
    (ChangeSpec.witness_shaped (enc := enc) (C := Tryd.checked) (os := os) (X := fun w _ => laidMetH Tryd.prog laidL w) false (World.doorLaid Tryd.prog 400 os) #[.slice none 0 0] 8 rfl (World.shaped_of_RefB (by kernel_rfl) (by kernel_rfl)) (by kernel_rfl) (by kernel_rfl) (by kernel_rfl) (door_met os _)) ?_
  · rw [Tryd.params7]
    intro t ht
    simp at ht
    repeat' (rcases ht with rfl | ht)
    all_goals (try subst ht)
    all_goals exact ⟨by kernel_rfl, of_decide_eq_true (by kernel_rfl)⟩
  · intro H ds hl
    rw [Tryd.params7] at hl
    match ds, hl with
    | [d0], _ => rfl
  · intro W base args ds hin hgl
    obtain ⟨hok, ⟨p, hA⟩, hsz⟩ := hin
    rw [Tryd.params7] at hA hok hsz
    obtain ⟨v0, vs0, d0, ds0, p0, q0, hargs, rfl, rfl, h0, r0⟩ := trodAll_cons hA
    obtain ⟨rfl, rfl, rfl⟩ := trodAll_nil r0
    obtain rfl : args = #[v0] := by cases args; simp_all
    obtain ⟨n0, y0, s0⟩ := arg_slice Tryd.underlying43 tl_struct tl_one tl_cells (by rw [tl_size]; decide) (hok 0 43 v0 rfl rfl) h0
    rw [tl_size] at s0
    have z0 : n0 * 32 ≤ 140737488351232 := by
      rcases y0 with ⟨_, rfl⟩ | ⟨es, sp, rfl, rfl⟩
      · omega
      · have := sized_slice hsz (j := 0) (t := 43) rfl rfl Tryd.underlying43
        rw [tl_bytes] at this
        simp only [reachBytes] at this; omega
    obtain ⟨l0, rfl, e0, x0⟩ := s0.tls
    exact (RecordBack_ps glF glF_0 l0 (by omega) e0).law hgl ⟨x0, trivial⟩

theorem RecordBack_over : Rows.recordBackRow.holds Tryd.pinned (OpenSpec.ofChange Rows.recordBackSpec) :=
  OpenClaim.holds_of_wide 7 Tryd.f7 rfl rfl rfl rfl rfl rfl rfl ⟨rfl, rfl, rfl, rfl, rfl⟩ rfl rfl rfl rfl rfl (by kernel_rfl) Tryd.func7 (by kernel_rfl)
    (of_decide_eq_true (by kernel_rfl)) (by unfold Func.isWrapper; first | (rw [if_pos (by decide +kernel)]; kernel_rfl) | (rw [if_neg (by decide +kernel)]; exact ⟨rfl, rfl⟩))
    (fun os started H enc _ => RecordBack_lifted os started H enc)

/-- The statement. -/
theorem RecordBack_holds : Rows.RecordBackCardSaid :=
  Claim7.holds_tied_plain_at .later [] [.data] true _ false
    RecordBack_over (fun _ h => by cases h) (by kernel_rfl) (fun _ h => by cases h) recordBack_row_tie rfl ⟨rfl, rfl⟩ (by kernel_rfl) rfl
    (fun f fn hf hfn => by
      obtain rfl : f = 7 := Option.some.inj ((show Tryd.prog.funcNamed "rentroll/rentrollkeep.RecordBack" = some 7 by kernel_rfl).symm.trans hf) |>.symm
      obtain rfl : fn = Tryd.f7 := (Option.some.inj (Tryd.func7.symm.trans hfn)).symm
      exact ⟨by kernel_rfl, fun j t ht => by
        rw [Tryd.params7] at ht
        have hm : t ∈ [43] := by simpa using Array.mem_of_getElem? ht
        have hall : ([43].all fun u => !Tryd.prog.wantsStandIn u) = true := by kernel_rfl
        exact (show Tryd.prog.wantsStandIn t = false by simpa using List.all_eq_true.1 hall t hm)⟩)
    (by kernel_rfl)
end Go.Proofs.YtglkiaiipkdkbaaDoor
