/- The statement NatNil is proved: for every act, a road that is nil answers as P8.1 says. No conditions. -/
import Derived.Test.YtogckmommodmhaaGreatDoorFrameL
import Derived.Test.YtogckmommodmhaaGreatDoorMb
import Derived.Test.YtogckmommodmhaaGreatDoorMc
import Derived.Test.YtogckmommodmhaaGreatDoorLm
import Derived.Test.YtogckmommodmhaaGreatDoorCards
import Derived.Test.YtogckmommodmhaaGreatDoorTie
import Derived.SevenTiedAt
namespace Go.Proofs.YtogckmommodmhaaGreatDoor
set_option linter.all false
open Go.ChangeShapes Go.WideShapes Go.ChangeAt Go.RowKit

set_option maxRecDepth 100000 in
theorem NatNil_lifted (os : Os) (started : os.Started) (H : Type) (enc : TypeId × Value → H) :
    ReturnsInHanded {} Tryz.checked os 3 .any (fun w args => (Rows.natNilSpec.pre enc Tryz.prog Tryz.f3 [] false w args ∧ laidMetH Tryz.prog laidL w) ∧ sizedMet enc Tryz.prog Tryz.f3 (OpenSpec.ofChange Rows.natNilSpec) false w args) (Rows.natNilSpec.post enc Tryz.prog Tryz.f3 false true false false) := by
  refine law_liftedL (by kernel_rfl) Tryz.func3 ?_ (by kernel_rfl) _ rfl ?_ os started H enc
    (ChangeSpec.witness_shaped (enc := enc) (C := Tryz.checked) (os := os) (X := fun w _ => laidMetH Tryz.prog laidL w) false (World.doorLaid Tryz.prog 400 os) #[.agg #[.int .i64 0, .int .i64 0, .int .i64 0, .string ⟨#[]⟩]] 8 rfl (World.shaped_of_RefB (by kernel_rfl) (by kernel_rfl)) (by kernel_rfl) (by kernel_rfl) (by kernel_rfl) (door_met os _)) ?_
  · rw [Tryz.params3]
    intro t ht
    simp at ht
    repeat' (rcases ht with rfl | ht)
    all_goals (try subst ht)
    all_goals exact ⟨by kernel_rfl, of_decide_eq_true (by kernel_rfl)⟩
  · intro H ds hl
    rw [Tryz.params3] at hl
    match ds, hl with
    | [d0], _ => rfl
  · intro W base args ds hin hgl
    obtain ⟨hok, ⟨p, hA⟩, hsz⟩ := hin
    rw [Tryz.params3] at hA hok hsz
    obtain ⟨v0, vs0, d0, ds0, p0, q0, hargs, rfl, rfl, h0, r0⟩ := trodAll_cons hA
    obtain ⟨rfl, rfl, rfl⟩ := trodAll_nil r0
    obtain rfl : args = #[v0] := by cases args; simp_all
    obtain ⟨k0, n0, d0, f0, x0⟩ := arg_act (hok 0 23 v0 rfl rfl)
    exact (NatNil_ps glF k0 n0 d0 f0).law hgl ⟨x0, trivial⟩

theorem NatNil_over : Rows.natNilRow.holds Tryz.pinned (OpenSpec.ofChange Rows.natNilSpec) :=
  OpenClaim.holds_of_wide 3 Tryz.f3 rfl rfl rfl rfl rfl rfl rfl ⟨rfl, rfl, rfl, rfl, rfl⟩ rfl rfl rfl rfl rfl (by kernel_rfl) Tryz.func3 (by kernel_rfl)
    (of_decide_eq_true (by kernel_rfl)) (by unfold Func.isWrapper; first | (rw [if_pos (by decide +kernel)]; kernel_rfl) | (rw [if_neg (by decide +kernel)]; exact ⟨rfl, rfl⟩))
    (fun os started H enc _ => NatNil_lifted os started H enc)

/-- The statement. -/
theorem NatNil_holds : Rows.NatNilCardSaid :=
  Claim7.holds_tied_plain_at .later [] [.data] true _ false
    NatNil_over (fun _ h => by cases h) (by kernel_rfl) (fun _ h => by cases h) natNil_row_tie rfl ⟨rfl, rfl⟩ (by kernel_rfl) rfl
    (fun f fn hf hfn => by
      obtain rfl : f = 3 := Option.some.inj ((show Tryz.prog.funcNamed "rentroll/rentrolllaw.NatNil" = some 3 by kernel_rfl).symm.trans hf) |>.symm
      obtain rfl : fn = Tryz.f3 := (Option.some.inj (Tryz.func3.symm.trans hfn)).symm
      exact ⟨by kernel_rfl, fun j t ht => by
        rw [Tryz.params3] at ht
        have hm : t ∈ [23] := by simpa using Array.mem_of_getElem? ht
        have hall : ([23].all fun u => !Tryz.prog.wantsStandIn u) = true := by kernel_rfl
        exact (show Tryz.prog.wantsStandIn t = false by simpa using List.all_eq_true.1 hall t hm)⟩)
    (by kernel_rfl)
end Go.Proofs.YtogckmommodmhaaGreatDoor
