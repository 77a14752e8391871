/- The statement WheelPlays is proved: for every play upon a wheel, each answer is exactly the one of the document. No conditions. -/
import Derived.Test.YtphaicaobepimaaR0
import Derived.Test.YtphaicaobepimaaUa
import Derived.Test.YtphaicaobepimaaAk2
import Derived.Test.YtphaicaobepimaaLn
namespace Go.Proofs.Ytphaicaobepimaa
set_option linter.all false
open Go.ChangeShapes Go.WideShapes Go.ChangeAt Go.RowKit

set_option maxRecDepth 100000 in
theorem WheelPlays_lifted (os : Os) (started : os.Started) (H : Type) (enc : TypeId × Value → H) :
    ReturnsInHanded {} Try.checked os 12 .any (Rows.wheelPlaysSpec.pre6 enc Try.prog Try.f12 Rows.wheelPlaysRow.domain false) (Rows.wheelPlaysSpec.post enc Try.prog Try.f12 false true false false) := by
  refine law_lifted (by kernel_rfl) Try.func12 ?_ (by kernel_rfl) _ rfl ?_ os started H enc
    (ChangeSpec.witness6 (enc := enc) (C := Try.checked) false ⟨#[], #[.int .i64 0, .slice none 0 0], []⟩ 8 (by kernel_rfl) (by kernel_rfl) (by kernel_rfl) (by kernel_rfl)) ?_
  · rw [Try.params12]
    intro t ht
    simp at ht
    repeat' (rcases ht with rfl | ht)
    all_goals (try subst ht)
    all_goals exact ⟨by kernel_rfl, of_decide_eq_true (by kernel_rfl)⟩
  · intro H ds hl
    rw [Try.params12] at hl
    match ds, hl with
    | [d0, d1], _ => rfl
  · intro W base args ds hin
    obtain ⟨hok, ⟨p, hA⟩, hsz⟩ := hin
    rw [Try.params12] at hA hok hsz
    obtain ⟨v0, vs0, d0, ds0, p0, q0, hargs, rfl, rfl, h0, r0⟩ := trodAll_cons hA
    obtain ⟨v1, vs1, d1, ds1, p1, q1, rfl, rfl, rfl, h1, r1⟩ := trodAll_cons r0
    obtain ⟨rfl, rfl, rfl⟩ := trodAll_nil r1
    obtain rfl : args = #[v0, v1] := by cases args; simp_all
    obtain ⟨n0, rfl, lo0, hi0⟩ := arg_int Try.underlying3 (hok 0 3 v0 rfl rfl) h0
    obtain ⟨n1, y1, s1⟩ := arg_slice Try.underlying72 ti_struct ti_one ti_cells (by rw [ti_size]; decide) (hok 1 72 v1 rfl rfl) h1
    rw [ti_size] at s1
    have z1 : n1 * 24 ≤ 140737488351232 := by
      rcases y1 with ⟨_, rfl⟩ | ⟨es, sp, rfl, rfl⟩
      · omega
      · have := sized_slice hsz (j := 1) (t := 72) rfl rfl Try.underlying72
        rw [ti_bytes] at this
        simp only [reachBytes] at this; omega
    obtain ⟨l1, el1, e1, x1⟩ := s1.tis
    exact (WheelPlays_ps (fun _ => .any) n0 _ l1 ⟨lo0, hi0⟩ e1 el1 (by omega)).lawN ⟨.int _ _, x1, trivial⟩

theorem WheelPlays_over : Rows.wheelPlaysRow.holds Try.pinned (OpenSpec.ofChange Rows.wheelPlaysSpec) :=
  OpenClaim.holds_of_wide 12 Try.f12 rfl rfl rfl rfl rfl rfl rfl ⟨rfl, rfl, rfl, rfl, rfl⟩ rfl rfl rfl rfl rfl (by kernel_rfl) Try.func12 (by kernel_rfl)
    (of_decide_eq_true (by kernel_rfl)) (by unfold Func.isWrapper; first | (rw [if_pos (by decide +kernel)]; kernel_rfl) | (rw [if_neg (by decide +kernel)]; exact ⟨rfl, rfl⟩))
    (fun os started H enc _ => WheelPlays_lifted os started H enc)

/-- The statement. -/
theorem WheelPlays_holds : Rows.WheelPlaysSaid := WheelPlays_over
end Go.Proofs.Ytphaicaobepimaa
