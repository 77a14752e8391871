/- The statement BindPlays is proved: for every row of wishes, a table stays good: no port stands for two, each port lies in a block of its subscriber on its one address; what is opened is found from both sides and is the same when it is asked for again. No conditions. -/
import Derived.Test.YtphaicaobepimaaR0
import Derived.Test.YtphaicaobepimaaTa
import Derived.Test.YtphaicaobepimaaTb
import Derived.Test.YtphaicaobepimaaDv
namespace Go.Proofs.Ytphaicaobepimaa
set_option linter.all false
open Go.ChangeShapes Go.WideShapes Go.ChangeAt Go.RowKit

set_option maxRecDepth 100000 in
theorem BindPlays_lifted (os : Os) (started : os.Started) (H : Type) (enc : TypeId × Value → H) :
    ReturnsInHanded {} Try.checked os 8 .any (Rows.bindPlaysSpec.pre6 enc Try.prog Try.f8 Rows.bindPlaysRow.domain false) (Rows.bindPlaysSpec.post enc Try.prog Try.f8 false true false false) := by
  refine law_lifted (by kernel_rfl) Try.func8 ?_ (by kernel_rfl) _ rfl ?_ os started H enc
    (ChangeSpec.witness6 (enc := enc) (C := Try.checked) false ⟨#[], #[.slice none 0 0], []⟩ 8 (by kernel_rfl) (by kernel_rfl) (by kernel_rfl) (by kernel_rfl)) ?_
  · rw [Try.params8]
    intro t ht
    simp at ht
    repeat' (rcases ht with rfl | ht)
    all_goals (try subst ht)
    all_goals exact ⟨by kernel_rfl, of_decide_eq_true (by kernel_rfl)⟩
  · intro H ds hl
    rw [Try.params8] at hl
    match ds, hl with
    | [d0], _ => rfl
  · intro W base args ds hin
    obtain ⟨hok, ⟨p, hA⟩, hsz⟩ := hin
    rw [Try.params8] at hA hok hsz
    obtain ⟨v0, vs0, d0, ds0, p0, q0, hargs, rfl, rfl, h0, r0⟩ := trodAll_cons hA
    obtain ⟨rfl, rfl, rfl⟩ := trodAll_nil r0
    obtain rfl : args = #[v0] := by cases args; simp_all
    obtain ⟨n0, y0, s0⟩ := arg_slice Try.underlying49 ws_struct ws_one ws_cells (by rw [ws_size]; decide) (hok 0 49 v0 rfl rfl) h0
    rw [ws_size] at s0
    have z0 : n0 * 40 ≤ 140737488351232 := by
      rcases y0 with ⟨_, rfl⟩ | ⟨es, sp, rfl, rfl⟩
      · omega
      · have := sized_slice hsz (j := 0) (t := 49) rfl rfl Try.underlying49
        rw [ws_bytes] at this
        simp only [reachBytes] at this; omega
    obtain ⟨l0, rfl, e0, x0⟩ := s0.wss
    exact (BindPlays_ps (fun _ => .any) l0 (by omega) e0).lawN ⟨x0, trivial⟩

theorem BindPlays_over : Rows.bindPlaysRow.holds Try.pinned (OpenSpec.ofChange Rows.bindPlaysSpec) :=
  OpenClaim.holds_of_wide 8 Try.f8 rfl rfl rfl rfl rfl rfl rfl ⟨rfl, rfl, rfl, rfl, rfl⟩ rfl rfl rfl rfl rfl (by kernel_rfl) Try.func8 (by kernel_rfl)
    (of_decide_eq_true (by kernel_rfl)) (by unfold Func.isWrapper; first | (rw [if_pos (by decide +kernel)]; kernel_rfl) | (rw [if_neg (by decide +kernel)]; exact ⟨rfl, rfl⟩))
    (fun os started H enc _ => BindPlays_lifted os started H enc)

/-- The statement. -/
theorem BindPlays_holds : Rows.BindPlaysSaid := BindPlays_over
end Go.Proofs.Ytphaicaobepimaa
