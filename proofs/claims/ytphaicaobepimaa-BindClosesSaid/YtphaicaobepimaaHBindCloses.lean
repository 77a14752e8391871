/- The statement BindCloses is proved: for every table and map, Close answers exactly what P5.5 says, errors too. No conditions. -/
import Derived.Test.YtphaicaobepimaaR0
import Derived.Test.YtphaicaobepimaaTa
import Derived.Test.YtphaicaobepimaaGi
namespace Go.Proofs.Ytphaicaobepimaa
set_option linter.all false
open Go.ChangeShapes Go.WideShapes Go.ChangeAt Go.RowKit

set_option maxRecDepth 100000 in
theorem BindCloses_lifted (os : Os) (started : os.Started) (H : Type) (enc : TypeId × Value → H) :
    ReturnsInHanded {} Try.checked os 6 .any (Rows.bindClosesSpec.pre6 enc Try.prog Try.f6 Rows.bindClosesRow.domain false) (Rows.bindClosesSpec.post enc Try.prog Try.f6 false true false false) := by
  refine law_lifted (by kernel_rfl) Try.func6 ?_ (by kernel_rfl) _ rfl ?_ os started H enc
    (ChangeSpec.witness6 (enc := enc) (C := Try.checked) false ⟨#[], #[.agg #[.int .i64 0, .int .i64 0, .int .i64 0, .int .i64 0, .int .i64 0, .int .i64 0, .int .i64 0, .int .i64 0, .int .i64 0, .int .i64 0, .int .i64 0, .int .i64 0, .int .i64 0, .int .i64 0, .int .i64 0, .int .i64 0, .int .i64 0, .int .i64 0, .bool false, .bool false, .bool false, .int .i64 0, .int .i64 0, .int .i64 0, .int .i64 0, .int .i64 0, .int .i64 0, .int .i64 0, .int .i64 0, .slice none 0 0], .agg #[.int .i64 0, .int .i64 0, .int .i64 0, .int .i64 0, .int .i64 0]], []⟩ 8 (by kernel_rfl) (by kernel_rfl) (by kernel_rfl) (by kernel_rfl)) ?_
  · rw [Try.params6]
    intro t ht
    simp at ht
    repeat' (rcases ht with rfl | ht)
    all_goals (try subst ht)
    all_goals exact ⟨by kernel_rfl, of_decide_eq_true (by kernel_rfl)⟩
  · intro H ds hl
    rw [Try.params6] at hl
    match ds, hl with
    | [d0, d1], _ => rfl
  · intro W base args ds hin
    obtain ⟨hok, ⟨p, hA⟩, hsz⟩ := hin
    rw [Try.params6] at hA hok hsz
    obtain ⟨v0, vs0, d0, ds0, p0, q0, hargs, rfl, rfl, h0, r0⟩ := trodAll_cons hA
    obtain ⟨v1, vs1, d1, ds1, p1, q1, rfl, rfl, rfl, h1, r1⟩ := trodAll_cons r0
    obtain ⟨rfl, rfl, rfl⟩ := trodAll_nil r1
    obtain rfl : args = #[v0, v1] := by cases args; simp_all
    obtain ⟨t0, w0, m0, hb0, ⟨a0, b0, c0, rfl, y0⟩, x0⟩ := arg_table2 (hok 0 30 v0 rfl rfl) h0
    have z0 : t0.maps.length * 40 ≤ 140737488351232 := by
      rcases y0 with ⟨_, h0⟩ | ⟨es, sp, rfl, hl⟩
      · omega
      · have := sized_field hsz (j := 0) (k := 2) (t := 30) (t2 := 28) rfl rfl tb_struct (by rw [tb_types]; rfl) rfl Try.underlying28
        rw [mp_bytes] at this; simp only [reachBytes] at this; omega
    have ok0 : t0.ok := ⟨w0, m0, by omega⟩
    obtain ⟨p1, b1, w1⟩ := arg_map (hok 1 32 v1 rfl rfl)
    exact (BindCloses_ps (fun _ => .any) t0 ok0 (by omega) (Lib.hid hb0) p1 b1).lawN ⟨x0, w1, trivial⟩

theorem BindCloses_over : Rows.bindClosesRow.holds Try.pinned (OpenSpec.ofChange Rows.bindClosesSpec) :=
  OpenClaim.holds_of_wide 6 Try.f6 rfl rfl rfl rfl rfl rfl rfl ⟨rfl, rfl, rfl, rfl, rfl⟩ rfl rfl rfl rfl rfl (by kernel_rfl) Try.func6 (by kernel_rfl)
    (of_decide_eq_true (by kernel_rfl)) (by unfold Func.isWrapper; first | (rw [if_pos (by decide +kernel)]; kernel_rfl) | (rw [if_neg (by decide +kernel)]; exact ⟨rfl, rfl⟩))
    (fun os started H enc _ => BindCloses_lifted os started H enc)

/-- The statement. -/
theorem BindCloses_holds : Rows.BindClosesSaid := BindCloses_over
end Go.Proofs.Ytphaicaobepimaa
