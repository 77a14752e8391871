/- The statement BindOpens is proved: for every table, Open answers exactly what P5.4 says, errors too. No conditions. -/
import Derived.Test.YtphaicaobepimaaR0
import Derived.Test.YtphaicaobepimaaTa
import Derived.Test.YtphaicaobepimaaGg
namespace Go.Proofs.Ytphaicaobepimaa
set_option linter.all false
open Go.ChangeShapes Go.WideShapes Go.ChangeAt Go.RowKit

set_option maxRecDepth 100000 in
theorem BindOpens_lifted (os : Os) (started : os.Started) (H : Type) (enc : TypeId × Value → H) :
    ReturnsInHanded {} Try.checked os 4 .any (Rows.bindOpensSpec.pre6 enc Try.prog Try.f4 Rows.bindOpensRow.domain false) (Rows.bindOpensSpec.post enc Try.prog Try.f4 false true false false) := by
  refine law_lifted (by kernel_rfl) Try.func4 ?_ (by kernel_rfl) _ rfl ?_ os started H enc
    (ChangeSpec.witness6 (enc := enc) (C := Try.checked) false ⟨#[], #[.agg #[.int .i64 0, .int .i64 0, .int .i64 0, .int .i64 0, .int .i64 0, .int .i64 0, .int .i64 0, .int .i64 0, .int .i64 0, .int .i64 0, .int .i64 0, .int .i64 0, .int .i64 0, .int .i64 0, .int .i64 0, .int .i64 0, .int .i64 0, .int .i64 0, .bool false, .bool false, .bool false, .int .i64 0, .int .i64 0, .int .i64 0, .int .i64 0, .int .i64 0, .int .i64 0, .int .i64 0, .int .i64 0, .slice none 0 0], .int .i64 0, .int .i64 0, .int .i64 0, .int .i64 0], []⟩ 8 (by kernel_rfl) (by kernel_rfl) (by kernel_rfl) (by kernel_rfl)) ?_
  · rw [Try.params4]
    intro t ht
    simp at ht
    repeat' (rcases ht with rfl | ht)
    all_goals (try subst ht)
    all_goals exact ⟨by kernel_rfl, of_decide_eq_true (by kernel_rfl)⟩
  · intro H ds hl
    rw [Try.params4] at hl
    match ds, hl with
    | [d0, d1, d2, d3, d4], _ => rfl
  · intro W base args ds hin
    obtain ⟨hok, ⟨p, hA⟩, hsz⟩ := hin
    rw [Try.params4] at hA hok hsz
    obtain ⟨v0, vs0, d0, ds0, p0, q0, hargs, rfl, rfl, h0, r0⟩ := trodAll_cons hA
    obtain ⟨v1, vs1, d1, ds1, p1, q1, rfl, rfl, rfl, h1, r1⟩ := trodAll_cons r0
    obtain ⟨v2, vs2, d2, ds2, p2, q2, rfl, rfl, rfl, h2, r2⟩ := trodAll_cons r1
    obtain ⟨v3, vs3, d3, ds3, p3, q3, rfl, rfl, rfl, h3, r3⟩ := trodAll_cons r2
    obtain ⟨v4, vs4, d4, ds4, p4, q4, rfl, rfl, rfl, h4, r4⟩ := trodAll_cons r3
    obtain ⟨rfl, rfl, rfl⟩ := trodAll_nil r4
    obtain rfl : args = #[v0, v1, v2, v3, v4] := by cases args; simp_all
    obtain ⟨t0, w0, m0, hb0, ⟨a0, b0, c0, rfl, y0⟩, x0⟩ := arg_table2 (hok 0 30 v0 rfl rfl) h0
    have z0 : t0.maps.length * 40 ≤ 140737488351232 := by
      rcases y0 with ⟨_, h0⟩ | ⟨es, sp, rfl, hl⟩
      · omega
      · have := sized_field hsz (j := 0) (k := 2) (t := 30) (t2 := 28) rfl rfl tb_struct (by rw [tb_types]; rfl) rfl Try.underlying28
        rw [mp_bytes] at this; simp only [reachBytes] at this; omega
    have ok0 : t0.ok := ⟨w0, m0, by omega⟩
    obtain ⟨n1, rfl, lo1, hi1⟩ := arg_int Try.underlying3 (hok 1 3 v1 rfl rfl) h1
    obtain ⟨n2, rfl, lo2, hi2⟩ := arg_int Try.underlying3 (hok 2 3 v2 rfl rfl) h2
    obtain ⟨n3, rfl, lo3, hi3⟩ := arg_int Try.underlying3 (hok 3 3 v3 rfl rfl) h3
    obtain ⟨n4, rfl, lo4, hi4⟩ := arg_int Try.underlying3 (hok 4 3 v4 rfl rfl) h4
    exact (BindOpens_ps (fun _ => .any) t0 ok0 (by omega) (Lib.hid hb0) n1 n2 n3 n4).lawN ⟨x0, .int _ _, .int _ _, .int _ _, .int _ _, trivial⟩

theorem BindOpens_over : Rows.bindOpensRow.holds Try.pinned (OpenSpec.ofChange Rows.bindOpensSpec) :=
  OpenClaim.holds_of_wide 4 Try.f4 rfl rfl rfl rfl rfl rfl rfl ⟨rfl, rfl, rfl, rfl, rfl⟩ rfl rfl rfl rfl rfl (by kernel_rfl) Try.func4 (by kernel_rfl)
    (of_decide_eq_true (by kernel_rfl)) (by unfold Func.isWrapper; first | (rw [if_pos (by decide +kernel)]; kernel_rfl) | (rw [if_neg (by decide +kernel)]; exact ⟨rfl, rfl⟩))
    (fun os started H enc _ => BindOpens_lifted os started H enc)

/-- The statement. -/
theorem BindOpens_holds : Rows.BindOpensSaid := BindOpens_over
end Go.Proofs.Ytphaicaobepimaa
