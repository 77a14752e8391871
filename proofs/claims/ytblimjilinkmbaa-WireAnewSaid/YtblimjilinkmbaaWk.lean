/- What wire.Parse reads. No conditions but the ones that stand in each. -/
import Derived.Test.YtblimjilinkmbaaWj
namespace Go.Proofs.Ytblimjilinkmbaa
set_option linter.all false
set_option linter.unusedSimpArgs false
open Go.RowKit

theorem parse_bad {l : List UInt8} {e : Int} (h : rdE l = e) (he : e ≠ 0) : parseT l = .tup [.agg pk0.enc, .int .i64 e] := by
  unfold parseT; rw [if_neg (by omega), h]
theorem parse_good {l : List UInt8} (h : rdE l = 0) : parseT l = .tup [.agg (rdK l).enc, .int .i64 0] := by
  unfold parseT; rw [if_pos h]
theorem parse_nm (l : List UInt8) : nmOk 0 (parseT l) := by
  unfold parseT; split <;> simp [nmOk, nmAll, Pk.enc]
theorem parse_any {l : List UInt8} {e : Int} (p : Pk) (h : rdE l = e) (hp : rdK l = p) : parseT l = if e = 0 then .tup [.agg p.enc, .int .i64 0] else .tup [.agg pk0.enc, .int .i64 e] := by
  unfold parseT; rw [h, hp]
set_option maxHeartbeats 16000000 in
set_option maxRecDepth 20000 in
theorem Parse_ps (gl : Nat → AV) (l : List UInt8) (hl : l.length ≤ 140737488351232) : PS Try.prog gl 16 [.str l] (parseT l) := by
  refine ft_wParse.ps (of_decide_eq_true rfl) (parse_nm l) fun c hN hg => ?_
  unfold T_wParse
  have c0 := b1_bd l 0
  have c1 := b1_bd l 1
  have c8 := b1_bd l 8
  have c9 := b1_bd l 9
  by_cases h1 : l.length < 20
  · have d1 : decide ((l.length : Int) < 20) = true := by simp; omega
    (have zf1 := @d1; refine XG ?_; clear zf1; ((try (repeat' with_reducible refine And.intro ?_ ?_)); (try any_goals (first | refine zm ?_ | exact CL | fail))))
    ((first | apply pr_skip | apply prD_skip) <;> (have zf1 := @d1; refine XG ?_; clear zf1; first | exact rfl | exact True.intro | ((try (repeat' with_reducible refine And.intro ?_ ?_)); (try any_goals (first | refine zm ?_ | exact CL | fail)))))
    (refine xw_ifp (fun g1 => ?_) (fun g1 => ?_) <;> try exact g1.elim)
    rw [parse_bad (rd1 (.inl h1)) (by decide)]
    (have zf1 := @b1_fold; refine XG ?_; clear zf1; ((try (repeat' with_reducible refine And.intro ?_ ?_)); (try any_goals (first | refine zm ?_ | exact CL | fail))))
    ((first | refine pr_gs (ins := []) (no_gs _ 1) ?_ ?_ | refine prD_gs (ins := []) (no_gs _ 1) ?_ ?_ | refine pr_gsv (ins := []) (no_gs _ 1) ?_ ?_ | refine prD_gsv (ins := []) (no_gs _ 1) ?_ ?_) <;> (have zf1 := @noT.eq_1; have zf2 := @pk0.eq_1; have zf3 := @Pk.enc.eq_1; have zf4 := @b1_fold; refine XG ?_; clear zf1 zf2 zf3 zf4; (try first | exact rfl | exact True.intro); ((try (repeat' with_reducible refine And.intro ?_ ?_)); (try any_goals (first | refine zm ?_ | exact CL | fail)))))
  have d1 : decide ((l.length : Int) < 20) = false := by simp; omega
  by_cases h2 : b1 l 0 = 69
  rotate_left
  · have h2b : (b1 l 0 != 69) = true := by simp [h2]
    (have zf1 := @b1_fold; have zf2 := @h2b; have zf3 := @d1; refine XG ?_; clear zf1 zf2 zf3; ((try (repeat' with_reducible refine And.intro ?_ ?_)); (try any_goals (first | refine zm ?_ | exact CL | fail))))
    ((first | apply pr_skip | apply prD_skip) <;> (have zf1 := @d1; refine XG ?_; clear zf1; first | exact rfl | exact True.intro | ((try (repeat' with_reducible refine And.intro ?_ ?_)); (try any_goals (first | refine zm ?_ | exact CL | fail)))))
    (refine xw_ifp (fun g1 => ?_) (fun g1 => ?_) <;> try exact g1.elim)
    rw [parse_bad (rd1 (.inr (.inl h2))) (by decide)]
    (have zf1 := @b1_fold; refine XG ?_; clear zf1; ((try (repeat' with_reducible refine And.intro ?_ ?_)); (try any_goals (first | refine zm ?_ | exact CL | fail))))
    ((first | refine pr_gs (ins := []) (no_gs _ 1) ?_ ?_ | refine prD_gs (ins := []) (no_gs _ 1) ?_ ?_ | refine pr_gsv (ins := []) (no_gs _ 1) ?_ ?_ | refine prD_gsv (ins := []) (no_gs _ 1) ?_ ?_) <;> (have zf1 := @noT.eq_1; have zf2 := @pk0.eq_1; have zf3 := @Pk.enc.eq_1; have zf4 := @b1_fold; refine XG ?_; clear zf1 zf2 zf3 zf4; (try first | exact rfl | exact True.intro); ((try (repeat' with_reducible refine And.intro ?_ ?_)); (try any_goals (first | refine zm ?_ | exact CL | fail)))))
  (have zf1 := @b1_fold; have zf2 := @h2; have zf3 := @d1; refine XG ?_; clear zf1 zf2 zf3; ((try (repeat' with_reducible refine And.intro ?_ ?_)); (try any_goals (first | refine zm ?_ | exact CL | fail))))
  ((first | apply pr_psv | apply prD_psv | apply pr_qrunv | apply prD_qrunv) <;> (first | exact (nw2 _ l 2) | (have zf1 := @b1_fold; have zf2 := @h2; refine XG ?_; clear zf1 zf2; first | exact rfl | exact True.intro | ((try (repeat' with_reducible refine And.intro ?_ ?_)); (try any_goals (first | refine zm ?_ | exact CL | fail))))))
  (refine xw_ifp (fun h3 => ?_) (fun h3 => ?_) <;> try exact h3.elim)
  · rw [parse_bad (rd1 (.inr (.inr h3))) (by decide)]
    (have zf1 := @b1_fold; refine XG ?_; clear zf1; ((try (repeat' with_reducible refine And.intro ?_ ?_)); (try any_goals (first | refine zm ?_ | exact CL | fail))))
    ((first | refine pr_gs (ins := []) (no_gs _ 1) ?_ ?_ | refine prD_gs (ins := []) (no_gs _ 1) ?_ ?_ | refine pr_gsv (ins := []) (no_gs _ 1) ?_ ?_ | refine prD_gsv (ins := []) (no_gs _ 1) ?_ ?_) <;> (have zf1 := @noT.eq_1; have zf2 := @pk0.eq_1; have zf3 := @Pk.enc.eq_1; have zf4 := @b1_fold; refine XG ?_; clear zf1 zf2 zf3 zf4; (try first | exact rfl | exact True.intro); ((try (repeat' with_reducible refine And.intro ?_ ?_)); (try any_goals (first | refine zm ?_ | exact CL | fail)))))
  have k1 : ¬ G1 l := by unfold G1; omega
  (refine XG ?_; ((try (repeat' with_reducible refine And.intro ?_ ?_)); (try any_goals (first | refine zm ?_ | exact CL | fail))))
  ((first | apply pr_psv | apply prD_psv | apply pr_qrunv | apply prD_qrunv) <;> (first | exact (Of_ps _ (l.take 20) (by rw [List.length_take]; omega)) | (refine XG ?_; first | exact rfl | exact True.intro | ((try (repeat' with_reducible refine And.intro ?_ ?_)); (try any_goals (first | refine zm ?_ | exact CL | fail))))))
  (refine xw_ifp (fun h4 => ?_) (fun h4 => ?_) <;> try exact h4.elim)
  · rw [parse_bad (rd2 k1 (by unfold G2; omega)) (by decide)]
    (have zf1 := @b1_fold; refine XG ?_; clear zf1; ((try (repeat' with_reducible refine And.intro ?_ ?_)); (try any_goals (first | refine zm ?_ | exact CL | fail))))
    ((first | refine pr_gs (ins := []) (no_gs _ 3) ?_ ?_ | refine prD_gs (ins := []) (no_gs _ 3) ?_ ?_ | refine pr_gsv (ins := []) (no_gs _ 3) ?_ ?_ | refine prD_gsv (ins := []) (no_gs _ 3) ?_ ?_) <;> (have zf1 := @noT.eq_1; have zf2 := @pk0.eq_1; have zf3 := @Pk.enc.eq_1; have zf4 := @b1_fold; refine XG ?_; clear zf1 zf2 zf3 zf4; (try first | exact rfl | exact True.intro); ((try (repeat' with_reducible refine And.intro ?_ ?_)); (try any_goals (first | refine zm ?_ | exact CL | fail)))))
  have k2 : ¬ G2 l := by unfold G2; omega
  by_cases h5 : b1 l 1 = 0
  rotate_left
  · have h5b : (b1 l 1 != 0) = true := by simp [h5]
    (have zf1 := @b1_fold; have zf2 := @h5b; refine XG ?_; clear zf1 zf2; ((try (repeat' with_reducible refine And.intro ?_ ?_)); (try any_goals (first | refine zm ?_ | exact CL | fail))))
    ((first | apply pr_skip | apply prD_skip) <;> (refine XG ?_; first | exact rfl | exact True.intro | ((try (repeat' with_reducible refine And.intro ?_ ?_)); (try any_goals (first | refine zm ?_ | exact CL | fail)))))
    (refine xw_ifp (fun g1 => ?_) (fun g1 => ?_) <;> try exact g1.elim)
    rw [parse_bad (rd3 k1 k2 (.inl h5)) (by decide)]
    (have zf1 := @b1_fold; refine XG ?_; clear zf1; ((try (repeat' with_reducible refine And.intro ?_ ?_)); (try any_goals (first | refine zm ?_ | exact CL | fail))))
    ((first | refine pr_gs (ins := []) (no_gs _ 4) ?_ ?_ | refine prD_gs (ins := []) (no_gs _ 4) ?_ ?_ | refine pr_gsv (ins := []) (no_gs _ 4) ?_ ?_ | refine prD_gsv (ins := []) (no_gs _ 4) ?_ ?_) <;> (have zf1 := @noT.eq_1; have zf2 := @pk0.eq_1; have zf3 := @Pk.enc.eq_1; have zf4 := @b1_fold; refine XG ?_; clear zf1 zf2 zf3 zf4; (try first | exact rfl | exact True.intro); ((try (repeat' with_reducible refine And.intro ?_ ?_)); (try any_goals (first | refine zm ?_ | exact CL | fail)))))
  (have zf1 := @b1_fold; have zf2 := @h5; refine XG ?_; clear zf1 zf2; ((try (repeat' with_reducible refine And.intro ?_ ?_)); (try any_goals (first | refine zm ?_ | exact CL | fail))))
  ((first | apply pr_psv | apply prD_psv | apply pr_qrunv | apply prD_qrunv) <;> (first | exact (nw2 _ l 6) | (have zf1 := @b1_fold; have zf2 := @h5; refine XG ?_; clear zf1 zf2; first | exact rfl | exact True.intro | ((try (repeat' with_reducible refine And.intro ?_ ?_)); (try any_goals (first | refine zm ?_ | exact CL | fail))))))
  (refine xw_ifp (fun h6 => ?_) (fun h6 => ?_) <;> try exact h6.elim)
  · rw [parse_bad (rd3 k1 k2 (.inr h6)) (by decide)]
    (have zf1 := @b1_fold; refine XG ?_; clear zf1; ((try (repeat' with_reducible refine And.intro ?_ ?_)); (try any_goals (first | refine zm ?_ | exact CL | fail))))
    ((first | refine pr_gs (ins := []) (no_gs _ 4) ?_ ?_ | refine prD_gs (ins := []) (no_gs _ 4) ?_ ?_ | refine pr_gsv (ins := []) (no_gs _ 4) ?_ ?_ | refine prD_gsv (ins := []) (no_gs _ 4) ?_ ?_) <;> (have zf1 := @noT.eq_1; have zf2 := @pk0.eq_1; have zf3 := @Pk.enc.eq_1; have zf4 := @b1_fold; refine XG ?_; clear zf1 zf2 zf3 zf4; (try first | exact rfl | exact True.intro); ((try (repeat' with_reducible refine And.intro ?_ ?_)); (try any_goals (first | refine zm ?_ | exact CL | fail)))))
  have k3 : ¬ G3 l := by unfold G3; omega
  (have zf1 := @b1_fold; refine XG ?_; clear zf1; ((try (repeat' with_reducible refine And.intro ?_ ?_)); (try any_goals (first | refine zm ?_ | exact CL | fail))))
  ((first | apply pr_psv | apply prD_psv | apply pr_qrunv | apply prD_qrunv) <;> (first | exact (nw4 _ l 12) | (have zf1 := @b1_fold; refine XG ?_; clear zf1; first | exact rfl | exact True.intro | ((try (repeat' with_reducible refine And.intro ?_ ?_)); (try any_goals (first | refine zm ?_ | exact CL | fail))))))
  ((first | apply pr_psv | apply prD_psv | apply pr_qrunv | apply prD_qrunv) <;> (first | exact (nw4 _ l 16) | (have zf1 := @b1_fold; refine XG ?_; clear zf1; first | exact rfl | exact True.intro | ((try (repeat' with_reducible refine And.intro ?_ ?_)); (try any_goals (first | refine zm ?_ | exact CL | fail))))))
  ((first | apply pr_psv | apply prD_psv | apply pr_qrunv | apply prD_qrunv) <;> (first | exact (nw2 _ l 4) | (have zf1 := @b1_fold; refine XG ?_; clear zf1; first | exact rfl | exact True.intro | ((try (repeat' with_reducible refine And.intro ?_ ?_)); (try any_goals (first | refine zm ?_ | exact CL | fail))))))
  (refine xw_ifp (fun h7 => ?_) (fun h7 => ?_) <;> try exact h7.elim)
  · rw [parse_bad (rd4 k1 k2 k3 h7) (by decide)]
    (have zf1 := @b1_fold; refine XG ?_; clear zf1; ((try (repeat' with_reducible refine And.intro ?_ ?_)); (try any_goals (first | refine zm ?_ | exact CL | fail))))
    ((first | refine pr_gs (ins := []) (no_gs _ 12) ?_ ?_ | refine prD_gs (ins := []) (no_gs _ 12) ?_ ?_ | refine pr_gsv (ins := []) (no_gs _ 12) ?_ ?_ | refine prD_gsv (ins := []) (no_gs _ 12) ?_ ?_) <;> (have zf1 := @noT.eq_1; have zf2 := @pk0.eq_1; have zf3 := @Pk.enc.eq_1; have zf4 := @b1_fold; refine XG ?_; clear zf1 zf2 zf3 zf4; (try first | exact rfl | exact True.intro); ((try (repeat' with_reducible refine And.intro ?_ ?_)); (try any_goals (first | refine zm ?_ | exact CL | fail)))))
  have K : H4 l := ⟨k1, k2, k3, h7⟩
  clear k1 k2 k3
  have e4 : 0 ≤ w4 l 12 ∧ w4 l 12 ≤ 4294967295 := w4_bd _ _ (by omega)
  have e5 : 0 ≤ w4 l 16 ∧ w4 l 16 ≤ 4294967295 := w4_bd _ _ (by omega)
  have hsz := sizes_ps c.gl (b1 l 9)
  by_cases h8 : b1 l 9 = 1 ∨ b1 l 9 = 6 ∨ b1 l 9 = 17
  rotate_left
  · have hz : sizesT (b1 l 9) = .tup [.int .i64 0, .int .i64 0] := by unfold sizesT; rw [if_neg (by omega), if_neg (by omega), if_neg (by omega)]
    rw [hz] at hsz
    (refine XG ?_; ((try (repeat' with_reducible refine And.intro ?_ ?_)); (try any_goals (first | refine zm ?_ | exact CL | fail))))
    ((first | apply pr_psv | apply prD_psv | apply pr_qrunv | apply prD_qrunv) <;> (first | exact hsz | (refine XG ?_; first | exact rfl | exact True.intro | ((try (repeat' with_reducible refine And.intro ?_ ?_)); (try any_goals (first | refine zm ?_ | exact CL | fail))))))
    (refine xw_ifp (fun g1 => ?_) (fun g1 => ?_) <;> try exact g1.elim)
    rw [parse_bad (rd5 K h8) (by decide)]
    (have zf1 := @b1_fold; refine XG ?_; clear zf1; ((try (repeat' with_reducible refine And.intro ?_ ?_)); (try any_goals (first | refine zm ?_ | exact CL | fail))))
    ((first | refine pr_gs (ins := []) (no_gs _ 4) ?_ ?_ | refine prD_gs (ins := []) (no_gs _ 4) ?_ ?_ | refine pr_gsv (ins := []) (no_gs _ 4) ?_ ?_ | refine prD_gsv (ins := []) (no_gs _ 4) ?_ ?_) <;> (have zf1 := @noT.eq_1; have zf2 := @pk0.eq_1; have zf3 := @Pk.enc.eq_1; have zf4 := @b1_fold; refine XG ?_; clear zf1 zf2 zf3 zf4; (try first | exact rfl | exact True.intro); ((try (repeat' with_reducible refine And.intro ?_ ?_)); (try any_goals (first | refine zm ?_ | exact CL | fail)))))
  have k5 : ¬ G5 l := fun h => h h8
  generalize hs : l.drop 20 = s
  have hsl : s.length = l.length - 20 := by rw [← hs, List.length_drop]
  have f0 := b1_bd s 0
  have f1 := b1_bd s 1
  have f12 := b1_bd s 12
  have f13 := b1_bd s 13
  rcases h8 with h9 | h9 | h9
  · have hz : sizesT (b1 l 9) = .tup [.int .i64 8, .int .i64 2] := by rw [h9]; rfl
    rw [hz, h9] at hsz
    rw [h9]
    clear hz
    (have zf1 := @hs; refine XG ?_; clear zf1; ((try (repeat' with_reducible refine And.intro ?_ ?_)); (try any_goals (first | refine zm ?_ | exact CL | fail))))
    ((first | apply pr_psv | apply prD_psv | apply pr_qrunv | apply prD_qrunv) <;> (first | exact hsz | (refine XG ?_; first | exact rfl | exact True.intro | ((try (repeat' with_reducible refine And.intro ?_ ?_)); (try any_goals (first | refine zm ?_ | exact CL | fail))))))
    (refine xw_ifp (fun g1 => ?_) (fun g1 => ?_) <;> try exact g1.elim)
    (refine XG ?_; ((try (repeat' with_reducible refine And.intro ?_ ?_)); (try any_goals (first | refine zm ?_ | exact CL | fail))))
    (refine xw_ifp (fun h10 => ?_) (fun h10 => ?_) <;> try exact h10.elim)
    · rw [parse_bad (rd6 K k5 (by unfold G6; rw [hs, h9]; simp; omega)) (by decide)]
      (have zf1 := @b1_fold; refine XG ?_; clear zf1; ((try (repeat' with_reducible refine And.intro ?_ ?_)); (try any_goals (first | refine zm ?_ | exact CL | fail))))
      ((first | refine pr_gs (ins := []) (no_gs _ 1) ?_ ?_ | refine prD_gs (ins := []) (no_gs _ 1) ?_ ?_ | refine pr_gsv (ins := []) (no_gs _ 1) ?_ ?_ | refine prD_gsv (ins := []) (no_gs _ 1) ?_ ?_) <;> (have zf1 := @noT.eq_1; have zf2 := @pk0.eq_1; have zf3 := @Pk.enc.eq_1; have zf4 := @b1_fold; refine XG ?_; clear zf1 zf2 zf3 zf4; (try first | exact rfl | exact True.intro); ((try (repeat' with_reducible refine And.intro ?_ ?_)); (try any_goals (first | refine zm ?_ | exact CL | fail)))))
    have K6 : H6 l := ⟨K, k5, by unfold G6; rw [hs, h9]; simp; omega⟩
    clear K k5
    have hO := Of_ps c.gl s (by omega)
    have hG7 : G7 l ↔ ofN s ≠ 65535 := by unfold G7; rw [hs, h9]; simp [preB]
    generalize ofN s = O at *
    (refine XG ?_; ((try (repeat' with_reducible refine And.intro ?_ ?_)); (try any_goals (first | refine zm ?_ | exact CL | fail))))
    (refine xw_ifp (fun g2 => ?_) (fun g2 => ?_) <;> try exact g2.elim)
    (refine XG ?_; ((try (repeat' with_reducible refine And.intro ?_ ?_)); (try any_goals (first | refine zm ?_ | exact CL | fail))))
    have k7 : ¬ G7 l ∨ (G7 l ∧ O ≠ 65535) := by by_cases h : O = 65535 <;> simp [hG7, h]
    ((first | apply pr_psv | apply prD_psv | apply pr_qrunv | apply prD_qrunv) <;> (first | exact hO | (refine XG ?_; first | exact rfl | exact True.intro | ((try (repeat' with_reducible refine And.intro ?_ ?_)); (try any_goals (first | refine zm ?_ | exact CL | fail))))))
    by_cases h11 : O = 65535
    rotate_left
    · have d2 : ((O : Int) != 65535) = true := by simp; omega
      (have zf1 := @d2; refine XG ?_; clear zf1; ((try (repeat' with_reducible refine And.intro ?_ ?_)); (try any_goals (first | refine zm ?_ | exact CL | fail))))
      ((first | apply pr_skip | apply prD_skip) <;> (have zf1 := @d2; refine XG ?_; clear zf1; first | exact rfl | exact True.intro | ((try (repeat' with_reducible refine And.intro ?_ ?_)); (try any_goals (first | refine zm ?_ | exact CL | fail)))))
      (refine xw_ifp (fun g3 => ?_) (fun g3 => ?_) <;> try exact g3.elim)
      rw [parse_bad (rd7 K6 (hG7.2 h11)) (by decide)]
      (have zf1 := @b1_fold; refine XG ?_; clear zf1; ((try (repeat' with_reducible refine And.intro ?_ ?_)); (try any_goals (first | refine zm ?_ | exact CL | fail))))
      ((first | refine pr_gs (ins := []) (no_gs _ 3) ?_ ?_ | refine prD_gs (ins := []) (no_gs _ 3) ?_ ?_ | refine pr_gsv (ins := []) (no_gs _ 3) ?_ ?_ | refine prD_gsv (ins := []) (no_gs _ 3) ?_ ?_) <;> (have zf1 := @noT.eq_1; have zf2 := @pk0.eq_1; have zf3 := @Pk.enc.eq_1; have zf4 := @b1_fold; refine XG ?_; clear zf1 zf2 zf3 zf4; (try first | exact rfl | exact True.intro); ((try (repeat' with_reducible refine And.intro ?_ ?_)); (try any_goals (first | refine zm ?_ | exact CL | fail)))))
    have d2 : ((O : Int) != 65535) = false := by simp; omega
    have k7 : ¬ G7 l := fun h => hG7.1 h h11
    (have zf1 := @d2; refine XG ?_; clear zf1; ((try (repeat' with_reducible refine And.intro ?_ ?_)); (try any_goals (first | refine zm ?_ | exact CL | fail))))
    ((first | apply pr_skip | apply prD_skip) <;> (have zf1 := @d2; refine XG ?_; clear zf1; first | exact rfl | exact True.intro | ((try (repeat' with_reducible refine And.intro ?_ ?_)); (try any_goals (first | refine zm ?_ | exact CL | fail)))))
    (refine xw_ifp (fun g3 => ?_) (fun g3 => ?_) <;> try exact g3.elim)
    (have zf1 := @b1_fold; refine XG ?_; clear zf1; ((try (repeat' with_reducible refine And.intro ?_ ?_)); (try any_goals (first | refine zm ?_ | exact CL | fail))))
    have k9 : ¬ G9 l := fun h => by have := h.1; omega
    have k10 : ¬ G10 l := fun h => by have := h.1; omega
    (refine xw_ifp (fun g4 => ?_) (fun g4 => ?_) <;> try exact g4.elim)
    (have zf1 := @b1_fold; refine XG ?_; clear zf1; ((try (repeat' with_reducible refine And.intro ?_ ?_)); (try any_goals (first | refine zm ?_ | exact CL | fail))))
    ((first | apply pr_psv | apply prD_psv | apply pr_qrunv | apply prD_qrunv) <;> (first | exact (nw2 _ s 6) | (have zf1 := @b1_fold; refine XG ?_; clear zf1; first | exact rfl | exact True.intro | ((try (repeat' with_reducible refine And.intro ?_ ?_)); (try any_goals (first | refine zm ?_ | exact CL | fail))))))
    by_cases f8 : b1 s 0 = 8
    · have k8 : G8 l ↔ b1 s 1 ≠ 0 := by unfold G8; rw [hs, h9]; simp [f8]
      rw [f8]
      (have zf1 := @b1_fold; have zf2 := @f8; refine XG ?_; clear zf1 zf2; ((try (repeat' with_reducible refine And.intro ?_ ?_)); (try any_goals (first | refine zm ?_ | exact CL | fail))))
      (refine xw_ifp (fun h12 => ?_) (fun h12 => ?_) <;> try exact h12.elim)
      · rw [parse_bad (rd8 K6 k7 (k8.2 h12)) (by decide)]
        (have zf1 := @b1_fold; refine XG ?_; clear zf1; ((try (repeat' with_reducible refine And.intro ?_ ?_)); (try any_goals (first | refine zm ?_ | exact CL | fail))))
        ((first | refine pr_gs (ins := []) (no_gs _ 4) ?_ ?_ | refine prD_gs (ins := []) (no_gs _ 4) ?_ ?_ | refine pr_gsv (ins := []) (no_gs _ 4) ?_ ?_ | refine prD_gsv (ins := []) (no_gs _ 4) ?_ ?_) <;> (have zf1 := @noT.eq_1; have zf2 := @pk0.eq_1; have zf3 := @Pk.enc.eq_1; have zf4 := @b1_fold; refine XG ?_; clear zf1 zf2 zf3 zf4; (try first | exact rfl | exact True.intro); ((try (repeat' with_reducible refine And.intro ?_ ?_)); (try any_goals (first | refine zm ?_ | exact CL | fail)))))
      have k8 : ¬ G8 l := fun h => k8.1 h h12
      (have zf1 := @b1_fold; refine XG ?_; clear zf1; ((try (repeat' with_reducible refine And.intro ?_ ?_)); (try any_goals (first | refine zm ?_ | exact CL | fail))))
      (refine xw_ifp (fun g5 => ?_) (fun g5 => ?_) <;> try exact g5.elim)
      (have zf1 := @b1_fold; refine XG ?_; clear zf1; ((try (repeat' with_reducible refine And.intro ?_ ?_)); (try any_goals (first | refine zm ?_ | exact CL | fail))))
      ((first | apply pr_psv | apply prD_psv | apply pr_qrunv | apply prD_qrunv) <;> (first | exact (nw2 _ s 4) | (have zf1 := @b1_fold; refine XG ?_; clear zf1; first | exact rfl | exact True.intro | ((try (repeat' with_reducible refine And.intro ?_ ?_)); (try any_goals (first | refine zm ?_ | exact CL | fail))))))
      have hP : rdK l = (⟨1, w4 l 12, w2 s 4, w4 l 16, 0, b1 l 8, w2 l 4, 8, w2 s 6, 0, 0, s.drop 8⟩ : Pk) := by unfold rdK rdH; simp only [hs, h9, reduceCtorEq, Int.reduceEq, if_true, if_false, ↓reduceIte, f8]
      have hG := wGood_ps c.gl (⟨1, w4 l 12, w2 s 4, w4 l 16, 0, b1 l 8, w2 l 4, 8, w2 s 6, 0, 0, s.drop 8⟩ : Pk)
      have hE := rd11 K6 k7 k8 k9 k10
      rw [hP] at hE
      unfold Pk.enc at hG
      dsimp only at hG
      rw [parse_any _ hE hP]
      generalize pkErr (⟨1, w4 l 12, w2 s 4, w4 l 16, 0, b1 l 8, w2 l 4, 8, w2 s 6, 0, 0, s.drop 8⟩ : Pk) = E at *
      clear hP hE
      unfold Pk.enc pk0
      (have zf1 := @b1_fold; refine XG ?_; clear zf1; ((try (repeat' with_reducible refine And.intro ?_ ?_)); (try any_goals (first | refine zm ?_ | exact CL | fail))))
      ((first | apply pr_psv | apply prD_psv | apply pr_qrunv | apply prD_qrunv) <;> (first | exact hG | (have zf1 := @b1_fold; refine XG ?_; clear zf1; first | exact rfl | exact True.intro | ((try (repeat' with_reducible refine And.intro ?_ ?_)); (try any_goals (first | refine zm ?_ | exact CL | fail))))))
      (refine xw_ifp (fun g9 => ?_) (fun g9 => ?_) <;> try exact g9.elim)
      · rw [if_neg g9]
        (have zf1 := @b1_fold; refine XG ?_; clear zf1; ((try (repeat' with_reducible refine And.intro ?_ ?_)); (try any_goals (first | refine zm ?_ | exact CL | fail))))
        ((first | refine pr_gs (ins := []) (no_gs _ E) ?_ ?_ | refine prD_gs (ins := []) (no_gs _ E) ?_ ?_ | refine pr_gsv (ins := []) (no_gs _ E) ?_ ?_ | refine prD_gsv (ins := []) (no_gs _ E) ?_ ?_) <;> (have zf1 := @noT.eq_1; have zf2 := @pk0.eq_1; have zf3 := @Pk.enc.eq_1; have zf4 := @b1_fold; refine XG ?_; clear zf1 zf2 zf3 zf4; (try first | exact rfl | exact True.intro); ((try (repeat' with_reducible refine And.intro ?_ ?_)); (try any_goals (first | refine zm ?_ | exact CL | fail)))))
      · rw [if_pos g9]
        subst g9
        (have zf1 := @b1_fold; refine XG ?_; clear zf1; ((try (repeat' with_reducible refine And.intro ?_ ?_)); (try any_goals (first | refine zm ?_ | exact CL | fail))))
    · have f8b : (b1 s 0 != 8) = true := by simp [f8]
      have f8c : (b1 s 0 == 8) = false := by simp [f8]
      by_cases f0' : b1 s 0 = 0
      · have k8 : G8 l ↔ b1 s 1 ≠ 0 := by unfold G8; rw [hs, h9]; simp [f0']
        rw [f0']
        (have zf1 := @b1_fold; have zf2 := @f0'; refine XG ?_; clear zf1 zf2; ((try (repeat' with_reducible refine And.intro ?_ ?_)); (try any_goals (first | refine zm ?_ | exact CL | fail))))
        (refine xw_ifp (fun h12 => ?_) (fun h12 => ?_) <;> try exact h12.elim)
        · rw [parse_bad (rd8 K6 k7 (k8.2 h12)) (by decide)]
          (have zf1 := @b1_fold; refine XG ?_; clear zf1; ((try (repeat' with_reducible refine And.intro ?_ ?_)); (try any_goals (first | refine zm ?_ | exact CL | fail))))
          ((first | refine pr_gs (ins := []) (no_gs _ 4) ?_ ?_ | refine prD_gs (ins := []) (no_gs _ 4) ?_ ?_ | refine pr_gsv (ins := []) (no_gs _ 4) ?_ ?_ | refine prD_gsv (ins := []) (no_gs _ 4) ?_ ?_) <;> (have zf1 := @noT.eq_1; have zf2 := @pk0.eq_1; have zf3 := @Pk.enc.eq_1; have zf4 := @b1_fold; refine XG ?_; clear zf1 zf2 zf3 zf4; (try first | exact rfl | exact True.intro); ((try (repeat' with_reducible refine And.intro ?_ ?_)); (try any_goals (first | refine zm ?_ | exact CL | fail)))))
        have k8 : ¬ G8 l := fun h => k8.1 h h12
        (have zf1 := @b1_fold; refine XG ?_; clear zf1; ((try (repeat' with_reducible refine And.intro ?_ ?_)); (try any_goals (first | refine zm ?_ | exact CL | fail))))
        (refine xw_ifp (fun g5 => ?_) (fun g5 => ?_) <;> try exact g5.elim)
        (have zf1 := @b1_fold; refine XG ?_; clear zf1; ((try (repeat' with_reducible refine And.intro ?_ ?_)); (try any_goals (first | refine zm ?_ | exact CL | fail))))
        ((first | apply pr_psv | apply prD_psv | apply pr_qrunv | apply prD_qrunv) <;> (first | exact (nw2 _ s 4) | (have zf1 := @b1_fold; refine XG ?_; clear zf1; first | exact rfl | exact True.intro | ((try (repeat' with_reducible refine And.intro ?_ ?_)); (try any_goals (first | refine zm ?_ | exact CL | fail))))))
        have hP : rdK l = (⟨1, w4 l 12, 0, w4 l 16, w2 s 4, b1 l 8, w2 l 4, 0, w2 s 6, 0, 0, s.drop 8⟩ : Pk) := by unfold rdK rdH; simp only [hs, h9, reduceCtorEq, Int.reduceEq, if_true, if_false, ↓reduceIte, f0']
        have hG := wGood_ps c.gl (⟨1, w4 l 12, 0, w4 l 16, w2 s 4, b1 l 8, w2 l 4, 0, w2 s 6, 0, 0, s.drop 8⟩ : Pk)
        have hE := rd11 K6 k7 k8 k9 k10
        rw [hP] at hE
        unfold Pk.enc at hG
        dsimp only at hG
        rw [parse_any _ hE hP]
        generalize pkErr (⟨1, w4 l 12, 0, w4 l 16, w2 s 4, b1 l 8, w2 l 4, 0, w2 s 6, 0, 0, s.drop 8⟩ : Pk) = E at *
        clear hP hE
        unfold Pk.enc pk0
        (have zf1 := @b1_fold; refine XG ?_; clear zf1; ((try (repeat' with_reducible refine And.intro ?_ ?_)); (try any_goals (first | refine zm ?_ | exact CL | fail))))
        ((first | apply pr_psv | apply prD_psv | apply pr_qrunv | apply prD_qrunv) <;> (first | exact hG | (have zf1 := @b1_fold; refine XG ?_; clear zf1; first | exact rfl | exact True.intro | ((try (repeat' with_reducible refine And.intro ?_ ?_)); (try any_goals (first | refine zm ?_ | exact CL | fail))))))
        (refine xw_ifp (fun g9 => ?_) (fun g9 => ?_) <;> try exact g9.elim)
        · rw [if_neg g9]
          (have zf1 := @b1_fold; refine XG ?_; clear zf1; ((try (repeat' with_reducible refine And.intro ?_ ?_)); (try any_goals (first | refine zm ?_ | exact CL | fail))))
          ((first | refine pr_gs (ins := []) (no_gs _ E) ?_ ?_ | refine prD_gs (ins := []) (no_gs _ E) ?_ ?_ | refine pr_gsv (ins := []) (no_gs _ E) ?_ ?_ | refine prD_gsv (ins := []) (no_gs _ E) ?_ ?_) <;> (have zf1 := @noT.eq_1; have zf2 := @pk0.eq_1; have zf3 := @Pk.enc.eq_1; have zf4 := @b1_fold; refine XG ?_; clear zf1 zf2 zf3 zf4; (try first | exact rfl | exact True.intro); ((try (repeat' with_reducible refine And.intro ?_ ?_)); (try any_goals (first | refine zm ?_ | exact CL | fail)))))
        · rw [if_pos g9]
          subst g9
          (have zf1 := @b1_fold; refine XG ?_; clear zf1; ((try (repeat' with_reducible refine And.intro ?_ ?_)); (try any_goals (first | refine zm ?_ | exact CL | fail))))
      · have f0b : (b1 s 0 != 0) = true := by simp [f0']
        (have zf1 := @b1_fold; have zf2 := @f8b; have zf3 := @f0b; refine XG ?_; clear zf1 zf2 zf3; ((try (repeat' with_reducible refine And.intro ?_ ?_)); (try any_goals (first | refine zm ?_ | exact CL | fail))))
        (refine xw_ifp (fun g5 => ?_) (fun g5 => ?_) <;> try exact g5.elim)
        rw [parse_bad (rd8 K6 k7 (show G8 l by unfold G8; rw [hs]; exact ⟨h9, .inl ⟨f8, f0'⟩⟩)) (by decide)]
        (have zf1 := @b1_fold; refine XG ?_; clear zf1; ((try (repeat' with_reducible refine And.intro ?_ ?_)); (try any_goals (first | refine zm ?_ | exact CL | fail))))
        ((first | refine pr_gs (ins := []) (no_gs _ 4) ?_ ?_ | refine prD_gs (ins := []) (no_gs _ 4) ?_ ?_ | refine pr_gsv (ins := []) (no_gs _ 4) ?_ ?_ | refine prD_gsv (ins := []) (no_gs _ 4) ?_ ?_) <;> (have zf1 := @noT.eq_1; have zf2 := @pk0.eq_1; have zf3 := @Pk.enc.eq_1; have zf4 := @b1_fold; refine XG ?_; clear zf1 zf2 zf3 zf4; (try first | exact rfl | exact True.intro); ((try (repeat' with_reducible refine And.intro ?_ ?_)); (try any_goals (first | refine zm ?_ | exact CL | fail)))))

  · have hz : sizesT (b1 l 9) = .tup [.int .i64 20, .int .i64 16] := by rw [h9]; rfl
    rw [hz, h9] at hsz
    rw [h9]
    clear hz
    (have zf1 := @hs; refine XG ?_; clear zf1; ((try (repeat' with_reducible refine And.intro ?_ ?_)); (try any_goals (first | refine zm ?_ | exact CL | fail))))
    ((first | apply pr_psv | apply prD_psv | apply pr_qrunv | apply prD_qrunv) <;> (first | exact hsz | (refine XG ?_; first | exact rfl | exact True.intro | ((try (repeat' with_reducible refine And.intro ?_ ?_)); (try any_goals (first | refine zm ?_ | exact CL | fail))))))
    (refine xw_ifp (fun g1 => ?_) (fun g1 => ?_) <;> try exact g1.elim)
    (refine XG ?_; ((try (repeat' with_reducible refine And.intro ?_ ?_)); (try any_goals (first | refine zm ?_ | exact CL | fail))))
    (refine xw_ifp (fun h10 => ?_) (fun h10 => ?_) <;> try exact h10.elim)
    · rw [parse_bad (rd6 K k5 (by unfold G6; rw [hs, h9]; simp; omega)) (by decide)]
      (have zf1 := @b1_fold; refine XG ?_; clear zf1; ((try (repeat' with_reducible refine And.intro ?_ ?_)); (try any_goals (first | refine zm ?_ | exact CL | fail))))
      ((first | refine pr_gs (ins := []) (no_gs _ 1) ?_ ?_ | refine prD_gs (ins := []) (no_gs _ 1) ?_ ?_ | refine pr_gsv (ins := []) (no_gs _ 1) ?_ ?_ | refine prD_gsv (ins := []) (no_gs _ 1) ?_ ?_) <;> (have zf1 := @noT.eq_1; have zf2 := @pk0.eq_1; have zf3 := @Pk.enc.eq_1; have zf4 := @b1_fold; refine XG ?_; clear zf1 zf2 zf3 zf4; (try first | exact rfl | exact True.intro); ((try (repeat' with_reducible refine And.intro ?_ ?_)); (try any_goals (first | refine zm ?_ | exact CL | fail)))))
    have K6 : H6 l := ⟨K, k5, by unfold G6; rw [hs, h9]; simp; omega⟩
    clear K k5
    have hpre : be (w4 l 12) 4 ++ be (w4 l 16) 4 ++ be 6 2 ++ be (s.length : Int) 2 = preB 6 (w4 l 12) (w4 l 16) s.length := rfl
    have hpl : (preB 6 (w4 l 12) (w4 l 16) s.length).length = 12 := by rw [← hpre]; simp [be_len]
    have hO := Of_ps c.gl (preB 6 (w4 l 12) (w4 l 16) s.length ++ s) (by rw [List.length_append]; omega)
    have hps := pseudo_ps c.gl (w4 l 12) (w4 l 16) 6 (s.length : Int)
    rw [hpre] at hps
    have hG7 : G7 l ↔ ofN (preB 6 (w4 l 12) (w4 l 16) s.length ++ s) ≠ 65535 := by unfold G7; rw [hs, h9]; simp
    clear hpre
    generalize ofN (preB 6 (w4 l 12) (w4 l 16) s.length ++ s) = O at *
    generalize preB 6 (w4 l 12) (w4 l 16) s.length = pre at *
    (refine XG ?_; ((try (repeat' with_reducible refine And.intro ?_ ?_)); (try any_goals (first | refine zm ?_ | exact CL | fail))))
    (refine xw_ifp (fun g2 => ?_) (fun g2 => ?_) <;> try exact g2.elim)
    (refine XG ?_; ((try (repeat' with_reducible refine And.intro ?_ ?_)); (try any_goals (first | refine zm ?_ | exact CL | fail))))
    ((first | apply pr_psv | apply prD_psv | apply pr_qrunv | apply prD_qrunv) <;> (first | exact hps | (have zf1 := @hpl; refine XG ?_; clear zf1; first | exact rfl | exact True.intro | ((try (repeat' with_reducible refine And.intro ?_ ?_)); (try any_goals (first | refine zm ?_ | exact CL | fail))))))
    ((first | apply pr_psv | apply prD_psv | apply pr_qrunv | apply prD_qrunv) <;> (first | exact hO | (refine XG ?_; first | exact rfl | exact True.intro | ((try (repeat' with_reducible refine And.intro ?_ ?_)); (try any_goals (first | refine zm ?_ | exact CL | fail))))))
    by_cases h11 : O = 65535
    rotate_left
    · have d2 : ((O : Int) != 65535) = true := by simp; omega
      (have zf1 := @d2; refine XG ?_; clear zf1; ((try (repeat' with_reducible refine And.intro ?_ ?_)); (try any_goals (first | refine zm ?_ | exact CL | fail))))
      ((first | apply pr_skip | apply prD_skip) <;> (have zf1 := @d2; refine XG ?_; clear zf1; first | exact rfl | exact True.intro | ((try (repeat' with_reducible refine And.intro ?_ ?_)); (try any_goals (first | refine zm ?_ | exact CL | fail)))))
      (refine xw_ifp (fun g3 => ?_) (fun g3 => ?_) <;> try exact g3.elim)
      rw [parse_bad (rd7 K6 (hG7.2 h11)) (by decide)]
      (have zf1 := @b1_fold; refine XG ?_; clear zf1; ((try (repeat' with_reducible refine And.intro ?_ ?_)); (try any_goals (first | refine zm ?_ | exact CL | fail))))
      ((first | refine pr_gs (ins := []) (no_gs _ 3) ?_ ?_ | refine prD_gs (ins := []) (no_gs _ 3) ?_ ?_ | refine pr_gsv (ins := []) (no_gs _ 3) ?_ ?_ | refine prD_gsv (ins := []) (no_gs _ 3) ?_ ?_) <;> (have zf1 := @noT.eq_1; have zf2 := @pk0.eq_1; have zf3 := @Pk.enc.eq_1; have zf4 := @b1_fold; refine XG ?_; clear zf1 zf2 zf3 zf4; (try first | exact rfl | exact True.intro); ((try (repeat' with_reducible refine And.intro ?_ ?_)); (try any_goals (first | refine zm ?_ | exact CL | fail)))))
    have d2 : ((O : Int) != 65535) = false := by simp; omega
    (have zf1 := @d2; refine XG ?_; clear zf1; ((try (repeat' with_reducible refine And.intro ?_ ?_)); (try any_goals (first | refine zm ?_ | exact CL | fail))))
    ((first | apply pr_skip | apply prD_skip) <;> (have zf1 := @d2; refine XG ?_; clear zf1; first | exact rfl | exact True.intro | ((try (repeat' with_reducible refine And.intro ?_ ?_)); (try any_goals (first | refine zm ?_ | exact CL | fail)))))
    (refine xw_ifp (fun g3 => ?_) (fun g3 => ?_) <;> try exact g3.elim)
    have k7 : ¬ G7 l := fun h => hG7.1 h h11
    have k8 : ¬ G8 l := fun h => by have := h.1; omega
    have k9 : ¬ G9 l := fun h => by have := h.1; omega
    have hG10 : G10 l ↔ b1 s 12 ≠ 80 ∨ 63 < b1 s 13 ∨ w2 s 18 ≠ 0 := by unfold G10; rw [hs, h9]; simp
    (have zf1 := @b1_fold; refine XG ?_; clear zf1; ((try (repeat' with_reducible refine And.intro ?_ ?_)); (try any_goals (first | refine zm ?_ | exact CL | fail))))
    (refine xw_ifp (fun g4 => ?_) (fun g4 => ?_) <;> try exact g4.elim)
    (have zf1 := @b1_fold; refine XG ?_; clear zf1; ((try (repeat' with_reducible refine And.intro ?_ ?_)); (try any_goals (first | refine zm ?_ | exact CL | fail))))
    (refine xw_ifp (fun g5 => ?_) (fun g5 => ?_) <;> try exact g5.elim)
    (have zf1 := @b1_fold; refine XG ?_; clear zf1; ((try (repeat' with_reducible refine And.intro ?_ ?_)); (try any_goals (first | refine zm ?_ | exact CL | fail))))
    (refine xw_ifp (fun g6 => ?_) (fun g6 => ?_) <;> try exact g6.elim)
    (have zf1 := @b1_fold; refine XG ?_; clear zf1; ((try (repeat' with_reducible refine And.intro ?_ ?_)); (try any_goals (first | refine zm ?_ | exact CL | fail))))
    ((first | apply pr_psv | apply prD_psv | apply pr_qrunv | apply prD_qrunv) <;> (first | exact (nw2 _ s 0) | (have zf1 := @b1_fold; have zf2 := @List.drop_zero.{0}; refine XG ?_; clear zf1 zf2; first | exact rfl | exact True.intro | ((try (repeat' with_reducible refine And.intro ?_ ?_)); (try any_goals (first | refine zm ?_ | exact CL | fail))))))
    ((first | apply pr_psv | apply prD_psv | apply pr_qrunv | apply prD_qrunv) <;> (first | exact (nw2 _ s 2) | (have zf1 := @b1_fold; refine XG ?_; clear zf1; first | exact rfl | exact True.intro | ((try (repeat' with_reducible refine And.intro ?_ ?_)); (try any_goals (first | refine zm ?_ | exact CL | fail))))))
    ((first | apply pr_psv | apply prD_psv | apply pr_qrunv | apply prD_qrunv) <;> (first | exact (nw4 _ s 4) | (have zf1 := @b1_fold; refine XG ?_; clear zf1; first | exact rfl | exact True.intro | ((try (repeat' with_reducible refine And.intro ?_ ?_)); (try any_goals (first | refine zm ?_ | exact CL | fail))))))
    ((first | apply pr_psv | apply prD_psv | apply pr_qrunv | apply prD_qrunv) <;> (first | exact (nw4 _ s 8) | (have zf1 := @b1_fold; refine XG ?_; clear zf1; first | exact rfl | exact True.intro | ((try (repeat' with_reducible refine And.intro ?_ ?_)); (try any_goals (first | refine zm ?_ | exact CL | fail))))))
    ((first | apply pr_psv | apply prD_psv | apply pr_qrunv | apply prD_qrunv) <;> (first | exact (nw2 _ s 14) | (have zf1 := @b1_fold; refine XG ?_; clear zf1; first | exact rfl | exact True.intro | ((try (repeat' with_reducible refine And.intro ?_ ?_)); (try any_goals (first | refine zm ?_ | exact CL | fail))))))
    by_cases h13 : b1 s 12 = 80
    rotate_left
    · have d3 : (b1 s 12 != 80) = true := by simp [h13]
      (have zf1 := @b1_fold; have zf2 := @d3; refine XG ?_; clear zf1 zf2; ((try (repeat' with_reducible refine And.intro ?_ ?_)); (try any_goals (first | refine zm ?_ | exact CL | fail))))
      ((first | apply pr_skip | apply prD_skip) <;> (have zf1 := @d3; refine XG ?_; clear zf1; first | exact rfl | exact True.intro | ((try (repeat' with_reducible refine And.intro ?_ ?_)); (try any_goals (first | refine zm ?_ | exact CL | fail)))))
      (refine xw_ifp (fun g7 => ?_) (fun g7 => ?_) <;> try exact g7.elim)
      rw [parse_bad (rd10 K6 k7 k8 k9 (hG10.2 (.inl h13))) (by decide)]
      (have zf1 := @b1_fold; refine XG ?_; clear zf1; ((try (repeat' with_reducible refine And.intro ?_ ?_)); (try any_goals (first | refine zm ?_ | exact CL | fail))))
      ((first | refine pr_gs (ins := []) (no_gs _ 4) ?_ ?_ | refine prD_gs (ins := []) (no_gs _ 4) ?_ ?_ | refine pr_gsv (ins := []) (no_gs _ 4) ?_ ?_ | refine prD_gsv (ins := []) (no_gs _ 4) ?_ ?_) <;> (have zf1 := @noT.eq_1; have zf2 := @pk0.eq_1; have zf3 := @Pk.enc.eq_1; have zf4 := @b1_fold; refine XG ?_; clear zf1 zf2 zf3 zf4; (try first | exact rfl | exact True.intro); ((try (repeat' with_reducible refine And.intro ?_ ?_)); (try any_goals (first | refine zm ?_ | exact CL | fail)))))
    by_cases h14 : 63 < b1 s 13
    · have d3 : decide (63 < b1 s 13) = true := by simp [h14]
      (have zf1 := @b1_fold; have zf2 := @h13; have zf3 := @d3; refine XG ?_; clear zf1 zf2 zf3; ((try (repeat' with_reducible refine And.intro ?_ ?_)); (try any_goals (first | refine zm ?_ | exact CL | fail))))
      ((first | apply pr_skip | apply prD_skip) <;> (have zf1 := @d3; refine XG ?_; clear zf1; first | exact rfl | exact True.intro | ((try (repeat' with_reducible refine And.intro ?_ ?_)); (try any_goals (first | refine zm ?_ | exact CL | fail)))))
      (refine xw_ifp (fun g7 => ?_) (fun g7 => ?_) <;> try exact g7.elim)
      rw [parse_bad (rd10 K6 k7 k8 k9 (hG10.2 (.inr (.inl h14)))) (by decide)]
      (have zf1 := @b1_fold; refine XG ?_; clear zf1; ((try (repeat' with_reducible refine And.intro ?_ ?_)); (try any_goals (first | refine zm ?_ | exact CL | fail))))
      ((first | refine pr_gs (ins := []) (no_gs _ 4) ?_ ?_ | refine prD_gs (ins := []) (no_gs _ 4) ?_ ?_ | refine pr_gsv (ins := []) (no_gs _ 4) ?_ ?_ | refine prD_gsv (ins := []) (no_gs _ 4) ?_ ?_) <;> (have zf1 := @noT.eq_1; have zf2 := @pk0.eq_1; have zf3 := @Pk.enc.eq_1; have zf4 := @b1_fold; refine XG ?_; clear zf1 zf2 zf3 zf4; (try first | exact rfl | exact True.intro); ((try (repeat' with_reducible refine And.intro ?_ ?_)); (try any_goals (first | refine zm ?_ | exact CL | fail)))))
    have d3 : decide (63 < b1 s 13) = false := by simp; omega
    (have zf1 := @b1_fold; have zf2 := @h13; have zf3 := @d3; refine XG ?_; clear zf1 zf2 zf3; ((try (repeat' with_reducible refine And.intro ?_ ?_)); (try any_goals (first | refine zm ?_ | exact CL | fail))))
    ((first | apply pr_psv | apply prD_psv | apply pr_qrunv | apply prD_qrunv) <;> (first | exact (nw2 _ s 18) | (have zf1 := @b1_fold; have zf2 := @h13; have zf3 := @d3; refine XG ?_; clear zf1 zf2 zf3; first | exact rfl | exact True.intro | ((try (repeat' with_reducible refine And.intro ?_ ?_)); (try any_goals (first | refine zm ?_ | exact CL | fail))))))
    (refine xw_ifp (fun h15 => ?_) (fun h15 => ?_) <;> try exact h15.elim)
    · rw [parse_bad (rd10 K6 k7 k8 k9 (hG10.2 (.inr (.inr h15)))) (by decide)]
      (have zf1 := @b1_fold; refine XG ?_; clear zf1; ((try (repeat' with_reducible refine And.intro ?_ ?_)); (try any_goals (first | refine zm ?_ | exact CL | fail))))
      ((first | refine pr_gs (ins := []) (no_gs _ 4) ?_ ?_ | refine prD_gs (ins := []) (no_gs _ 4) ?_ ?_ | refine pr_gsv (ins := []) (no_gs _ 4) ?_ ?_ | refine prD_gsv (ins := []) (no_gs _ 4) ?_ ?_) <;> (have zf1 := @noT.eq_1; have zf2 := @pk0.eq_1; have zf3 := @Pk.enc.eq_1; have zf4 := @b1_fold; refine XG ?_; clear zf1 zf2 zf3 zf4; (try first | exact rfl | exact True.intro); ((try (repeat' with_reducible refine And.intro ?_ ?_)); (try any_goals (first | refine zm ?_ | exact CL | fail)))))
    have k10 : ¬ G10 l := fun h => by have := hG10.1 h; omega
    have hP : rdK l = (⟨6, w4 l 12, w2 s 0, w4 l 16, w2 s 2, b1 l 8, w2 l 4, b1 s 13, w4 s 4, w4 s 8, w2 s 14, s.drop 20⟩ : Pk) := by unfold rdK rdH; simp only [hs, h9, reduceCtorEq, Int.reduceEq, if_true, if_false, ↓reduceIte]
    have hG := wGood_ps c.gl (⟨6, w4 l 12, w2 s 0, w4 l 16, w2 s 2, b1 l 8, w2 l 4, b1 s 13, w4 s 4, w4 s 8, w2 s 14, s.drop 20⟩ : Pk)
    have hE := rd11 K6 k7 k8 k9 k10
    rw [hP] at hE
    unfold Pk.enc at hG
    dsimp only at hG
    rw [parse_any _ hE hP]
    generalize pkErr (⟨6, w4 l 12, w2 s 0, w4 l 16, w2 s 2, b1 l 8, w2 l 4, b1 s 13, w4 s 4, w4 s 8, w2 s 14, s.drop 20⟩ : Pk) = E at *
    clear hP hE
    unfold Pk.enc pk0
    (have zf1 := @b1_fold; refine XG ?_; clear zf1; ((try (repeat' with_reducible refine And.intro ?_ ?_)); (try any_goals (first | refine zm ?_ | exact CL | fail))))
    ((first | apply pr_psv | apply prD_psv | apply pr_qrunv | apply prD_qrunv) <;> (first | exact hG | (have zf1 := @b1_fold; refine XG ?_; clear zf1; first | exact rfl | exact True.intro | ((try (repeat' with_reducible refine And.intro ?_ ?_)); (try any_goals (first | refine zm ?_ | exact CL | fail))))))
    (refine xw_ifp (fun g9 => ?_) (fun g9 => ?_) <;> try exact g9.elim)
    · rw [if_neg g9]
      (have zf1 := @b1_fold; refine XG ?_; clear zf1; ((try (repeat' with_reducible refine And.intro ?_ ?_)); (try any_goals (first | refine zm ?_ | exact CL | fail))))
      ((first | refine pr_gs (ins := []) (no_gs _ E) ?_ ?_ | refine prD_gs (ins := []) (no_gs _ E) ?_ ?_ | refine pr_gsv (ins := []) (no_gs _ E) ?_ ?_ | refine prD_gsv (ins := []) (no_gs _ E) ?_ ?_) <;> (have zf1 := @noT.eq_1; have zf2 := @pk0.eq_1; have zf3 := @Pk.enc.eq_1; have zf4 := @b1_fold; refine XG ?_; clear zf1 zf2 zf3 zf4; (try first | exact rfl | exact True.intro); ((try (repeat' with_reducible refine And.intro ?_ ?_)); (try any_goals (first | refine zm ?_ | exact CL | fail)))))
    · rw [if_pos g9]
      subst g9
      (have zf1 := @b1_fold; refine XG ?_; clear zf1; ((try (repeat' with_reducible refine And.intro ?_ ?_)); (try any_goals (first | refine zm ?_ | exact CL | fail))))
  · have hz : sizesT (b1 l 9) = .tup [.int .i64 8, .int .i64 6] := by rw [h9]; rfl
    rw [hz, h9] at hsz
    rw [h9]
    clear hz
    (have zf1 := @hs; refine XG ?_; clear zf1; ((try (repeat' with_reducible refine And.intro ?_ ?_)); (try any_goals (first | refine zm ?_ | exact CL | fail))))
    ((first | apply pr_psv | apply prD_psv | apply pr_qrunv | apply prD_qrunv) <;> (first | exact hsz | (refine XG ?_; first | exact rfl | exact True.intro | ((try (repeat' with_reducible refine And.intro ?_ ?_)); (try any_goals (first | refine zm ?_ | exact CL | fail))))))
    (refine xw_ifp (fun g1 => ?_) (fun g1 => ?_) <;> try exact g1.elim)
    (refine XG ?_; ((try (repeat' with_reducible refine And.intro ?_ ?_)); (try any_goals (first | refine zm ?_ | exact CL | fail))))
    (refine xw_ifp (fun h10 => ?_) (fun h10 => ?_) <;> try exact h10.elim)
    · rw [parse_bad (rd6 K k5 (by unfold G6; rw [hs, h9]; simp; omega)) (by decide)]
      (have zf1 := @b1_fold; refine XG ?_; clear zf1; ((try (repeat' with_reducible refine And.intro ?_ ?_)); (try any_goals (first | refine zm ?_ | exact CL | fail))))
      ((first | refine pr_gs (ins := []) (no_gs _ 1) ?_ ?_ | refine prD_gs (ins := []) (no_gs _ 1) ?_ ?_ | refine pr_gsv (ins := []) (no_gs _ 1) ?_ ?_ | refine prD_gsv (ins := []) (no_gs _ 1) ?_ ?_) <;> (have zf1 := @noT.eq_1; have zf2 := @pk0.eq_1; have zf3 := @Pk.enc.eq_1; have zf4 := @b1_fold; refine XG ?_; clear zf1 zf2 zf3 zf4; (try first | exact rfl | exact True.intro); ((try (repeat' with_reducible refine And.intro ?_ ?_)); (try any_goals (first | refine zm ?_ | exact CL | fail)))))
    have K6 : H6 l := ⟨K, k5, by unfold G6; rw [hs, h9]; simp; omega⟩
    clear K k5
    have hpre : be (w4 l 12) 4 ++ be (w4 l 16) 4 ++ be 17 2 ++ be (s.length : Int) 2 = preB 17 (w4 l 12) (w4 l 16) s.length := rfl
    have hpl : (preB 17 (w4 l 12) (w4 l 16) s.length).length = 12 := by rw [← hpre]; simp [be_len]
    have hO := Of_ps c.gl (preB 17 (w4 l 12) (w4 l 16) s.length ++ s) (by rw [List.length_append]; omega)
    have hps := pseudo_ps c.gl (w4 l 12) (w4 l 16) 17 (s.length : Int)
    rw [hpre] at hps
    have hG7 : G7 l ↔ ofN (preB 17 (w4 l 12) (w4 l 16) s.length ++ s) ≠ 65535 ∨ w2 s 6 = 0 := by unfold G7; rw [hs, h9]; simp
    clear hpre
    generalize ofN (preB 17 (w4 l 12) (w4 l 16) s.length ++ s) = O at *
    generalize preB 17 (w4 l 12) (w4 l 16) s.length = pre at *
    (refine XG ?_; ((try (repeat' with_reducible refine And.intro ?_ ?_)); (try any_goals (first | refine zm ?_ | exact CL | fail))))
    (refine xw_ifp (fun g2 => ?_) (fun g2 => ?_) <;> try exact g2.elim)
    (refine XG ?_; ((try (repeat' with_reducible refine And.intro ?_ ?_)); (try any_goals (first | refine zm ?_ | exact CL | fail))))
    ((first | apply pr_psv | apply prD_psv | apply pr_qrunv | apply prD_qrunv) <;> (first | exact hps | (have zf1 := @hpl; refine XG ?_; clear zf1; first | exact rfl | exact True.intro | ((try (repeat' with_reducible refine And.intro ?_ ?_)); (try any_goals (first | refine zm ?_ | exact CL | fail))))))
    ((first | apply pr_psv | apply prD_psv | apply pr_qrunv | apply prD_qrunv) <;> (first | exact hO | (refine XG ?_; first | exact rfl | exact True.intro | ((try (repeat' with_reducible refine And.intro ?_ ?_)); (try any_goals (first | refine zm ?_ | exact CL | fail))))))
    by_cases h11 : O = 65535
    rotate_left
    · have d2 : ((O : Int) != 65535) = true := by simp; omega
      (have zf1 := @d2; refine XG ?_; clear zf1; ((try (repeat' with_reducible refine And.intro ?_ ?_)); (try any_goals (first | refine zm ?_ | exact CL | fail))))
      ((first | apply pr_skip | apply prD_skip) <;> (have zf1 := @d2; refine XG ?_; clear zf1; first | exact rfl | exact True.intro | ((try (repeat' with_reducible refine And.intro ?_ ?_)); (try any_goals (first | refine zm ?_ | exact CL | fail)))))
      (refine xw_ifp (fun g3 => ?_) (fun g3 => ?_) <;> try exact g3.elim)
      rw [parse_bad (rd7 K6 (hG7.2 (.inl h11))) (by decide)]
      (have zf1 := @b1_fold; refine XG ?_; clear zf1; ((try (repeat' with_reducible refine And.intro ?_ ?_)); (try any_goals (first | refine zm ?_ | exact CL | fail))))
      ((first | refine pr_gs (ins := []) (no_gs _ 3) ?_ ?_ | refine prD_gs (ins := []) (no_gs _ 3) ?_ ?_ | refine pr_gsv (ins := []) (no_gs _ 3) ?_ ?_ | refine prD_gsv (ins := []) (no_gs _ 3) ?_ ?_) <;> (have zf1 := @noT.eq_1; have zf2 := @pk0.eq_1; have zf3 := @Pk.enc.eq_1; have zf4 := @b1_fold; refine XG ?_; clear zf1 zf2 zf3 zf4; (try first | exact rfl | exact True.intro); ((try (repeat' with_reducible refine And.intro ?_ ?_)); (try any_goals (first | refine zm ?_ | exact CL | fail)))))
    have d2 : ((O : Int) != 65535) = false := by simp; omega
    (have zf1 := @d2; refine XG ?_; clear zf1; ((try (repeat' with_reducible refine And.intro ?_ ?_)); (try any_goals (first | refine zm ?_ | exact CL | fail))))
    ((first | apply pr_psv | apply prD_psv | apply pr_qrunv | apply prD_qrunv) <;> (first | exact (nw2 _ s 6) | (have zf1 := @d2; refine XG ?_; clear zf1; first | exact rfl | exact True.intro | ((try (repeat' with_reducible refine And.intro ?_ ?_)); (try any_goals (first | refine zm ?_ | exact CL | fail))))))
    (refine xw_ifp (fun h12 => ?_) (fun h12 => ?_) <;> try exact h12.elim)
    · rw [parse_bad (rd7 K6 (hG7.2 (.inr h12))) (by decide)]
      (have zf1 := @b1_fold; refine XG ?_; clear zf1; ((try (repeat' with_reducible refine And.intro ?_ ?_)); (try any_goals (first | refine zm ?_ | exact CL | fail))))
      ((first | refine pr_gs (ins := []) (no_gs _ 3) ?_ ?_ | refine prD_gs (ins := []) (no_gs _ 3) ?_ ?_ | refine pr_gsv (ins := []) (no_gs _ 3) ?_ ?_ | refine prD_gsv (ins := []) (no_gs _ 3) ?_ ?_) <;> (have zf1 := @noT.eq_1; have zf2 := @pk0.eq_1; have zf3 := @Pk.enc.eq_1; have zf4 := @b1_fold; refine XG ?_; clear zf1 zf2 zf3 zf4; (try first | exact rfl | exact True.intro); ((try (repeat' with_reducible refine And.intro ?_ ?_)); (try any_goals (first | refine zm ?_ | exact CL | fail)))))
    have k7 : ¬ G7 l := fun h => by have := hG7.1 h; omega
    have k8 : ¬ G8 l := fun h => by have := h.1; omega
    have k10 : ¬ G10 l := fun h => by have := h.1; omega
    have hG9 : G9 l ↔ w2 s 4 ≠ s.length := by unfold G9; rw [hs, h9]; simp
    (have zf1 := @b1_fold; refine XG ?_; clear zf1; ((try (repeat' with_reducible refine And.intro ?_ ?_)); (try any_goals (first | refine zm ?_ | exact CL | fail))))
    (refine xw_ifp (fun g3 => ?_) (fun g3 => ?_) <;> try exact g3.elim)
    (have zf1 := @b1_fold; refine XG ?_; clear zf1; ((try (repeat' with_reducible refine And.intro ?_ ?_)); (try any_goals (first | refine zm ?_ | exact CL | fail))))
    (refine xw_ifp (fun g4 => ?_) (fun g4 => ?_) <;> try exact g4.elim)
    (have zf1 := @b1_fold; refine XG ?_; clear zf1; ((try (repeat' with_reducible refine And.intro ?_ ?_)); (try any_goals (first | refine zm ?_ | exact CL | fail))))
    ((first | apply pr_psv | apply prD_psv | apply pr_qrunv | apply prD_qrunv) <;> (first | exact (nw2 _ s 0) | (have zf1 := @b1_fold; have zf2 := @List.drop_zero.{0}; refine XG ?_; clear zf1 zf2; first | exact rfl | exact True.intro | ((try (repeat' with_reducible refine And.intro ?_ ?_)); (try any_goals (first | refine zm ?_ | exact CL | fail))))))
    ((first | apply pr_psv | apply prD_psv | apply pr_qrunv | apply prD_qrunv) <;> (first | exact (nw2 _ s 2) | (have zf1 := @b1_fold; refine XG ?_; clear zf1; first | exact rfl | exact True.intro | ((try (repeat' with_reducible refine And.intro ?_ ?_)); (try any_goals (first | refine zm ?_ | exact CL | fail))))))
    ((first | apply pr_psv | apply prD_psv | apply pr_qrunv | apply prD_qrunv) <;> (first | exact (nw2 _ s 4) | (have zf1 := @b1_fold; refine XG ?_; clear zf1; first | exact rfl | exact True.intro | ((try (repeat' with_reducible refine And.intro ?_ ?_)); (try any_goals (first | refine zm ?_ | exact CL | fail))))))
    (refine xw_ifp (fun h13 => ?_) (fun h13 => ?_) <;> try exact h13.elim)
    · rw [parse_bad (rd9 K6 k7 k8 (hG9.2 h13)) (by decide)]
      (have zf1 := @b1_fold; refine XG ?_; clear zf1; ((try (repeat' with_reducible refine And.intro ?_ ?_)); (try any_goals (first | refine zm ?_ | exact CL | fail))))
      ((first | refine pr_gs (ins := []) (no_gs _ 1) ?_ ?_ | refine prD_gs (ins := []) (no_gs _ 1) ?_ ?_ | refine pr_gsv (ins := []) (no_gs _ 1) ?_ ?_ | refine prD_gsv (ins := []) (no_gs _ 1) ?_ ?_) <;> (have zf1 := @noT.eq_1; have zf2 := @pk0.eq_1; have zf3 := @Pk.enc.eq_1; have zf4 := @b1_fold; refine XG ?_; clear zf1 zf2 zf3 zf4; (try first | exact rfl | exact True.intro); ((try (repeat' with_reducible refine And.intro ?_ ?_)); (try any_goals (first | refine zm ?_ | exact CL | fail)))))
    have k9 : ¬ G9 l := fun h => hG9.1 h h13
    have hP : rdK l = (⟨17, w4 l 12, w2 s 0, w4 l 16, w2 s 2, b1 l 8, w2 l 4, 0, 0, 0, 0, s.drop 8⟩ : Pk) := by unfold rdK rdH; simp only [hs, h9, reduceCtorEq, Int.reduceEq, if_true, if_false, ↓reduceIte]
    have hG := wGood_ps c.gl (⟨17, w4 l 12, w2 s 0, w4 l 16, w2 s 2, b1 l 8, w2 l 4, 0, 0, 0, 0, s.drop 8⟩ : Pk)
    have hE := rd11 K6 k7 k8 k9 k10
    rw [hP] at hE
    unfold Pk.enc at hG
    dsimp only at hG
    rw [parse_any _ hE hP]
    generalize pkErr (⟨17, w4 l 12, w2 s 0, w4 l 16, w2 s 2, b1 l 8, w2 l 4, 0, 0, 0, 0, s.drop 8⟩ : Pk) = E at *
    clear hP hE
    unfold Pk.enc pk0
    (have zf1 := @b1_fold; refine XG ?_; clear zf1; ((try (repeat' with_reducible refine And.intro ?_ ?_)); (try any_goals (first | refine zm ?_ | exact CL | fail))))
    ((first | apply pr_psv | apply prD_psv | apply pr_qrunv | apply prD_qrunv) <;> (first | exact hG | (have zf1 := @b1_fold; refine XG ?_; clear zf1; first | exact rfl | exact True.intro | ((try (repeat' with_reducible refine And.intro ?_ ?_)); (try any_goals (first | refine zm ?_ | exact CL | fail))))))
    (refine xw_ifp (fun g9 => ?_) (fun g9 => ?_) <;> try exact g9.elim)
    · rw [if_neg g9]
      (have zf1 := @b1_fold; refine XG ?_; clear zf1; ((try (repeat' with_reducible refine And.intro ?_ ?_)); (try any_goals (first | refine zm ?_ | exact CL | fail))))
      ((first | refine pr_gs (ins := []) (no_gs _ E) ?_ ?_ | refine prD_gs (ins := []) (no_gs _ E) ?_ ?_ | refine pr_gsv (ins := []) (no_gs _ E) ?_ ?_ | refine prD_gsv (ins := []) (no_gs _ E) ?_ ?_) <;> (have zf1 := @noT.eq_1; have zf2 := @pk0.eq_1; have zf3 := @Pk.enc.eq_1; have zf4 := @b1_fold; refine XG ?_; clear zf1 zf2 zf3 zf4; (try first | exact rfl | exact True.intro); ((try (repeat' with_reducible refine And.intro ?_ ?_)); (try any_goals (first | refine zm ?_ | exact CL | fail)))))
    · rw [if_pos g9]
      subst g9
      (have zf1 := @b1_fold; refine XG ?_; clear zf1; ((try (repeat' with_reducible refine And.intro ?_ ?_)); (try any_goals (first | refine zm ?_ | exact CL | fail))))
end Go.Proofs.Ytblimjilinkmbaa
