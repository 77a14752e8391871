/- What the reference's Parse reads. No conditions but the ones that stand in each. -/
import Derived.Test.YtblimjilinkmbaaWk
namespace Go.Proofs.Ytblimjilinkmbaa
set_option linter.all false
set_option linter.unusedSimpArgs false
open Go.RowKit

theorem w2_b1 (l : List UInt8) (k : Nat) (h : k + 2 ≤ l.length) : w2 l k = 256 * b1 l k + b1 l (k + 1) := by
  have e : (l.drop k).take 2 = [l.getD k 0, l.getD (k + 1) 0] := by
    have a0 : l.getD k 0 = l[k] := by simp [List.getD, show k < l.length by omega]
    have a1 : l.getD (k + 1) 0 = l[k + 1] := by simp [List.getD, show k + 1 < l.length by omega]
    have a2 : l.drop k = l[k] :: l[k + 1] :: l.drop (k + 2) := by rw [List.drop_eq_getElem_cons (show k < l.length by omega), List.drop_eq_getElem_cons (show k + 1 < l.length by omega)]
    rw [a0, a1, a2]; rfl
  unfold w2 b1
  rw [e, nbI_nat _ (by simp)]
  simp only [nbN]
  omega
set_option maxHeartbeats 16000000 in
set_option maxRecDepth 20000 in
theorem ParseR_ps (gl : Nat → AV) (l : List UInt8) (hl : l.length ≤ 140737488351232) : PS Try.prog gl 17 [.str l] (parseT l) := by
  refine ft_rParse.ps (of_decide_eq_true rfl) (parse_nm l) fun c hN hg => ?_
  unfold T_rParse
  have c0 := b1_bd l 0
  have c1 := b1_bd l 1
  have c6 := b1_bd l 6
  have c7 := b1_bd l 7
  have c8 := b1_bd l 8
  have c9 := b1_bd l 9
  by_cases h1 : l.length < 20
  · have d1 : decide ((l.length : Int) < 20) = true := by simp; omega
    (have zf1 := @d1; refine XG ?_; clear zf1; ((try (repeat' with_reducible refine And.intro ?_ ?_)); (try any_goals (first | refine zm ?_ | exact CL | fail))))
    ((first | apply pr_skip | apply prD_skip) <;> (have zf1 := @d1; refine XG ?_; clear zf1; first | exact rfl | exact True.intro | ((try (repeat' with_reducible refine And.intro ?_ ?_)); (try any_goals (first | refine zm ?_ | exact CL | fail)))))
    (refine xw_ifp (fun g1 => ?_) (fun g1 => ?_) <;> try exact g1.elim)
    rw [parse_bad (rd1 (.inl h1)) (by decide)]
    (have zf1 := @pk0.eq_1; have zf2 := @Pk.enc.eq_1; have zf3 := @b1_fold; refine XG ?_; clear zf1 zf2 zf3; ((try (repeat' with_reducible refine And.intro ?_ ?_)); (try any_goals (first | refine zm ?_ | exact CL | fail))))
  have d1 : decide ((l.length : Int) < 20) = false := by simp; omega
  have w6 : w2 l 6 = 256 * b1 l 6 + b1 l 7 := w2_b1 l 6 (by omega)
  by_cases h2 : b1 l 0 = 69
  rotate_left
  · have h2b : (b1 l 0 != 69) = true := by simp [h2]
    (have zf1 := @b1_fold; have zf2 := @h2b; have zf3 := @d1; refine XG ?_; clear zf1 zf2 zf3; ((try (repeat' with_reducible refine And.intro ?_ ?_)); (try any_goals (first | refine zm ?_ | exact CL | fail))))
    ((first | apply pr_skip | apply prD_skip) <;> (have zf1 := @d1; refine XG ?_; clear zf1; first | exact rfl | exact True.intro | ((try (repeat' with_reducible refine And.intro ?_ ?_)); (try any_goals (first | refine zm ?_ | exact CL | fail)))))
    (refine xw_ifp (fun g1 => ?_) (fun g1 => ?_) <;> try exact g1.elim)
    rw [parse_bad (rd1 (.inr (.inl h2))) (by decide)]
    (have zf1 := @pk0.eq_1; have zf2 := @Pk.enc.eq_1; have zf3 := @b1_fold; refine XG ?_; clear zf1 zf2 zf3; ((try (repeat' with_reducible refine And.intro ?_ ?_)); (try any_goals (first | refine zm ?_ | exact CL | fail))))
  (have zf1 := @b1_fold; have zf2 := @h2; have zf3 := @d1; refine XG ?_; clear zf1 zf2 zf3; ((try (repeat' with_reducible refine And.intro ?_ ?_)); (try any_goals (first | refine zm ?_ | exact CL | fail))))
  ((first | apply pr_psv | apply prD_psv | apply pr_qrunv | apply prD_qrunv) <;> (first | exact (nr2 _ l 2) | (have zf1 := @b1_fold; have zf2 := @h2; refine XG ?_; clear zf1 zf2; first | exact rfl | exact True.intro | ((try (repeat' with_reducible refine And.intro ?_ ?_)); (try any_goals (first | refine zm ?_ | exact CL | fail))))))
  (refine xw_ifp (fun h3 => ?_) (fun h3 => ?_) <;> try exact h3.elim)
  · rw [parse_bad (rd1 (.inr (.inr h3))) (by decide)]
    (have zf1 := @pk0.eq_1; have zf2 := @Pk.enc.eq_1; have zf3 := @b1_fold; refine XG ?_; clear zf1 zf2 zf3; ((try (repeat' with_reducible refine And.intro ?_ ?_)); (try any_goals (first | refine zm ?_ | exact CL | fail))))
  have k1 : ¬ G1 l := by unfold G1; omega
  (refine XG ?_; ((try (repeat' with_reducible refine And.intro ?_ ?_)); (try any_goals (first | refine zm ?_ | exact CL | fail))))
  ((first | apply pr_psv | apply prD_psv | apply pr_qrunv | apply prD_qrunv) <;> (first | exact (SumOf_ps _ (l.take 20) (by rw [List.length_take]; omega)) | (refine XG ?_; first | exact rfl | exact True.intro | ((try (repeat' with_reducible refine And.intro ?_ ?_)); (try any_goals (first | refine zm ?_ | exact CL | fail))))))
  (refine xw_ifp (fun h4 => ?_) (fun h4 => ?_) <;> try exact h4.elim)
  · rw [parse_bad (rd2 k1 (by unfold G2; omega)) (by decide)]
    (have zf1 := @pk0.eq_1; have zf2 := @Pk.enc.eq_1; have zf3 := @b1_fold; refine XG ?_; clear zf1 zf2 zf3; ((try (repeat' with_reducible refine And.intro ?_ ?_)); (try any_goals (first | refine zm ?_ | exact CL | fail))))
  have k2 : ¬ G2 l := by unfold G2; omega
  (have zf1 := @b1_fold; refine XG ?_; clear zf1; ((try (repeat' with_reducible refine And.intro ?_ ?_)); (try any_goals (first | refine zm ?_ | exact CL | fail))))
  (refine xw_ifp (fun h6 => ?_) (fun h6 => ?_) <;> try exact h6.elim)
  · rw [parse_bad (rd3 k1 k2 (by unfold G3; omega)) (by decide)]
    (have zf1 := @pk0.eq_1; have zf2 := @Pk.enc.eq_1; have zf3 := @b1_fold; refine XG ?_; clear zf1 zf2 zf3; ((try (repeat' with_reducible refine And.intro ?_ ?_)); (try any_goals (first | refine zm ?_ | exact CL | fail))))
  have k3 : ¬ G3 l := by unfold G3; omega
  (have zf1 := @b1_fold; refine XG ?_; clear zf1; ((try (repeat' with_reducible refine And.intro ?_ ?_)); (try any_goals (first | refine zm ?_ | exact CL | fail))))
  (refine xw_ifp (fun h7 => ?_) (fun h7 => ?_) <;> try exact h7.elim)
  · rw [parse_bad (rd4 k1 k2 k3 h7) (by decide)]
    (have zf1 := @pk0.eq_1; have zf2 := @Pk.enc.eq_1; have zf3 := @b1_fold; refine XG ?_; clear zf1 zf2 zf3; ((try (repeat' with_reducible refine And.intro ?_ ?_)); (try any_goals (first | refine zm ?_ | exact CL | fail))))
  have K : H4 l := ⟨k1, k2, k3, h7⟩
  clear k1 k2 k3
  have e4 : 0 ≤ w4 l 12 ∧ w4 l 12 ≤ 4294967295 := w4_bd _ _ (by omega)
  have e5 : 0 ≤ w4 l 16 ∧ w4 l 16 ≤ 4294967295 := w4_bd _ _ (by omega)
  have hw3 : w2 l 2 ≤ 65535 := (w2_bd l 2 (by omega)).2
  (have zf1 := @b1_fold; refine XG ?_; clear zf1; ((try (repeat' with_reducible refine And.intro ?_ ?_)); (try any_goals (first | refine zm ?_ | exact CL | fail))))
  ((first | apply pr_psv | apply prD_psv | apply pr_qrunv | apply prD_qrunv) <;> (first | exact (nr2 _ l 4) | (have zf1 := @b1_fold; refine XG ?_; clear zf1; first | exact rfl | exact True.intro | ((try (repeat' with_reducible refine And.intro ?_ ?_)); (try any_goals (first | refine zm ?_ | exact CL | fail))))))
  ((first | apply pr_psv | apply prD_psv | apply pr_qrunv | apply prD_qrunv) <;> (first | exact (nr4 _ l 12) | (have zf1 := @b1_fold; refine XG ?_; clear zf1; first | exact rfl | exact True.intro | ((try (repeat' with_reducible refine And.intro ?_ ?_)); (try any_goals (first | refine zm ?_ | exact CL | fail))))))
  ((first | apply pr_psv | apply prD_psv | apply pr_qrunv | apply prD_qrunv) <;> (first | exact (nr4 _ l 16) | (have zf1 := @b1_fold; refine XG ?_; clear zf1; first | exact rfl | exact True.intro | ((try (repeat' with_reducible refine And.intro ?_ ?_)); (try any_goals (first | refine zm ?_ | exact CL | fail))))))
  by_cases h8 : b1 l 9 = 1 ∨ b1 l 9 = 6 ∨ b1 l 9 = 17
  rotate_left
  · (refine xw_ifp (fun g1 => ?_) (fun g1 => ?_) <;> try exact g1.elim)
    · omega
    (refine XG ?_; ((try (repeat' with_reducible refine And.intro ?_ ?_)); (try any_goals (first | refine zm ?_ | exact CL | fail))))
    (refine xw_ifp (fun g2 => ?_) (fun g2 => ?_) <;> try exact g2.elim)
    · omega
    (refine XG ?_; ((try (repeat' with_reducible refine And.intro ?_ ?_)); (try any_goals (first | refine zm ?_ | exact CL | fail))))
    (refine xw_ifp (fun g3 => ?_) (fun g3 => ?_) <;> try exact g3.elim)
    · omega
    rw [parse_bad (rd5 K h8) (by decide)]
    (have zf1 := @pk0.eq_1; have zf2 := @Pk.enc.eq_1; have zf3 := @b1_fold; refine XG ?_; clear zf1 zf2 zf3; ((try (repeat' with_reducible refine And.intro ?_ ?_)); (try any_goals (first | refine zm ?_ | exact CL | fail))))
  have k5 : ¬ G5 l := fun h => h h8
  generalize hs : l.drop 20 = s
  have hsl : s.length = l.length - 20 := by rw [← hs, List.length_drop]
  have f0 := b1_bd s 0
  have f1 := b1_bd s 1
  have f6 := b1_bd s 6
  have f7 := b1_bd s 7
  have f12 := b1_bd s 12
  have f13 := b1_bd s 13
  have f18 := b1_bd s 18
  have f19 := b1_bd s 19
  rcases h8 with h9 | h9 | h9
  · have hah := ahead_ps c.gl (w4 l 12) (w4 l 16) 1 s.length (by omega) (by omega) (by omega) (by omega)
    have hpl : (preB 1 (w4 l 12) (w4 l 16) s.length).length ≤ 12 := by unfold preB; split <;> simp [be_len]
    have hO := SumOf_ps c.gl (preB 1 (w4 l 12) (w4 l 16) s.length ++ s) (by rw [List.length_append]; omega)
    have hG7 : G7 l ↔ ofN (preB 1 (w4 l 12) (w4 l 16) s.length ++ s) ≠ 65535 := by unfold G7; rw [hs, h9]; simp
    generalize ofN (preB 1 (w4 l 12) (w4 l 16) s.length ++ s) = O at *
    generalize preB 1 (w4 l 12) (w4 l 16) s.length = pre at *
    rw [h9]
    (refine xw_ifp (fun g1 => ?_) (fun g1 => ?_) <;> try exact g1.elim)
    (have zf1 := @hs; refine XG ?_; clear zf1; ((try (repeat' with_reducible refine And.intro ?_ ?_)); (try any_goals (first | refine zm ?_ | exact CL | fail))))
    (refine xw_ifp (fun g2 => ?_) (fun g2 => ?_) <;> try exact g2.elim)
    (have zf1 := @hs; refine XG ?_; clear zf1; ((try (repeat' with_reducible refine And.intro ?_ ?_)); (try any_goals (first | refine zm ?_ | exact CL | fail))))
    (refine xw_ifp (fun g3 => ?_) (fun g3 => ?_) <;> try exact g3.elim)
    (have zf1 := @hs; refine XG ?_; clear zf1; ((try (repeat' with_reducible refine And.intro ?_ ?_)); (try any_goals (first | refine zm ?_ | exact CL | fail))))
    (refine xw_ifp (fun h10 => ?_) (fun h10 => ?_) <;> try exact h10.elim)
    · rw [parse_bad (rd6 K k5 (by unfold G6; rw [hs, h9]; simp; omega)) (by decide)]
      (have zf1 := @pk0.eq_1; have zf2 := @Pk.enc.eq_1; have zf3 := @b1_fold; refine XG ?_; clear zf1 zf2 zf3; ((try (repeat' with_reducible refine And.intro ?_ ?_)); (try any_goals (first | refine zm ?_ | exact CL | fail))))
    have K6 : H6 l := ⟨K, k5, by unfold G6; rw [hs, h9]; simp; omega⟩
    clear K k5
    (refine XG ?_; ((try (repeat' with_reducible refine And.intro ?_ ?_)); (try any_goals (first | refine zm ?_ | exact CL | fail))))
    ((first | apply pr_psv | apply prD_psv | apply pr_qrunv | apply prD_qrunv) <;> (first | exact hah | (have zf1 := @hs; refine XG ?_; clear zf1; first | exact rfl | exact True.intro | ((try (repeat' with_reducible refine And.intro ?_ ?_)); (try any_goals (first | refine zm ?_ | exact CL | fail))))))
    ((first | apply pr_psv | apply prD_psv | apply pr_qrunv | apply prD_qrunv) <;> (first | exact hO | (have zf1 := @b1_fold; refine XG ?_; clear zf1; first | exact rfl | exact True.intro | ((try (repeat' with_reducible refine And.intro ?_ ?_)); (try any_goals (first | refine zm ?_ | exact CL | fail))))))
    (refine xw_ifp (fun h11 => ?_) (fun h11 => ?_) <;> try exact h11.elim)
    · rw [parse_bad (rd7 K6 (hG7.2 (by omega))) (by decide)]
      (have zf1 := @pk0.eq_1; have zf2 := @Pk.enc.eq_1; have zf3 := @b1_fold; refine XG ?_; clear zf1 zf2 zf3; ((try (repeat' with_reducible refine And.intro ?_ ?_)); (try any_goals (first | refine zm ?_ | exact CL | fail))))
    have k7 : ¬ G7 l := fun h => by have := hG7.1 h; omega
    have k9 : ¬ G9 l := fun h => by have := h.1; omega
    have k10 : ¬ G10 l := fun h => by have := h.1; omega
    have hG8 : G8 l ↔ (b1 s 0 ≠ 8 ∧ b1 s 0 ≠ 0) ∨ b1 s 1 ≠ 0 := by unfold G8; rw [hs, h9]; simp
    (have zf1 := @b1_fold; refine XG ?_; clear zf1; ((try (repeat' with_reducible refine And.intro ?_ ?_)); (try any_goals (first | refine zm ?_ | exact CL | fail))))
    (refine xw_ifp (fun g4 => ?_) (fun g4 => ?_) <;> try exact g4.elim)
    (have zf1 := @b1_fold; refine XG ?_; clear zf1; ((try (repeat' with_reducible refine And.intro ?_ ?_)); (try any_goals (first | refine zm ?_ | exact CL | fail))))
    (refine xw_ifp (fun h12 => ?_) (fun h12 => ?_) <;> try exact h12.elim)
    · rw [parse_bad (rd8 K6 k7 (hG8.2 (by omega))) (by decide)]
      (have zf1 := @pk0.eq_1; have zf2 := @Pk.enc.eq_1; have zf3 := @b1_fold; refine XG ?_; clear zf1 zf2 zf3; ((try (repeat' with_reducible refine And.intro ?_ ?_)); (try any_goals (first | refine zm ?_ | exact CL | fail))))
    have k8 : ¬ G8 l := fun h => by have := hG8.1 h; omega
    (have zf1 := @b1_fold; refine XG ?_; clear zf1; ((try (repeat' with_reducible refine And.intro ?_ ?_)); (try any_goals (first | refine zm ?_ | exact CL | fail))))
    ((first | apply pr_psv | apply prD_psv | apply pr_qrunv | apply prD_qrunv) <;> (first | exact (nr2 _ s 6) | (have zf1 := @b1_fold; refine XG ?_; clear zf1; first | exact rfl | exact True.intro | ((try (repeat' with_reducible refine And.intro ?_ ?_)); (try any_goals (first | refine zm ?_ | exact CL | fail))))))
    (refine xw_ifp (fun f8 => ?_) (fun f8 => ?_) <;> try exact f8.elim)
    · rw [f8]
      (have zf1 := @b1_fold; have zf2 := @f8; refine XG ?_; clear zf1 zf2; ((try (repeat' with_reducible refine And.intro ?_ ?_)); (try any_goals (first | refine zm ?_ | exact CL | fail))))
      ((first | apply pr_psv | apply prD_psv | apply pr_qrunv | apply prD_qrunv) <;> (first | exact (nr2 _ s 4) | (have zf1 := @b1_fold; refine XG ?_; clear zf1; first | exact rfl | exact True.intro | ((try (repeat' with_reducible refine And.intro ?_ ?_)); (try any_goals (first | refine zm ?_ | exact CL | fail))))))
      have hP : rdK l = (⟨1, w4 l 12, w2 s 4, w4 l 16, 0, b1 l 8, w2 l 4, 8, w2 s 6, 0, 0, s.drop 8⟩ : Pk) := by unfold rdK rdH; simp only [hs, h9, reduceCtorEq, Int.reduceEq, if_true, if_false, ↓reduceIte, f8]
      have hG := rGood_ps c.gl (⟨1, w4 l 12, w2 s 4, w4 l 16, 0, b1 l 8, w2 l 4, 8, w2 s 6, 0, 0, s.drop 8⟩ : Pk) ⟨by dsimp only; omega, by dsimp only; omega⟩
      have hE := rd11 K6 k7 k8 k9 k10
      rw [hP] at hE
      unfold Pk.enc at hG
      dsimp only at hG
      rw [parse_any _ hE hP]
      generalize pkErr (⟨1, w4 l 12, w2 s 4, w4 l 16, 0, b1 l 8, w2 l 4, 8, w2 s 6, 0, 0, s.drop 8⟩ : Pk) = E at *
      clear hP hE
      unfold Pk.enc pk0
      (have zf1 := @b1_fold; refine XG ?_; clear zf1; ((try (repeat' with_reducible refine And.intro ?_ ?_)); (try any_goals (first | refine zm ?_ | exact CL | fail))))
      ((first | apply pr_psv | apply prD_psv | apply pr_qrunv | apply prD_qrunv) <;> (first | exact hG | (have zf1 := @b1_fold; refine XG ?_; clear zf1; first | exact rfl | exact True.intro | ((try (repeat' with_reducible refine And.intro ?_ ?_)); (try any_goals (first | refine zm ?_ | exact CL | fail))))))
      (refine xw_ifp (fun g9 => ?_) (fun g9 => ?_) <;> try exact g9.elim)
      · rw [if_neg g9]
        (have zf1 := @b1_fold; refine XG ?_; clear zf1; ((try (repeat' with_reducible refine And.intro ?_ ?_)); (try any_goals (first | refine zm ?_ | exact CL | fail))))
      · rw [if_pos g9]
        subst g9
        (have zf1 := @b1_fold; refine XG ?_; clear zf1; ((try (repeat' with_reducible refine And.intro ?_ ?_)); (try any_goals (first | refine zm ?_ | exact CL | fail))))
    · (have zf1 := @b1_fold; refine XG ?_; clear zf1; ((try (repeat' with_reducible refine And.intro ?_ ?_)); (try any_goals (first | refine zm ?_ | exact CL | fail))))
      ((first | apply pr_psv | apply prD_psv | apply pr_qrunv | apply prD_qrunv) <;> (first | exact (nr2 _ s 4) | (have zf1 := @b1_fold; refine XG ?_; clear zf1; first | exact rfl | exact True.intro | ((try (repeat' with_reducible refine And.intro ?_ ?_)); (try any_goals (first | refine zm ?_ | exact CL | fail))))))
      have hP : rdK l = (⟨1, w4 l 12, 0, w4 l 16, w2 s 4, b1 l 8, w2 l 4, b1 s 0, w2 s 6, 0, 0, s.drop 8⟩ : Pk) := by unfold rdK rdH; simp only [hs, h9, reduceCtorEq, Int.reduceEq, if_true, if_false, ↓reduceIte, f8]
      have hG := rGood_ps c.gl (⟨1, w4 l 12, 0, w4 l 16, w2 s 4, b1 l 8, w2 l 4, b1 s 0, w2 s 6, 0, 0, s.drop 8⟩ : Pk) ⟨by dsimp only; omega, by dsimp only; omega⟩
      have hE := rd11 K6 k7 k8 k9 k10
      rw [hP] at hE
      unfold Pk.enc at hG
      dsimp only at hG
      rw [parse_any _ hE hP]
      generalize pkErr (⟨1, w4 l 12, 0, w4 l 16, w2 s 4, b1 l 8, w2 l 4, b1 s 0, w2 s 6, 0, 0, s.drop 8⟩ : Pk) = E at *
      clear hP hE
      unfold Pk.enc pk0
      (have zf1 := @b1_fold; refine XG ?_; clear zf1; ((try (repeat' with_reducible refine And.intro ?_ ?_)); (try any_goals (first | refine zm ?_ | exact CL | fail))))
      ((first | apply pr_psv | apply prD_psv | apply pr_qrunv | apply prD_qrunv) <;> (first | exact hG | (have zf1 := @b1_fold; refine XG ?_; clear zf1; first | exact rfl | exact True.intro | ((try (repeat' with_reducible refine And.intro ?_ ?_)); (try any_goals (first | refine zm ?_ | exact CL | fail))))))
      (refine xw_ifp (fun g9 => ?_) (fun g9 => ?_) <;> try exact g9.elim)
      · rw [if_neg g9]
        (have zf1 := @b1_fold; refine XG ?_; clear zf1; ((try (repeat' with_reducible refine And.intro ?_ ?_)); (try any_goals (first | refine zm ?_ | exact CL | fail))))
      · rw [if_pos g9]
        subst g9
        (have zf1 := @b1_fold; refine XG ?_; clear zf1; ((try (repeat' with_reducible refine And.intro ?_ ?_)); (try any_goals (first | refine zm ?_ | exact CL | fail))))
  · have hah := ahead_ps c.gl (w4 l 12) (w4 l 16) 6 s.length (by omega) (by omega) (by omega) (by omega)
    have hpl : (preB 6 (w4 l 12) (w4 l 16) s.length).length ≤ 12 := by unfold preB; split <;> simp [be_len]
    have hO := SumOf_ps c.gl (preB 6 (w4 l 12) (w4 l 16) s.length ++ s) (by rw [List.length_append]; omega)
    have hG7 : G7 l ↔ ofN (preB 6 (w4 l 12) (w4 l 16) s.length ++ s) ≠ 65535 := by unfold G7; rw [hs, h9]; simp
    generalize ofN (preB 6 (w4 l 12) (w4 l 16) s.length ++ s) = O at *
    generalize preB 6 (w4 l 12) (w4 l 16) s.length = pre at *
    rw [h9]
    (refine xw_ifp (fun g1 => ?_) (fun g1 => ?_) <;> try exact g1.elim)
    (have zf1 := @hs; refine XG ?_; clear zf1; ((try (repeat' with_reducible refine And.intro ?_ ?_)); (try any_goals (first | refine zm ?_ | exact CL | fail))))
    (refine xw_ifp (fun h10 => ?_) (fun h10 => ?_) <;> try exact h10.elim)
    · rw [parse_bad (rd6 K k5 (by unfold G6; rw [hs, h9]; simp; omega)) (by decide)]
      (have zf1 := @pk0.eq_1; have zf2 := @Pk.enc.eq_1; have zf3 := @b1_fold; refine XG ?_; clear zf1 zf2 zf3; ((try (repeat' with_reducible refine And.intro ?_ ?_)); (try any_goals (first | refine zm ?_ | exact CL | fail))))
    have K6 : H6 l := ⟨K, k5, by unfold G6; rw [hs, h9]; simp; omega⟩
    clear K k5
    (refine XG ?_; ((try (repeat' with_reducible refine And.intro ?_ ?_)); (try any_goals (first | refine zm ?_ | exact CL | fail))))
    ((first | apply pr_psv | apply prD_psv | apply pr_qrunv | apply prD_qrunv) <;> (first | exact hah | (have zf1 := @hs; refine XG ?_; clear zf1; first | exact rfl | exact True.intro | ((try (repeat' with_reducible refine And.intro ?_ ?_)); (try any_goals (first | refine zm ?_ | exact CL | fail))))))
    ((first | apply pr_psv | apply prD_psv | apply pr_qrunv | apply prD_qrunv) <;> (first | exact hO | (have zf1 := @b1_fold; refine XG ?_; clear zf1; first | exact rfl | exact True.intro | ((try (repeat' with_reducible refine And.intro ?_ ?_)); (try any_goals (first | refine zm ?_ | exact CL | fail))))))
    (refine xw_ifp (fun h11 => ?_) (fun h11 => ?_) <;> try exact h11.elim)
    · rw [parse_bad (rd7 K6 (hG7.2 (by omega))) (by decide)]
      (have zf1 := @pk0.eq_1; have zf2 := @Pk.enc.eq_1; have zf3 := @b1_fold; refine XG ?_; clear zf1 zf2 zf3; ((try (repeat' with_reducible refine And.intro ?_ ?_)); (try any_goals (first | refine zm ?_ | exact CL | fail))))
    have k7 : ¬ G7 l := fun h => by have := hG7.1 h; omega
    have k8 : ¬ G8 l := fun h => by have := h.1; omega
    have k9 : ¬ G9 l := fun h => by have := h.1; omega
    have w18 : w2 s 18 = 256 * b1 s 18 + b1 s 19 := w2_b1 s 18 (by omega)
    have hG10 : G10 l ↔ b1 s 12 ≠ 80 ∨ 63 < b1 s 13 ∨ w2 s 18 ≠ 0 := by unfold G10; rw [hs, h9]; simp
    (have zf1 := @b1_fold; refine XG ?_; clear zf1; ((try (repeat' with_reducible refine And.intro ?_ ?_)); (try any_goals (first | refine zm ?_ | exact CL | fail))))
    (refine xw_ifp (fun g4 => ?_) (fun g4 => ?_) <;> try exact g4.elim)
    (have zf1 := @b1_fold; refine XG ?_; clear zf1; ((try (repeat' with_reducible refine And.intro ?_ ?_)); (try any_goals (first | refine zm ?_ | exact CL | fail))))
    (refine xw_ifp (fun g5 => ?_) (fun g5 => ?_) <;> try exact g5.elim)
    (have zf1 := @b1_fold; refine XG ?_; clear zf1; ((try (repeat' with_reducible refine And.intro ?_ ?_)); (try any_goals (first | refine zm ?_ | exact CL | fail))))
    (refine xw_ifp (fun h13 => ?_) (fun h13 => ?_) <;> try exact h13.elim)
    · rw [parse_bad (rd10 K6 k7 k8 k9 (hG10.2 (by omega))) (by decide)]
      (have zf1 := @pk0.eq_1; have zf2 := @Pk.enc.eq_1; have zf3 := @b1_fold; refine XG ?_; clear zf1 zf2 zf3; ((try (repeat' with_reducible refine And.intro ?_ ?_)); (try any_goals (first | refine zm ?_ | exact CL | fail))))
    have k10 : ¬ G10 l := fun h => by have := hG10.1 h; omega
    (have zf1 := @b1_fold; refine XG ?_; clear zf1; ((try (repeat' with_reducible refine And.intro ?_ ?_)); (try any_goals (first | refine zm ?_ | exact CL | fail))))
    ((first | apply pr_psv | apply prD_psv | apply pr_qrunv | apply prD_qrunv) <;> (first | exact (nr2 _ s 0) | (have zf1 := @b1_fold; have zf2 := @List.drop_zero.{0}; refine XG ?_; clear zf1 zf2; first | exact rfl | exact True.intro | ((try (repeat' with_reducible refine And.intro ?_ ?_)); (try any_goals (first | refine zm ?_ | exact CL | fail))))))
    ((first | apply pr_psv | apply prD_psv | apply pr_qrunv | apply prD_qrunv) <;> (first | exact (nr2 _ s 2) | (have zf1 := @b1_fold; refine XG ?_; clear zf1; first | exact rfl | exact True.intro | ((try (repeat' with_reducible refine And.intro ?_ ?_)); (try any_goals (first | refine zm ?_ | exact CL | fail))))))
    ((first | apply pr_psv | apply prD_psv | apply pr_qrunv | apply prD_qrunv) <;> (first | exact (nr4 _ s 4) | (have zf1 := @b1_fold; refine XG ?_; clear zf1; first | exact rfl | exact True.intro | ((try (repeat' with_reducible refine And.intro ?_ ?_)); (try any_goals (first | refine zm ?_ | exact CL | fail))))))
    ((first | apply pr_psv | apply prD_psv | apply pr_qrunv | apply prD_qrunv) <;> (first | exact (nr4 _ s 8) | (have zf1 := @b1_fold; refine XG ?_; clear zf1; first | exact rfl | exact True.intro | ((try (repeat' with_reducible refine And.intro ?_ ?_)); (try any_goals (first | refine zm ?_ | exact CL | fail))))))
    ((first | apply pr_psv | apply prD_psv | apply pr_qrunv | apply prD_qrunv) <;> (first | exact (nr2 _ s 14) | (have zf1 := @b1_fold; refine XG ?_; clear zf1; first | exact rfl | exact True.intro | ((try (repeat' with_reducible refine And.intro ?_ ?_)); (try any_goals (first | refine zm ?_ | exact CL | fail))))))
    have hP : rdK l = (⟨6, w4 l 12, w2 s 0, w4 l 16, w2 s 2, b1 l 8, w2 l 4, b1 s 13, w4 s 4, w4 s 8, w2 s 14, s.drop 20⟩ : Pk) := by unfold rdK rdH; simp only [hs, h9, reduceCtorEq, Int.reduceEq, if_true, if_false, ↓reduceIte]
    have hG := rGood_ps c.gl (⟨6, w4 l 12, w2 s 0, w4 l 16, w2 s 2, b1 l 8, w2 l 4, b1 s 13, w4 s 4, w4 s 8, w2 s 14, s.drop 20⟩ : Pk) ⟨by dsimp only; omega, by dsimp only; omega⟩
    have hE := rd11 K6 k7 k8 k9 k10
    rw [hP] at hE
    unfold Pk.enc at hG
    dsimp only at hG
    rw [parse_any _ hE hP]
    generalize pkErr (⟨6, w4 l 12, w2 s 0, w4 l 16, w2 s 2, b1 l 8, w2 l 4, b1 s 13, w4 s 4, w4 s 8, w2 s 14, s.drop 20⟩ : Pk) = E at *
    clear hP hE
    unfold Pk.enc pk0
    (have zf1 := @b1_fold; refine XG ?_; clear zf1; ((try (repeat' with_reducible refine And.intro ?_ ?_)); (try any_goals (first | refine zm ?_ | exact CL | fail))))
    ((first | apply pr_psv | apply prD_psv | apply pr_qrunv | apply prD_qrunv) <;> (first | exact hG | (have zf1 := @b1_fold; refine XG ?_; clear zf1; first | exact rfl | exact True.intro | ((try (repeat' with_reducible refine And.intro ?_ ?_)); (try any_goals (first | refine zm ?_ | exact CL | fail))))))
    (refine xw_ifp (fun g9 => ?_) (fun g9 => ?_) <;> try exact g9.elim)
    · rw [if_neg g9]
      (have zf1 := @b1_fold; refine XG ?_; clear zf1; ((try (repeat' with_reducible refine And.intro ?_ ?_)); (try any_goals (first | refine zm ?_ | exact CL | fail))))
    · rw [if_pos g9]
      subst g9
      (have zf1 := @b1_fold; refine XG ?_; clear zf1; ((try (repeat' with_reducible refine And.intro ?_ ?_)); (try any_goals (first | refine zm ?_ | exact CL | fail))))
  · have hah := ahead_ps c.gl (w4 l 12) (w4 l 16) 17 s.length (by omega) (by omega) (by omega) (by omega)
    have hpl : (preB 17 (w4 l 12) (w4 l 16) s.length).length ≤ 12 := by unfold preB; split <;> simp [be_len]
    have hO := SumOf_ps c.gl (preB 17 (w4 l 12) (w4 l 16) s.length ++ s) (by rw [List.length_append]; omega)
    have hG7 : G7 l ↔ ofN (preB 17 (w4 l 12) (w4 l 16) s.length ++ s) ≠ 65535 ∨ w2 s 6 = 0 := by unfold G7; rw [hs, h9]; simp
    generalize ofN (preB 17 (w4 l 12) (w4 l 16) s.length ++ s) = O at *
    generalize preB 17 (w4 l 12) (w4 l 16) s.length = pre at *
    rw [h9]
    (refine xw_ifp (fun g1 => ?_) (fun g1 => ?_) <;> try exact g1.elim)
    (have zf1 := @hs; refine XG ?_; clear zf1; ((try (repeat' with_reducible refine And.intro ?_ ?_)); (try any_goals (first | refine zm ?_ | exact CL | fail))))
    (refine xw_ifp (fun g2 => ?_) (fun g2 => ?_) <;> try exact g2.elim)
    (have zf1 := @hs; refine XG ?_; clear zf1; ((try (repeat' with_reducible refine And.intro ?_ ?_)); (try any_goals (first | refine zm ?_ | exact CL | fail))))
    (refine xw_ifp (fun g3 => ?_) (fun g3 => ?_) <;> try exact g3.elim)
    (have zf1 := @hs; refine XG ?_; clear zf1; ((try (repeat' with_reducible refine And.intro ?_ ?_)); (try any_goals (first | refine zm ?_ | exact CL | fail))))
    (refine xw_ifp (fun h10 => ?_) (fun h10 => ?_) <;> try exact h10.elim)
    · rw [parse_bad (rd6 K k5 (by unfold G6; rw [hs, h9]; simp; omega)) (by decide)]
      (have zf1 := @pk0.eq_1; have zf2 := @Pk.enc.eq_1; have zf3 := @b1_fold; refine XG ?_; clear zf1 zf2 zf3; ((try (repeat' with_reducible refine And.intro ?_ ?_)); (try any_goals (first | refine zm ?_ | exact CL | fail))))
    have K6 : H6 l := ⟨K, k5, by unfold G6; rw [hs, h9]; simp; omega⟩
    clear K k5
    (refine XG ?_; ((try (repeat' with_reducible refine And.intro ?_ ?_)); (try any_goals (first | refine zm ?_ | exact CL | fail))))
    ((first | apply pr_psv | apply prD_psv | apply pr_qrunv | apply prD_qrunv) <;> (first | exact hah | (have zf1 := @hs; refine XG ?_; clear zf1; first | exact rfl | exact True.intro | ((try (repeat' with_reducible refine And.intro ?_ ?_)); (try any_goals (first | refine zm ?_ | exact CL | fail))))))
    ((first | apply pr_psv | apply prD_psv | apply pr_qrunv | apply prD_qrunv) <;> (first | exact hO | (have zf1 := @b1_fold; refine XG ?_; clear zf1; first | exact rfl | exact True.intro | ((try (repeat' with_reducible refine And.intro ?_ ?_)); (try any_goals (first | refine zm ?_ | exact CL | fail))))))
    (refine xw_ifp (fun h11 => ?_) (fun h11 => ?_) <;> try exact h11.elim)
    · have w6s : w2 s 6 = 256 * b1 s 6 + b1 s 7 := w2_b1 s 6 (by omega)
      rw [parse_bad (rd7 K6 (hG7.2 (by omega))) (by decide)]
      (have zf1 := @pk0.eq_1; have zf2 := @Pk.enc.eq_1; have zf3 := @b1_fold; refine XG ?_; clear zf1 zf2 zf3; ((try (repeat' with_reducible refine And.intro ?_ ?_)); (try any_goals (first | refine zm ?_ | exact CL | fail))))
    have w6s : w2 s 6 = 256 * b1 s 6 + b1 s 7 := w2_b1 s 6 (by omega)
    have k7 : ¬ G7 l := fun h => by have := hG7.1 h; omega
    have k8 : ¬ G8 l := fun h => by have := h.1; omega
    have k10 : ¬ G10 l := fun h => by have := h.1; omega
    have hG9 : G9 l ↔ w2 s 4 ≠ s.length := by unfold G9; rw [hs, h9]; simp
    (have zf1 := @b1_fold; refine XG ?_; clear zf1; ((try (repeat' with_reducible refine And.intro ?_ ?_)); (try any_goals (first | refine zm ?_ | exact CL | fail))))
    (refine xw_ifp (fun g4 => ?_) (fun g4 => ?_) <;> try exact g4.elim)
    (have zf1 := @b1_fold; refine XG ?_; clear zf1; ((try (repeat' with_reducible refine And.intro ?_ ?_)); (try any_goals (first | refine zm ?_ | exact CL | fail))))
    (refine xw_ifp (fun g5 => ?_) (fun g5 => ?_) <;> try exact g5.elim)
    (have zf1 := @b1_fold; refine XG ?_; clear zf1; ((try (repeat' with_reducible refine And.intro ?_ ?_)); (try any_goals (first | refine zm ?_ | exact CL | fail))))
    ((first | apply pr_psv | apply prD_psv | apply pr_qrunv | apply prD_qrunv) <;> (first | exact (nr2 _ s 4) | (have zf1 := @b1_fold; refine XG ?_; clear zf1; first | exact rfl | exact True.intro | ((try (repeat' with_reducible refine And.intro ?_ ?_)); (try any_goals (first | refine zm ?_ | exact CL | fail))))))
    (refine xw_ifp (fun h13 => ?_) (fun h13 => ?_) <;> try exact h13.elim)
    · rw [parse_bad (rd9 K6 k7 k8 (hG9.2 h13)) (by decide)]
      (have zf1 := @pk0.eq_1; have zf2 := @Pk.enc.eq_1; have zf3 := @b1_fold; refine XG ?_; clear zf1 zf2 zf3; ((try (repeat' with_reducible refine And.intro ?_ ?_)); (try any_goals (first | refine zm ?_ | exact CL | fail))))
    have k9 : ¬ G9 l := fun h => hG9.1 h h13
    (have zf1 := @b1_fold; refine XG ?_; clear zf1; ((try (repeat' with_reducible refine And.intro ?_ ?_)); (try any_goals (first | refine zm ?_ | exact CL | fail))))
    ((first | apply pr_psv | apply prD_psv | apply pr_qrunv | apply prD_qrunv) <;> (first | exact (nr2 _ s 0) | (have zf1 := @b1_fold; have zf2 := @List.drop_zero.{0}; refine XG ?_; clear zf1 zf2; first | exact rfl | exact True.intro | ((try (repeat' with_reducible refine And.intro ?_ ?_)); (try any_goals (first | refine zm ?_ | exact CL | fail))))))
    ((first | apply pr_psv | apply prD_psv | apply pr_qrunv | apply prD_qrunv) <;> (first | exact (nr2 _ s 2) | (have zf1 := @b1_fold; refine XG ?_; clear zf1; first | exact rfl | exact True.intro | ((try (repeat' with_reducible refine And.intro ?_ ?_)); (try any_goals (first | refine zm ?_ | exact CL | fail))))))
    have hP : rdK l = (⟨17, w4 l 12, w2 s 0, w4 l 16, w2 s 2, b1 l 8, w2 l 4, 0, 0, 0, 0, s.drop 8⟩ : Pk) := by unfold rdK rdH; simp only [hs, h9, reduceCtorEq, Int.reduceEq, if_true, if_false, ↓reduceIte]
    have hG := rGood_ps c.gl (⟨17, w4 l 12, w2 s 0, w4 l 16, w2 s 2, b1 l 8, w2 l 4, 0, 0, 0, 0, s.drop 8⟩ : Pk) ⟨by dsimp only; omega, by dsimp only; omega⟩
    have hE := rd11 K6 k7 k8 k9 k10
    rw [hP] at hE
    unfold Pk.enc at hG
    dsimp only at hG
    rw [parse_any _ hE hP]
    generalize pkErr (⟨17, w4 l 12, w2 s 0, w4 l 16, w2 s 2, b1 l 8, w2 l 4, 0, 0, 0, 0, s.drop 8⟩ : Pk) = E at *
    clear hP hE
    unfold Pk.enc pk0
    (have zf1 := @b1_fold; refine XG ?_; clear zf1; ((try (repeat' with_reducible refine And.intro ?_ ?_)); (try any_goals (first | refine zm ?_ | exact CL | fail))))
    ((first | apply pr_psv | apply prD_psv | apply pr_qrunv | apply prD_qrunv) <;> (first | exact hG | (have zf1 := @b1_fold; refine XG ?_; clear zf1; first | exact rfl | exact True.intro | ((try (repeat' with_reducible refine And.intro ?_ ?_)); (try any_goals (first | refine zm ?_ | exact CL | fail))))))
    (refine xw_ifp (fun g9 => ?_) (fun g9 => ?_) <;> try exact g9.elim)
    · rw [if_neg g9]
      (have zf1 := @b1_fold; refine XG ?_; clear zf1; ((try (repeat' with_reducible refine And.intro ?_ ?_)); (try any_goals (first | refine zm ?_ | exact CL | fail))))
    · rw [if_pos g9]
      subst g9
      (have zf1 := @b1_fold; refine XG ?_; clear zf1; ((try (repeat' with_reducible refine And.intro ?_ ?_)); (try any_goals (first | refine zm ?_ | exact CL | fail))))
end Go.Proofs.Ytblimjilinkmbaa
