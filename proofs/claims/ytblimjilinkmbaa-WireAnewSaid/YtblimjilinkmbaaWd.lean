/- What is wrong with a packet. No conditions. -/
import Derived.Test.YtblimjilinkmbaaWc
namespace Go.Proofs.Ytblimjilinkmbaa
set_option linter.all false
set_option linter.unusedSimpArgs false
open Go.RowKit

theorem in_ps (gl : Nat → AV) (n hi : Int) : PS Try.prog gl 34 [.int .i64 n, .int .i64 hi] (.bool (inW hi n)) := by
  refine ft_rIn.ps (of_decide_eq_true rfl) (by simp [nmOk]) fun c hN hg => ?_
  unfold T_rIn
  (refine XG ?_; ((try (repeat' with_reducible refine And.intro ?_ ?_)); (try any_goals (first | refine zm ?_ | exact CL | fail))))
  unfold inW
  simp
theorem long_iff (p : Pk) : [p.frm, p.dst, p.seq, p.ack].all (inW 4294967295) = true ↔ (0 ≤ p.frm ∧ p.frm ≤ 4294967295) ∧ (0 ≤ p.dst ∧ p.dst ≤ 4294967295) ∧ (0 ≤ p.seq ∧ p.seq ≤ 4294967295) ∧ (0 ≤ p.ack ∧ p.ack ≤ 4294967295) := by
  simp [inW]
theorem word_iff (p : Pk) : [p.sport, p.dport, p.id, p.win].all (inW 65535) = true ↔ (0 ≤ p.sport ∧ p.sport ≤ 65535) ∧ (0 ≤ p.dport ∧ p.dport ≤ 65535) ∧ (0 ≤ p.id ∧ p.id ≤ 65535) ∧ (0 ≤ p.win ∧ p.win ≤ 65535) := by
  simp [inW]
theorem range_iff (p : Pk) : pkRange p ↔ [p.frm, p.dst, p.seq, p.ack].all (inW 4294967295) = true ∧ [p.sport, p.dport, p.id, p.win].all (inW 65535) = true ∧ (1 ≤ p.ttl ∧ p.ttl ≤ 255) ∧ (0 ≤ p.flags ∧ p.flags ≤ 63) := by
  rw [long_iff, word_iff]; unfold pkRange
  constructor
  · rintro ⟨a, b, c, d, e, f, g, h, i, j⟩; exact ⟨⟨a, b, c, d⟩, ⟨e, f, g, h⟩, i, j⟩
  · rintro ⟨⟨a, b, c, d⟩, ⟨e, f, g, h⟩, i, j⟩; exact ⟨a, b, c, d, e, f, g, h, i, j⟩
theorem pk_kind {p : Pk} (h : ¬ (p.proto = 1 ∨ p.proto = 6 ∨ p.proto = 17)) : pkErr p = 4 := by unfold pkErr; rw [if_pos h]
theorem pk_range {p : Pk} (h : p.proto = 1 ∨ p.proto = 6 ∨ p.proto = 17) (h2 : ¬ pkRange p) : pkErr p = 2 := by unfold pkErr; rw [if_neg (fun x => x h), if_pos h2]
theorem pk_long {p : Pk} (h : p.proto = 1 ∨ p.proto = 6 ∨ p.proto = 17) (h2 : pkRange p) (h3 : 64 < p.body.length) : pkErr p = 5 := by unfold pkErr; rw [if_neg (fun x => x h), if_neg (fun x => x h2), if_pos h3]
theorem pk_form {p : Pk} (h : p.proto = 1 ∨ p.proto = 6 ∨ p.proto = 17) (h2 : pkRange p) (h3 : ¬ 64 < p.body.length) (h4 : pkForm p) : pkErr p = 1 := by unfold pkErr; rw [if_neg (fun x => x h), if_neg (fun x => x h2), if_neg h3, if_pos h4]
set_option maxHeartbeats 4000000 in
set_option maxRecDepth 20000 in
theorem wGood_ps (gl : Nat → AV) (p : Pk) : PS Try.prog gl 13 [.agg p.enc] (.int .i64 (pkErr p)) := by
  refine ft_wGood.ps (of_decide_eq_true rfl) (by simp [nmOk]) fun c hN hg => ?_
  unfold T_wGood Pk.enc
  have hR := range_iff p
  have hl := long_ps c.gl [p.frm, p.dst, p.seq, p.ack] (by simp)
  have hw := word_ps c.gl [p.sport, p.dport, p.id, p.win] (by simp)
  generalize hL : [p.frm, p.dst, p.seq, p.ack].all (inW 4294967295) = L at *
  generalize hW : [p.sport, p.dport, p.id, p.win].all (inW 65535) = W at *
  have k1 := @pk_kind p
  have k2 := @pk_range p
  have k3 := @pk_long p
  have k4 := @pk_form p
  have k5 := @pkErr_of p
  generalize pkErr p = E at *
  generalize hRp : pkRange p = RP at *
  unfold pkForm at k4 k5
  obtain ⟨proto, frm, sport, dst, dport, ttl, id, flags, seq, ack, win, body⟩ := p
  dsimp only at *
  (refine XG ?_; ((try (repeat' with_reducible refine And.intro ?_ ?_)); (try any_goals (first | refine zm ?_ | exact CL | fail))))
  (refine xw_ifp (fun h1 => ?_) (fun h1 => ?_) <;> try exact h1.elim)
  · (refine XG ?_; ((try (repeat' with_reducible refine And.intro ?_ ?_)); (try any_goals (first | refine zm ?_ | exact CL | fail))))
  have hp : proto = 1 ∨ proto = 6 ∨ proto = 17 := by omega
  have bad : ¬ RP → E = 2 := fun h => k2 hp h
  cases L with
  | false =>
    (refine XG ?_; ((try (repeat' with_reducible refine And.intro ?_ ?_)); (try any_goals (first | refine zm ?_ | exact CL | fail))))
    ((first | apply pr_app | apply prD_app | apply pr_bsl | apply prD_bsl | apply pr_s2b | apply prD_s2b); (refine XG ?_; ((try (repeat' with_reducible refine And.intro ?_ ?_)); (try any_goals (first | refine zm ?_ | exact CL | fail)))))
    ((first | apply pr_bor | apply prD_bor) <;> (first | exact hl | (with_reducible (exact Flat.bool _)) | (refine XG ?_; first | exact rfl | exact True.intro | ((try (repeat' with_reducible refine And.intro ?_ ?_)); (try any_goals (first | refine zm ?_ | exact CL | fail))))))
    ((first | apply pr_skip | apply prD_skip) <;> (refine XG ?_; first | exact rfl | exact True.intro | ((try (repeat' with_reducible refine And.intro ?_ ?_)); (try any_goals (first | refine zm ?_ | exact CL | fail)))))
    ((first | apply pr_skip | apply prD_skip) <;> (refine XG ?_; first | exact rfl | exact True.intro | ((try (repeat' with_reducible refine And.intro ?_ ?_)); (try any_goals (first | refine zm ?_ | exact CL | fail)))))
    (refine xw_ifp (fun h2 => ?_) (fun h2 => ?_) <;> try exact h2.elim)
    (refine XG ?_; ((try (repeat' with_reducible refine And.intro ?_ ?_)); (try any_goals (first | refine zm ?_ | exact CL | fail))))
    exact (bad (fun h => by simp [hR] at h)).symm
  | true =>
    cases W with
    | false =>
      (refine XG ?_; ((try (repeat' with_reducible refine And.intro ?_ ?_)); (try any_goals (first | refine zm ?_ | exact CL | fail))))
      ((first | apply pr_app | apply prD_app | apply pr_bsl | apply prD_bsl | apply pr_s2b | apply prD_s2b); (refine XG ?_; ((try (repeat' with_reducible refine And.intro ?_ ?_)); (try any_goals (first | refine zm ?_ | exact CL | fail)))))
      ((first | apply pr_bor | apply prD_bor) <;> (first | exact hl | (with_reducible (exact Flat.bool _)) | (refine XG ?_; first | exact rfl | exact True.intro | ((try (repeat' with_reducible refine And.intro ?_ ?_)); (try any_goals (first | refine zm ?_ | exact CL | fail))))))
      ((refine pr_on ?_ ?_ ?_); (focus (refine XG ?_; try first | exact rfl | exact True.intro)); (focus (refine XG ?_; try trivial)))
      ((first | apply pr_app | apply prD_app | apply pr_bsl | apply prD_bsl | apply pr_s2b | apply prD_s2b); (refine XG ?_; ((try (repeat' with_reducible refine And.intro ?_ ?_)); (try any_goals (first | refine zm ?_ | exact CL | fail)))))
      ((first | apply pr_bor | apply prD_bor) <;> (first | exact hw | (with_reducible (exact Flat.bool _)) | (refine XG ?_; first | exact rfl | exact True.intro | ((try (repeat' with_reducible refine And.intro ?_ ?_)); (try any_goals (first | refine zm ?_ | exact CL | fail))))))
      (refine xw_ifp (fun h2 => ?_) (fun h2 => ?_) <;> try exact h2.elim)
      (refine XG ?_; ((try (repeat' with_reducible refine And.intro ?_ ?_)); (try any_goals (first | refine zm ?_ | exact CL | fail))))
      exact (bad (fun h => by simp [hR] at h)).symm
    | true =>
      (refine XG ?_; ((try (repeat' with_reducible refine And.intro ?_ ?_)); (try any_goals (first | refine zm ?_ | exact CL | fail))))
      ((first | apply pr_app | apply prD_app | apply pr_bsl | apply prD_bsl | apply pr_s2b | apply prD_s2b); (refine XG ?_; ((try (repeat' with_reducible refine And.intro ?_ ?_)); (try any_goals (first | refine zm ?_ | exact CL | fail)))))
      ((first | apply pr_bor | apply prD_bor) <;> (first | exact hl | (with_reducible (exact Flat.bool _)) | (refine XG ?_; first | exact rfl | exact True.intro | ((try (repeat' with_reducible refine And.intro ?_ ?_)); (try any_goals (first | refine zm ?_ | exact CL | fail))))))
      ((refine pr_on ?_ ?_ ?_); (focus (refine XG ?_; try first | exact rfl | exact True.intro)); (focus (refine XG ?_; try trivial)))
      ((first | apply pr_app | apply prD_app | apply pr_bsl | apply prD_bsl | apply pr_s2b | apply prD_s2b); (refine XG ?_; ((try (repeat' with_reducible refine And.intro ?_ ?_)); (try any_goals (first | refine zm ?_ | exact CL | fail)))))
      ((first | apply pr_bor | apply prD_bor) <;> (first | exact hw | (with_reducible (exact Flat.bool _)) | (refine XG ?_; first | exact rfl | exact True.intro | ((try (repeat' with_reducible refine And.intro ?_ ?_)); (try any_goals (first | refine zm ?_ | exact CL | fail))))))
      (refine xw_ifp (fun h2 => ?_) (fun h2 => ?_) <;> try exact h2.elim)
      · (refine XG ?_; ((try (repeat' with_reducible refine And.intro ?_ ?_)); (try any_goals (first | refine zm ?_ | exact CL | fail))))
        exact (bad (fun h => by have := hR.1 h; omega)).symm
      have hRP : RP := hR.2 ⟨rfl, rfl, by omega, by omega⟩
      (refine XG ?_; ((try (repeat' with_reducible refine And.intro ?_ ?_)); (try any_goals (first | refine zm ?_ | exact CL | fail))))
      (refine xw_ifp (fun h3 => ?_) (fun h3 => ?_) <;> try exact h3.elim)
      · (refine XG ?_; ((try (repeat' with_reducible refine And.intro ?_ ?_)); (try any_goals (first | refine zm ?_ | exact CL | fail))))
        exact (k3 hp hRP (by omega)).symm
      rcases hp with rfl | rfl | rfl
      · (refine XG ?_; ((try (repeat' with_reducible refine And.intro ?_ ?_)); (try any_goals (first | refine zm ?_ | exact CL | fail))))
        (refine xw_ifp (fun h4 => ?_) (fun h4 => ?_) <;> try exact h4.elim)
        · (refine XG ?_; ((try (repeat' with_reducible refine And.intro ?_ ?_)); (try any_goals (first | refine zm ?_ | exact CL | fail))))
          exact (k4 (.inl rfl) hRP (by omega) (by omega)).symm
        by_cases h6 : flags = 8
        · subst h6
          (refine XG ?_; ((try (repeat' with_reducible refine And.intro ?_ ?_)); (try any_goals (first | refine zm ?_ | exact CL | fail))))
          (refine xw_ifp (fun h7 => ?_) (fun h7 => ?_) <;> try exact h7.elim)
          · (refine XG ?_; ((try (repeat' with_reducible refine And.intro ?_ ?_)); (try any_goals (first | refine zm ?_ | exact CL | fail))))
            exact (k4 (.inl rfl) hRP (by omega) (by omega)).symm
          · (refine XG ?_; ((try (repeat' with_reducible refine And.intro ?_ ?_)); (try any_goals (first | refine zm ?_ | exact CL | fail))))
            exact (k5 (.inl rfl) hRP (by omega) (by omega)).symm
        · by_cases h8 : flags = 0
          · subst h8
            (refine XG ?_; ((try (repeat' with_reducible refine And.intro ?_ ?_)); (try any_goals (first | refine zm ?_ | exact CL | fail))))
            (refine xw_ifp (fun h7 => ?_) (fun h7 => ?_) <;> try exact h7.elim)
            · (refine XG ?_; ((try (repeat' with_reducible refine And.intro ?_ ?_)); (try any_goals (first | refine zm ?_ | exact CL | fail))))
              exact (k4 (.inl rfl) hRP (by omega) (by omega)).symm
            · (refine XG ?_; ((try (repeat' with_reducible refine And.intro ?_ ?_)); (try any_goals (first | refine zm ?_ | exact CL | fail))))
              exact (k5 (.inl rfl) hRP (by omega) (by omega)).symm
          · have g6 : (flags != 8) = true := by simp [h6]
            have g8 : (flags != 0) = true := by simp [h8]
            (have zf1 := @g6; have zf2 := @g8; refine XG ?_; clear zf1 zf2; ((try (repeat' with_reducible refine And.intro ?_ ?_)); (try any_goals (first | refine zm ?_ | exact CL | fail))))
            (refine xw_ifp (fun h7 => ?_) (fun h7 => ?_) <;> try exact h7.elim)
            (refine XG ?_; ((try (repeat' with_reducible refine And.intro ?_ ?_)); (try any_goals (first | refine zm ?_ | exact CL | fail))))
            exact (k4 (.inl rfl) hRP (by omega) (by omega)).symm
      · (refine XG ?_; ((try (repeat' with_reducible refine And.intro ?_ ?_)); (try any_goals (first | refine zm ?_ | exact CL | fail))))
        (refine xw_ifp (fun h4 => ?_) (fun h4 => ?_) <;> try exact h4.elim)
        (refine XG ?_; ((try (repeat' with_reducible refine And.intro ?_ ?_)); (try any_goals (first | refine zm ?_ | exact CL | fail))))
        (refine xw_ifp (fun h7 => ?_) (fun h7 => ?_) <;> try exact h7.elim)
        (refine XG ?_; ((try (repeat' with_reducible refine And.intro ?_ ?_)); (try any_goals (first | refine zm ?_ | exact CL | fail))))
        exact (k5 (.inr (.inl rfl)) hRP (by omega) (by omega)).symm
      · (refine XG ?_; ((try (repeat' with_reducible refine And.intro ?_ ?_)); (try any_goals (first | refine zm ?_ | exact CL | fail))))
        (refine xw_ifp (fun h4 => ?_) (fun h4 => ?_) <;> try exact h4.elim)
        · (refine XG ?_; ((try (repeat' with_reducible refine And.intro ?_ ?_)); (try any_goals (first | refine zm ?_ | exact CL | fail))))
          exact (k4 (.inr (.inr rfl)) hRP (by omega) (by omega)).symm
        · (refine XG ?_; ((try (repeat' with_reducible refine And.intro ?_ ?_)); (try any_goals (first | refine zm ?_ | exact CL | fail))))
          (refine xw_ifp (fun h7 => ?_) (fun h7 => ?_) <;> try exact h7.elim)
          (refine XG ?_; ((try (repeat' with_reducible refine And.intro ?_ ?_)); (try any_goals (first | refine zm ?_ | exact CL | fail))))
          exact (k5 (.inr (.inr rfl)) hRP (by omega) (by omega)).symm
end Go.Proofs.Ytblimjilinkmbaa
