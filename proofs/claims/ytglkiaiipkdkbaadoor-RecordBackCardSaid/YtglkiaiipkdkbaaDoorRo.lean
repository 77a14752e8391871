/- What the reference's ReadLog reads. No conditions but the ones that stand in each. -/
import Derived.Test.YtglkiaiipkdkbaaDoorRm
namespace Go.Proofs.YtglkiaiipkdkbaaDoor
set_option linter.all false
set_option linter.unusedSimpArgs false
open Go.RowKit

theorem rdEv_t {x : List UInt8} {e : Ev} (h : rdEv x = some e) : e.t = nbI (x.take 8) := by
  unfold rdEv at h
  split at h
  · cases h; rfl
  · cases h
theorem nat_tmod (j k : Nat) : (j : Int).tmod k = ((j % k : Nat) : Int) := by
  rw [Int.tmod_eq_emod_of_nonneg (by omega)]; rfl
theorem nat_tdiv (j k : Nat) : (j : Int).tdiv k = ((j / k : Nat) : Int) := by
  rw [Int.tdiv_eq_ediv_of_nonneg (by omega)]; rfl
theorem wrap_nat (n : Nat) (h : n < 9223372036854775808) : IntKind.i64.wrap (n : Int) = n := by rw [IntKind.wrap_i64]; omega
set_option maxHeartbeats 1000000 in
theorem readEvent_ps (gl : Nat → AV) (x : List UInt8) (hx : x.length = 21) : PS Tryd.prog gl 29 [.str x] (evTupB (rdEv x)) := by
  refine ft_readEvent.ps (of_decide_eq_true rfl) (by cases rdEv x <;> simp [evTupB, evZ, nmOk, nmAll, Ev.enc]) fun c hN hg => ?_
  unfold T_readEvent
  have hn := numberOf_ps c.gl (x.take 8) (by rw [List.length_take]; omega)
  have ht : ∀ e, rdEv x = some e → e.t = nbI (x.take 8) := fun e h => rdEv_t h
  generalize hT : nbI (x.take 8) = T at *
  generalize hX : rdEv x = X at *
  (refine XG ?_; ((try (repeat' with_reducible refine And.intro ?_ ?_)); (try any_goals (first | refine zm ?_ | exact CL | fail))))
  ((first | apply pr_psv | apply prD_psv | apply pr_qrunv | apply prD_qrunv) <;> (first | exact hn | (refine XG ?_; first | exact rfl | exact True.intro | ((try (repeat' with_reducible refine And.intro ?_ ?_)); (try any_goals (first | refine zm ?_ | exact CL | fail))))))
  (refine xw_ifp (fun h1 => ?_) (fun h1 => ?_) <;> try exact h1.elim)
  · have : X = none := by
      cases X with
      | none => rfl
      | some e =>
        have h2 := ht e rfl
        have h3 := rdEv_good hX
        have := h3.1
        have := h3.2.1
        omega
    subst this
    unfold evTupB evZ
    (refine XG ?_; ((try (repeat' with_reducible refine And.intro ?_ ?_)); (try any_goals (first | refine zm ?_ | exact CL | fail))))
  (refine XG ?_; ((try (repeat' with_reducible refine And.intro ?_ ?_)); (try any_goals (first | refine zm ?_ | exact CL | fail))))
  refine loop_rule (fun j : Nat => j ≤ 288 ∧ ∀ i, i < j → evB (cand T i) ≠ x) (fun j => ⟨[(0, .str x), (2, .ptr 0 0), (4, .int .i64 T), (17, .int .i64 j)], [(0, .cells [.int .i64 0, .int .i64 0, .int .i64 0, .int .i64 0, .bool false])], 1⟩) (fun j => 288 - j) ft_readEvent.mixed hN
    ⟨0, ⟨by omega, fun i h => by omega⟩, [], by (refine XG ?_; ((try (repeat' with_reducible refine And.intro ?_ ?_)); (try any_goals (first | refine zm ?_ | exact CL | fail))))⟩ fun j ⟨hj, hall⟩ => ?_
  (refine XG ?_; ((try (repeat' with_reducible refine And.intro ?_ ?_)); (try any_goals (first | refine zm ?_ | exact CL | fail))))
  (refine xw_ifp (fun h2 => ?_) (fun h2 => ?_) <;> try exact h2.elim)
  · have hgd := cand_good T j (by omega) (by omega)
    have hee := eventText_ps c.gl (cand T j) ((good_iff _).2 hgd)
    have c1 : (j : Int).tmod 8 = ((j % 8 : Nat) : Int) := nat_tmod j 8
    have c2 : IntKind.i64.wrap ((j : Int).tdiv 8) = ((j / 8 : Nat) : Int) := by rw [show (j : Int).tdiv 8 = ((j / 8 : Nat) : Int) from nat_tdiv j 8, wrap_nat _ (by omega)]
    have c3 : IntKind.i64.wrap ((j : Int).tdiv 24) = ((j / 24 : Nat) : Int) := by rw [show (j : Int).tdiv 24 = ((j / 24 : Nat) : Int) from nat_tdiv j 24, wrap_nat _ (by omega)]
    have c4 : IntKind.i64.wrap ((j : Int).tdiv 144) = ((j / 144 : Nat) : Int) := by rw [show (j : Int).tdiv 144 = ((j / 144 : Nat) : Int) from nat_tdiv j 144, wrap_nat _ (by omega)]
    have c5 : ((j / 8 : Nat) : Int).tmod 3 = ((j / 8 % 3 : Nat) : Int) := nat_tmod _ 3
    have c6 : ((j / 24 : Nat) : Int).tmod 6 = ((j / 24 % 6 : Nat) : Int) := nat_tmod _ 6
    have c7 : (((j / 144 : Nat) : Int) == 1) = (j / 144 == 1) := by
      by_cases h : j / 144 = 1
      · rw [h]; rfl
      · rw [show (j / 144 == 1) = false by simpa using h]
        simp; omega
    have hev : evB (cand T j) = x → X = some (cand T j) := fun h => by
      rw [← hX, ← h]
      have := rd_evB (cand T j) hgd []
      rwa [List.append_nil] at this
    generalize hB : evB (cand T j) = B at *
    unfold cand Ev.enc at hee
    dsimp only at hee
    (have zf1 := @c1; have zf2 := @c2; have zf3 := @c3; have zf4 := @c4; have zf5 := @c5; have zf6 := @c6; have zf7 := @c7; refine XG ?_; clear zf1 zf2 zf3 zf4 zf5 zf6 zf7; ((try (repeat' with_reducible refine And.intro ?_ ?_)); (try any_goals (first | refine zm ?_ | exact CL | fail))))
    ((first | apply pr_psv | apply prD_psv | apply pr_qrunv | apply prD_qrunv) <;> (first | exact hee | (have zf1 := @c1; have zf2 := @c2; have zf3 := @c3; have zf4 := @c4; have zf5 := @c5; have zf6 := @c6; have zf7 := @c7; refine XG ?_; clear zf1 zf2 zf3 zf4 zf5 zf6 zf7; first | exact rfl | exact True.intro | ((try (repeat' with_reducible refine And.intro ?_ ?_)); (try any_goals (first | refine zm ?_ | exact CL | fail))))))
    (refine xw_ifp (fun h3 => ?_) (fun h3 => ?_) <;> try exact h3.elim)
    · rw [hev h3]
      unfold cand evTupB Ev.enc
      (refine XG ?_; ((try (repeat' with_reducible refine And.intro ?_ ?_)); (try any_goals (first | refine zm ?_ | exact CL | fail))))
    · (refine XG ?_; ((try (repeat' with_reducible refine And.intro ?_ ?_)); (try any_goals (first | refine zm ?_ | exact CL | fail))))
      refine ⟨j + 1, ⟨by omega, fun i hi => ?_⟩, ⟨[], ?_⟩, by omega⟩
      · by_cases h : i = j
        · subst h; rw [hB]; exact h3
        · exact hall i (by omega)
      · (refine XG ?_; ((try (repeat' with_reducible refine And.intro ?_ ?_)); (try any_goals (first | refine zm ?_ | exact CL | fail))))
  · have hj' : j = 288 := by omega
    subst hj'
    have : X = none := by
      cases X with
      | none => rfl
      | some e =>
        have h3 := rdEv_good hX
        obtain ⟨k, hk, e2⟩ := cand_all e h3
        rw [ht e rfl] at e2
        exact (hall k hk (by rw [e2]; exact (evB_rd x hx e hX).1)).elim
    subst this
    unfold evTupB evZ
    (refine XG ?_; ((try (repeat' with_reducible refine And.intro ?_ ?_)); (try any_goals (first | refine zm ?_ | exact CL | fail))))
end Go.Proofs.YtglkiaiipkdkbaaDoor
