/- What tells that a frame is refused. No conditions but the ones that stand in each. -/
import Derived.Test.YtblimjilinkmbaaWt
namespace Go.Proofs.Ytblimjilinkmbaa
set_option linter.all false
set_option linter.unusedSimpArgs false
open Go.RowKit

theorem rdE_long {f : List UInt8} (h : rdE f = 0) : 28 ≤ f.length ∧ f.length ≤ 65535 := by
  have h1 : ¬ G1 f := fun h1 => by rw [rd1 h1] at h; cases h
  have h2 : ¬ G2 f := fun h2 => by rw [rd2 h1 h2] at h; cases h
  have h3 : ¬ G3 f := fun h3 => by rw [rd3 h1 h2 h3] at h; cases h
  have h4 : ¬ G4 f := fun h4 => by rw [rd4 h1 h2 h3 h4] at h; cases h
  have k : H4 f := ⟨h1, h2, h3, h4⟩
  have h5 : ¬ G5 f := fun h5 => by rw [rd5 k h5] at h; cases h
  have h6 : ¬ G6 f := fun h6 => by rw [rd6 k h5 h6] at h; cases h
  unfold G1 at h1
  unfold G6 at h6
  rw [List.length_drop] at h6
  have := w2_bd f 2 (by omega)
  split at h6 <;> omega
theorem rdK_frm (f : List UInt8) : (rdK f).frm = w4 f 12 := by
  unfold rdK
  dsimp only
  split
  · rfl
  · split <;> rfl
def refuseT (l : List UInt8) (id : Int) : AV := if rdE l ≠ 0 then .tup [.str [], .int .i64 (rdE l)] else if ¬ (0 ≤ id ∧ id ≤ 65535) then .tup [.str [], .int .i64 2] else .tup [.str (refB l (w4 l 12) id), .int .i64 0]
theorem refuse_nm (l : List UInt8) (id : Int) : nmOk 0 (refuseT l id) := by
  unfold refuseT; split
  · simp [nmOk, nmAll]
  · split <;> simp [nmOk, nmAll]
set_option maxHeartbeats 2000000 in
theorem Refuse_ps (gl : Nat → AV) (l : List UInt8) (id : Int) (hl : l.length ≤ 140737488351232) : PS Try.prog gl 20 [.str l, .int .i64 id] (refuseT l id) := by
  refine ft_wRefuse.ps (of_decide_eq_true rfl) (refuse_nm l id) fun c hN hg => ?_
  unfold T_wRefuse
  have hP := Parse_ps c.gl l hl
  by_cases he : rdE l = 0
  rotate_left
  · rw [parse_bad rfl he] at hP
    have hr : refuseT l id = .tup [.str [], .int .i64 (rdE l)] := if_pos he
    rw [hr]
    clear hr
    generalize rdE l = E at *
    unfold pk0 Pk.enc at hP
    dsimp only at hP
    (simp (disch := first | omega | (simp only [go_sem] <;> omega) | fail) only [go_sem, ↓reduceIte, Nat.reduceBEq, Nat.reduceAdd, Nat.reduceMul, Nat.reduceSub, Nat.reduceLT, Nat.reduceLeDiff, Nat.reduceEqDiff, Int.reduceToNat, Int.reduceBEq, Int.reduceBNe, Int.reduceLT, Int.reduceLE, Int.reduceEq, ]; ((try (repeat' with_reducible refine And.intro ?_ ?_)); (try any_goals (first | (with_reducible first | refine z1 ?_ | refine z2 ?_ | refine z3 ?_) | omega | (show drawOk _ _ _ = true; kernel_rfl) | (refine fun _ => ?_; simp_all; done)))))
    ((first | apply pr_psv | apply prD_psv | apply pr_qrunv | apply prD_qrunv) <;> (first | exact hP | (simp (disch := first | omega | (simp only [go_sem] <;> omega) | fail) only [go_sem, ↓reduceIte, Nat.reduceBEq, Nat.reduceAdd, Nat.reduceMul, Nat.reduceSub, Nat.reduceLT, Nat.reduceLeDiff, Nat.reduceEqDiff, Int.reduceToNat, Int.reduceBEq, Int.reduceBNe, Int.reduceLT, Int.reduceLE, Int.reduceEq, ]; first | exact rfl | ((try (repeat' with_reducible refine And.intro ?_ ?_)); (try any_goals (first | (with_reducible first | refine z1 ?_ | refine z2 ?_ | refine z3 ?_) | omega | (show drawOk _ _ _ = true; kernel_rfl) | (refine fun _ => ?_; simp_all; done)))))))
    (refine xw_if (t := ?_) ?_ (fun g1 => ?_) (fun g1 => ?_); (case refine_2 => (simp (disch := first | omega | (simp only [go_sem] <;> omega) | fail) only [go_sem, ↓reduceIte, Nat.reduceBEq, Nat.reduceAdd, Nat.reduceMul, Nat.reduceSub, Nat.reduceLT, Nat.reduceLeDiff, Nat.reduceEqDiff, Int.reduceToNat, Int.reduceBEq, Int.reduceBNe, Int.reduceLT, Int.reduceLE, Int.reduceEq, ]; try exact rfl)); all_goals try simp only [decide_eq_true_eq, decide_eq_false_iff_not, Bool.or_eq_true, Bool.and_eq_true, Bool.not_eq_true', Bool.or_eq_false_iff, Bool.and_eq_false_iff, Bool.not_eq_false', beq_iff_eq, bne_iff_ne, ne_eq, beq_eq_false_iff_ne, bne_eq_false_iff_eq, Bool.true_eq_false, Bool.false_eq_true, Decidable.not_not] at g1)
    · (simp (disch := first | omega | (simp only [go_sem] <;> omega) | fail) only [go_sem, ↓reduceIte, Nat.reduceBEq, Nat.reduceAdd, Nat.reduceMul, Nat.reduceSub, Nat.reduceLT, Nat.reduceLeDiff, Nat.reduceEqDiff, Int.reduceToNat, Int.reduceBEq, Int.reduceBNe, Int.reduceLT, Int.reduceLE, Int.reduceEq, ]; ((try (repeat' with_reducible refine And.intro ?_ ?_)); (try any_goals (first | (with_reducible first | refine z1 ?_ | refine z2 ?_ | refine z3 ?_) | omega | (show drawOk _ _ _ = true; kernel_rfl) | (refine fun _ => ?_; simp_all; done)))))
    · exact (he g1).elim
  obtain ⟨l28, l65⟩ := rdE_long he
  rw [parse_good he] at hP
  have hf := rdK_frm l
  have hw := word_ps c.gl [id] (by simp)
  have h4 := w4_bd l 12 (by omega)
  unfold Pk.enc at hP
  rw [hf] at hP
  generalize rdK l = q at *
  clear hf
  by_cases hid : 0 ≤ id ∧ id ≤ 65535
  rotate_left
  · have hr : refuseT l id = .tup [.str [], .int .i64 2] := by unfold refuseT; rw [if_neg (by omega), if_pos hid]
    have hb : [id].all (inW 65535) = false := by simp [inW]; omega
    rw [hr]
    rw [hb] at hw
    (simp (disch := first | omega | (simp only [go_sem] <;> omega) | fail) only [go_sem, ↓reduceIte, Nat.reduceBEq, Nat.reduceAdd, Nat.reduceMul, Nat.reduceSub, Nat.reduceLT, Nat.reduceLeDiff, Nat.reduceEqDiff, Int.reduceToNat, Int.reduceBEq, Int.reduceBNe, Int.reduceLT, Int.reduceLE, Int.reduceEq, ]; ((try (repeat' with_reducible refine And.intro ?_ ?_)); (try any_goals (first | (with_reducible first | refine z1 ?_ | refine z2 ?_ | refine z3 ?_) | omega | (show drawOk _ _ _ = true; kernel_rfl) | (refine fun _ => ?_; simp_all; done)))))
    ((first | apply pr_psv | apply prD_psv | apply pr_qrunv | apply prD_qrunv) <;> (first | exact hP | (simp (disch := first | omega | (simp only [go_sem] <;> omega) | fail) only [go_sem, ↓reduceIte, Nat.reduceBEq, Nat.reduceAdd, Nat.reduceMul, Nat.reduceSub, Nat.reduceLT, Nat.reduceLeDiff, Nat.reduceEqDiff, Int.reduceToNat, Int.reduceBEq, Int.reduceBNe, Int.reduceLT, Int.reduceLE, Int.reduceEq, ]; first | exact rfl | ((try (repeat' with_reducible refine And.intro ?_ ?_)); (try any_goals (first | (with_reducible first | refine z1 ?_ | refine z2 ?_ | refine z3 ?_) | omega | (show drawOk _ _ _ = true; kernel_rfl) | (refine fun _ => ?_; simp_all; done)))))))
    (refine xw_if (t := ?_) ?_ (fun g1 => ?_) (fun g1 => ?_); (case refine_2 => (simp (disch := first | omega | (simp only [go_sem] <;> omega) | fail) only [go_sem, ↓reduceIte, Nat.reduceBEq, Nat.reduceAdd, Nat.reduceMul, Nat.reduceSub, Nat.reduceLT, Nat.reduceLeDiff, Nat.reduceEqDiff, Int.reduceToNat, Int.reduceBEq, Int.reduceBNe, Int.reduceLT, Int.reduceLE, Int.reduceEq, ]; try exact rfl)); all_goals try simp only [decide_eq_true_eq, decide_eq_false_iff_not, Bool.or_eq_true, Bool.and_eq_true, Bool.not_eq_true', Bool.or_eq_false_iff, Bool.and_eq_false_iff, Bool.not_eq_false', beq_iff_eq, bne_iff_ne, ne_eq, beq_eq_false_iff_ne, bne_eq_false_iff_eq, Bool.true_eq_false, Bool.false_eq_true, Decidable.not_not] at g1)
    (simp (disch := first | omega | (simp only [go_sem] <;> omega) | fail) only [go_sem, ↓reduceIte, Nat.reduceBEq, Nat.reduceAdd, Nat.reduceMul, Nat.reduceSub, Nat.reduceLT, Nat.reduceLeDiff, Nat.reduceEqDiff, Int.reduceToNat, Int.reduceBEq, Int.reduceBNe, Int.reduceLT, Int.reduceLE, Int.reduceEq, ]; ((try (repeat' with_reducible refine And.intro ?_ ?_)); (try any_goals (first | (with_reducible first | refine z1 ?_ | refine z2 ?_ | refine z3 ?_) | omega | (show drawOk _ _ _ = true; kernel_rfl) | (refine fun _ => ?_; simp_all; done)))))
    ((first | apply pr_app | apply prD_app | apply pr_bsl | apply prD_bsl | apply pr_s2b | apply prD_s2b); (simp (disch := first | omega | (simp only [go_sem] <;> omega) | fail) only [go_sem, ↓reduceIte, Nat.reduceBEq, Nat.reduceAdd, Nat.reduceMul, Nat.reduceSub, Nat.reduceLT, Nat.reduceLeDiff, Nat.reduceEqDiff, Int.reduceToNat, Int.reduceBEq, Int.reduceBNe, Int.reduceLT, Int.reduceLE, Int.reduceEq, ]; ((try (repeat' with_reducible refine And.intro ?_ ?_)); (try any_goals (first | (with_reducible first | refine z1 ?_ | refine z2 ?_ | refine z3 ?_) | omega | (show drawOk _ _ _ = true; kernel_rfl) | (refine fun _ => ?_; simp_all; done))))))
    ((first | apply pr_bor | apply prD_bor) <;> (first | exact hw | (with_reducible (exact Flat.bool _)) | (simp (disch := first | omega | (simp only [go_sem] <;> omega) | fail) only [go_sem, ↓reduceIte, Nat.reduceBEq, Nat.reduceAdd, Nat.reduceMul, Nat.reduceSub, Nat.reduceLT, Nat.reduceLeDiff, Nat.reduceEqDiff, Int.reduceToNat, Int.reduceBEq, Int.reduceBNe, Int.reduceLT, Int.reduceLE, Int.reduceEq, ]; first | exact rfl | ((try (repeat' with_reducible refine And.intro ?_ ?_)); (try any_goals (first | (with_reducible first | refine z1 ?_ | refine z2 ?_ | refine z3 ?_) | omega | (show drawOk _ _ _ = true; kernel_rfl) | (refine fun _ => ?_; simp_all; done)))))))
    (refine xw_if (t := ?_) ?_ (fun g2 => ?_) (fun g2 => ?_); (case refine_2 => (simp (disch := first | omega | (simp only [go_sem] <;> omega) | fail) only [go_sem, ↓reduceIte, Nat.reduceBEq, Nat.reduceAdd, Nat.reduceMul, Nat.reduceSub, Nat.reduceLT, Nat.reduceLeDiff, Nat.reduceEqDiff, Int.reduceToNat, Int.reduceBEq, Int.reduceBNe, Int.reduceLT, Int.reduceLE, Int.reduceEq, ]; try exact rfl)); all_goals try simp only [decide_eq_true_eq, decide_eq_false_iff_not, Bool.or_eq_true, Bool.and_eq_true, Bool.not_eq_true', Bool.or_eq_false_iff, Bool.and_eq_false_iff, Bool.not_eq_false', beq_iff_eq, bne_iff_ne, ne_eq, beq_eq_false_iff_ne, bne_eq_false_iff_eq, Bool.true_eq_false, Bool.false_eq_true, Decidable.not_not] at g2)
    (simp (disch := first | omega | (simp only [go_sem] <;> omega) | fail) only [go_sem, ↓reduceIte, Nat.reduceBEq, Nat.reduceAdd, Nat.reduceMul, Nat.reduceSub, Nat.reduceLT, Nat.reduceLeDiff, Nat.reduceEqDiff, Int.reduceToNat, Int.reduceBEq, Int.reduceBNe, Int.reduceLT, Int.reduceLE, Int.reduceEq, ]; ((try (repeat' with_reducible refine And.intro ?_ ?_)); (try any_goals (first | (with_reducible first | refine z1 ?_ | refine z2 ?_ | refine z3 ?_) | omega | (show drawOk _ _ _ = true; kernel_rfl) | (refine fun _ => ?_; simp_all; done)))))
  have hr : refuseT l id = .tup [.str (refB l (w4 l 12) id), .int .i64 0] := by unfold refuseT; rw [if_neg (by omega), if_neg (by omega)]
  have hb : [id].all (inW 65535) = true := by simp [inW]; omega
  rw [hr]
  rw [hb] at hw
  clear hr hb
  obtain ⟨p8, hp8⟩ : ∃ p8 : List UInt8, p8 = [3, 13, 0, 0, 0, 0, 0, 0] := ⟨_, rfl⟩
  have hl8 : p8.length = 8 := by rw [hp8]; rfl
  have lit : [.int .u8 3, .int .u8 13, .int .u8 0, .int .u8 0, .int .u8 0, .int .u8 0, .int .u8 0, .int .u8 0] = byts p8 := by rw [hp8]; rfl
  have hset : ∀ v, ((p8 ++ l.take 28).set 2 (byteI v 1)).set 3 (byteI v 0) = [3, 13] ++ be v 2 ++ ([0, 0, 0, 0] ++ l.take 28) := fun v => by rw [hp8]; rfl
  have hck : checkN ([3, 13] ++ [0, 0] ++ ([0, 0, 0, 0] ++ l.take 28)) = checkN (p8 ++ l.take 28) := by rw [hp8]; rfl
  have hfin : refB l (w4 l 12) id = headB 1 167772414 (w4 l 12) 64 id 36 ++ ((p8 ++ l.take 28).set 2 (byteI (checkN (p8 ++ l.take 28)) 1)).set 3 (byteI (checkN (p8 ++ l.take 28)) 0) := by
    unfold refB refS; rw [hset, hck]
  rw [hfin]
  clear hfin hck hset hp8
  have hlr : (p8 ++ l.take 28).length = 36 := by rw [List.length_append, List.length_take]; omega
  have hCk := Check_ps c.gl (p8 ++ l.take 28) (by omega)
  have hKl := checkN_le (p8 ++ l.take 28)
  generalize checkN (p8 ++ l.take 28) = K at *
  have t8 : p8.take 8 = p8 := List.take_of_length_le (by omega)
  (simp (disch := first | omega | (simp only [go_sem] <;> omega) | fail) only [go_sem, ↓reduceIte, Nat.reduceBEq, Nat.reduceAdd, Nat.reduceMul, Nat.reduceSub, Nat.reduceLT, Nat.reduceLeDiff, Nat.reduceEqDiff, Int.reduceToNat, Int.reduceBEq, Int.reduceBNe, Int.reduceLT, Int.reduceLE, Int.reduceEq, ]; ((try (repeat' with_reducible refine And.intro ?_ ?_)); (try any_goals (first | (with_reducible first | refine z1 ?_ | refine z2 ?_ | refine z3 ?_) | omega | (show drawOk _ _ _ = true; kernel_rfl) | (refine fun _ => ?_; simp_all; done)))))
  ((first | apply pr_psv | apply prD_psv | apply pr_qrunv | apply prD_qrunv) <;> (first | exact hP | (simp (disch := first | omega | (simp only [go_sem] <;> omega) | fail) only [go_sem, ↓reduceIte, Nat.reduceBEq, Nat.reduceAdd, Nat.reduceMul, Nat.reduceSub, Nat.reduceLT, Nat.reduceLeDiff, Nat.reduceEqDiff, Int.reduceToNat, Int.reduceBEq, Int.reduceBNe, Int.reduceLT, Int.reduceLE, Int.reduceEq, ]; first | exact rfl | ((try (repeat' with_reducible refine And.intro ?_ ?_)); (try any_goals (first | (with_reducible first | refine z1 ?_ | refine z2 ?_ | refine z3 ?_) | omega | (show drawOk _ _ _ = true; kernel_rfl) | (refine fun _ => ?_; simp_all; done)))))))
  (refine xw_if (t := ?_) ?_ (fun g1 => ?_) (fun g1 => ?_); (case refine_2 => (simp (disch := first | omega | (simp only [go_sem] <;> omega) | fail) only [go_sem, ↓reduceIte, Nat.reduceBEq, Nat.reduceAdd, Nat.reduceMul, Nat.reduceSub, Nat.reduceLT, Nat.reduceLeDiff, Nat.reduceEqDiff, Int.reduceToNat, Int.reduceBEq, Int.reduceBNe, Int.reduceLT, Int.reduceLE, Int.reduceEq, ]; try exact rfl)); all_goals try simp only [decide_eq_true_eq, decide_eq_false_iff_not, Bool.or_eq_true, Bool.and_eq_true, Bool.not_eq_true', Bool.or_eq_false_iff, Bool.and_eq_false_iff, Bool.not_eq_false', beq_iff_eq, bne_iff_ne, ne_eq, beq_eq_false_iff_ne, bne_eq_false_iff_eq, Bool.true_eq_false, Bool.false_eq_true, Decidable.not_not] at g1)
  (simp (disch := first | omega | (simp only [go_sem] <;> omega) | fail) only [go_sem, ↓reduceIte, Nat.reduceBEq, Nat.reduceAdd, Nat.reduceMul, Nat.reduceSub, Nat.reduceLT, Nat.reduceLeDiff, Nat.reduceEqDiff, Int.reduceToNat, Int.reduceBEq, Int.reduceBNe, Int.reduceLT, Int.reduceLE, Int.reduceEq, ]; ((try (repeat' with_reducible refine And.intro ?_ ?_)); (try any_goals (first | (with_reducible first | refine z1 ?_ | refine z2 ?_ | refine z3 ?_) | omega | (show drawOk _ _ _ = true; kernel_rfl) | (refine fun _ => ?_; simp_all; done)))))
  ((first | apply pr_app | apply prD_app | apply pr_bsl | apply prD_bsl | apply pr_s2b | apply prD_s2b); (simp (disch := first | omega | (simp only [go_sem] <;> omega) | fail) only [go_sem, ↓reduceIte, Nat.reduceBEq, Nat.reduceAdd, Nat.reduceMul, Nat.reduceSub, Nat.reduceLT, Nat.reduceLeDiff, Nat.reduceEqDiff, Int.reduceToNat, Int.reduceBEq, Int.reduceBNe, Int.reduceLT, Int.reduceLE, Int.reduceEq, ]; ((try (repeat' with_reducible refine And.intro ?_ ?_)); (try any_goals (first | (with_reducible first | refine z1 ?_ | refine z2 ?_ | refine z3 ?_) | omega | (show drawOk _ _ _ = true; kernel_rfl) | (refine fun _ => ?_; simp_all; done))))))
  ((first | apply pr_bor | apply prD_bor) <;> (first | exact hw | (with_reducible (exact Flat.bool _)) | (simp (disch := first | omega | (simp only [go_sem] <;> omega) | fail) only [go_sem, ↓reduceIte, Nat.reduceBEq, Nat.reduceAdd, Nat.reduceMul, Nat.reduceSub, Nat.reduceLT, Nat.reduceLeDiff, Nat.reduceEqDiff, Int.reduceToNat, Int.reduceBEq, Int.reduceBNe, Int.reduceLT, Int.reduceLE, Int.reduceEq, ]; first | exact rfl | ((try (repeat' with_reducible refine And.intro ?_ ?_)); (try any_goals (first | (with_reducible first | refine z1 ?_ | refine z2 ?_ | refine z3 ?_) | omega | (show drawOk _ _ _ = true; kernel_rfl) | (refine fun _ => ?_; simp_all; done)))))))
  (refine xw_if (t := ?_) ?_ (fun g2 => ?_) (fun g2 => ?_); (case refine_2 => (simp (disch := first | omega | (simp only [go_sem] <;> omega) | fail) only [go_sem, ↓reduceIte, Nat.reduceBEq, Nat.reduceAdd, Nat.reduceMul, Nat.reduceSub, Nat.reduceLT, Nat.reduceLeDiff, Nat.reduceEqDiff, Int.reduceToNat, Int.reduceBEq, Int.reduceBNe, Int.reduceLT, Int.reduceLE, Int.reduceEq, ]; try exact rfl)); all_goals try simp only [decide_eq_true_eq, decide_eq_false_iff_not, Bool.or_eq_true, Bool.and_eq_true, Bool.not_eq_true', Bool.or_eq_false_iff, Bool.and_eq_false_iff, Bool.not_eq_false', beq_iff_eq, bne_iff_ne, ne_eq, beq_eq_false_iff_ne, bne_eq_false_iff_eq, Bool.true_eq_false, Bool.false_eq_true, Decidable.not_not] at g2)
  (simp (disch := first | omega | (simp only [go_sem] <;> omega) | fail) only [go_sem, ↓reduceIte, Nat.reduceBEq, Nat.reduceAdd, Nat.reduceMul, Nat.reduceSub, Nat.reduceLT, Nat.reduceLeDiff, Nat.reduceEqDiff, Int.reduceToNat, Int.reduceBEq, Int.reduceBNe, Int.reduceLT, Int.reduceLE, Int.reduceEq, ]; ((try (repeat' with_reducible refine And.intro ?_ ?_)); (try any_goals (first | (with_reducible first | refine z1 ?_ | refine z2 ?_ | refine z3 ?_) | omega | (show drawOk _ _ _ = true; kernel_rfl) | (refine fun _ => ?_; simp_all; done)))))
  ((first | apply pr_app | apply prD_app | apply pr_bsl | apply prD_bsl | apply pr_s2b | apply prD_s2b); (simp (disch := first | omega | (simp only [go_sem] <;> omega) | fail) only [go_sem, ↓reduceIte, Nat.reduceBEq, Nat.reduceAdd, Nat.reduceMul, Nat.reduceSub, Nat.reduceLT, Nat.reduceLeDiff, Nat.reduceEqDiff, Int.reduceToNat, Int.reduceBEq, Int.reduceBNe, Int.reduceLT, Int.reduceLE, Int.reduceEq, ]; ((try (repeat' with_reducible refine And.intro ?_ ?_)); (try any_goals (first | (with_reducible first | refine z1 ?_ | refine z2 ?_ | refine z3 ?_) | omega | (show drawOk _ _ _ = true; kernel_rfl) | (refine fun _ => ?_; simp_all; done))))))
  simp only [lit]
  ((first | apply pr_app | apply prD_app | apply pr_bsl | apply prD_bsl | apply pr_s2b | apply prD_s2b); (simp (disch := first | omega | (simp only [go_sem] <;> omega) | fail) only [go_sem, ↓reduceIte, Nat.reduceBEq, Nat.reduceAdd, Nat.reduceMul, Nat.reduceSub, Nat.reduceLT, Nat.reduceLeDiff, Nat.reduceEqDiff, Int.reduceToNat, Int.reduceBEq, Int.reduceBNe, Int.reduceLT, Int.reduceLE, Int.reduceEq, hl8, t8]; ((try (repeat' with_reducible refine And.intro ?_ ?_)); (try any_goals (first | (with_reducible first | refine z1 ?_ | refine z2 ?_ | refine z3 ?_) | omega | (show drawOk _ _ _ = true; kernel_rfl) | (refine fun _ => ?_; simp_all; done))))))
  generalize hR : p8 ++ l.take 28 = R at *
  have tR : R.take 36 = R := List.take_of_length_le (by omega)
  ((first | apply pr_psv | apply prD_psv | apply pr_qrunv | apply prD_qrunv) <;> (first | exact hCk | (simp (disch := first | omega | (simp only [go_sem] <;> omega) | fail) only [go_sem, ↓reduceIte, Nat.reduceBEq, Nat.reduceAdd, Nat.reduceMul, Nat.reduceSub, Nat.reduceLT, Nat.reduceLeDiff, Nat.reduceEqDiff, Int.reduceToNat, Int.reduceBEq, Int.reduceBNe, Int.reduceLT, Int.reduceLE, Int.reduceEq, hlr, tR]; first | exact rfl | ((try (repeat' with_reducible refine And.intro ?_ ?_)); (try any_goals (first | (with_reducible first | refine z1 ?_ | refine z2 ?_ | refine z3 ?_) | omega | (show drawOk _ _ _ = true; kernel_rfl) | (refine fun _ => ?_; simp_all; done)))))))
  have hset : ((R.set 2 (byteI K 1)).set 3 (byteI K 0)).length = 36 := by simp [hlr]
  (simp (disch := first | omega | (simp only [go_sem] <;> omega) | fail) only [go_sem, ↓reduceIte, Nat.reduceBEq, Nat.reduceAdd, Nat.reduceMul, Nat.reduceSub, Nat.reduceLT, Nat.reduceLeDiff, Nat.reduceEqDiff, Int.reduceToNat, Int.reduceBEq, Int.reduceBNe, Int.reduceLT, Int.reduceLE, Int.reduceEq, hlr, byte_0]; ((try (repeat' with_reducible refine And.intro ?_ ?_)); (try any_goals (first | (with_reducible first | refine z1 ?_ | refine z2 ?_ | refine z3 ?_) | omega | (show drawOk _ _ _ = true; kernel_rfl) | (refine fun _ => ?_; simp_all; done)))))
  generalize hS : (R.set 2 (byteI K 1)).set 3 (byteI K 0) = S at *
  have hmin : ((8 + min 28 l.length : Nat) : Int) = 36 := by omega
  ((first | refine pr_gs (ins := []) (head_gs _ 1 167772414 (w4 l 12) 64 id 36 (by omega)) ?_ ?_ | refine prD_gs (ins := []) (head_gs _ 1 167772414 (w4 l 12) 64 id 36 (by omega)) ?_ ?_ | refine pr_gsv (ins := []) (head_gs _ 1 167772414 (w4 l 12) 64 id 36 (by omega)) ?_ ?_ | refine prD_gsv (ins := []) (head_gs _ 1 167772414 (w4 l 12) 64 id 36 (by omega)) ?_ ?_) <;> (simp (disch := first | omega | (simp only [go_sem] <;> omega) | fail) only [go_sem, ↓reduceIte, Nat.reduceBEq, Nat.reduceAdd, Nat.reduceMul, Nat.reduceSub, Nat.reduceLT, Nat.reduceLeDiff, Nat.reduceEqDiff, Int.reduceToNat, Int.reduceBEq, Int.reduceBNe, Int.reduceLT, Int.reduceLE, Int.reduceEq, hlr, hmin] <;> (try exact rfl); ((try (repeat' with_reducible refine And.intro ?_ ?_)); (try any_goals (first | (with_reducible first | refine z1 ?_ | refine z2 ?_ | refine z3 ?_) | omega | (show drawOk _ _ _ = true; kernel_rfl) | (refine fun _ => ?_; simp_all; done))))))
  ((first | apply pr_app | apply prD_app | apply pr_bsl | apply prD_bsl | apply pr_s2b | apply prD_s2b); (simp (disch := first | omega | (simp only [go_sem] <;> omega) | fail) only [go_sem, ↓reduceIte, Nat.reduceBEq, Nat.reduceAdd, Nat.reduceMul, Nat.reduceSub, Nat.reduceLT, Nat.reduceLeDiff, Nat.reduceEqDiff, Int.reduceToNat, Int.reduceBEq, Int.reduceBNe, Int.reduceLT, Int.reduceLE, Int.reduceEq, hset, headB_len]; ((try (repeat' with_reducible refine And.intro ?_ ?_)); (try any_goals (first | (with_reducible first | refine z1 ?_ | refine z2 ?_ | refine z3 ?_) | omega | (show drawOk _ _ _ = true; kernel_rfl) | (refine fun _ => ?_; simp_all; done))))))
  rw [List.take_of_length_le (by simp [headB_len, hset])]
set_option maxHeartbeats 2000000 in
theorem RefuseR_ps (gl : Nat → AV) (l : List UInt8) (id : Int) (hl : l.length ≤ 140737488351232) : PS Try.prog gl 21 [.str l, .int .i64 id] (refuseT l id) := by
  refine ft_rRefuse.ps (of_decide_eq_true rfl) (refuse_nm l id) fun c hN hg => ?_
  unfold T_rRefuse
  have hP := ParseR_ps c.gl l hl
  by_cases he : rdE l = 0
  rotate_left
  · rw [parse_bad rfl he] at hP
    have hr : refuseT l id = .tup [.str [], .int .i64 (rdE l)] := if_pos he
    rw [hr]
    clear hr
    generalize rdE l = E at *
    unfold pk0 Pk.enc at hP
    dsimp only at hP
    (simp (disch := first | omega | (simp only [go_sem] <;> omega) | fail) only [go_sem, ↓reduceIte, Nat.reduceBEq, Nat.reduceAdd, Nat.reduceMul, Nat.reduceSub, Nat.reduceLT, Nat.reduceLeDiff, Nat.reduceEqDiff, Int.reduceToNat, Int.reduceBEq, Int.reduceBNe, Int.reduceLT, Int.reduceLE, Int.reduceEq, ]; ((try (repeat' with_reducible refine And.intro ?_ ?_)); (try any_goals (first | (with_reducible first | refine z1 ?_ | refine z2 ?_ | refine z3 ?_) | omega | (show drawOk _ _ _ = true; kernel_rfl) | (refine fun _ => ?_; simp_all; done)))))
    ((first | apply pr_psv | apply prD_psv | apply pr_qrunv | apply prD_qrunv) <;> (first | exact hP | (simp (disch := first | omega | (simp only [go_sem] <;> omega) | fail) only [go_sem, ↓reduceIte, Nat.reduceBEq, Nat.reduceAdd, Nat.reduceMul, Nat.reduceSub, Nat.reduceLT, Nat.reduceLeDiff, Nat.reduceEqDiff, Int.reduceToNat, Int.reduceBEq, Int.reduceBNe, Int.reduceLT, Int.reduceLE, Int.reduceEq, ]; first | exact rfl | ((try (repeat' with_reducible refine And.intro ?_ ?_)); (try any_goals (first | (with_reducible first | refine z1 ?_ | refine z2 ?_ | refine z3 ?_) | omega | (show drawOk _ _ _ = true; kernel_rfl) | (refine fun _ => ?_; simp_all; done)))))))
    (refine xw_if (t := ?_) ?_ (fun g1 => ?_) (fun g1 => ?_); (case refine_2 => (simp (disch := first | omega | (simp only [go_sem] <;> omega) | fail) only [go_sem, ↓reduceIte, Nat.reduceBEq, Nat.reduceAdd, Nat.reduceMul, Nat.reduceSub, Nat.reduceLT, Nat.reduceLeDiff, Nat.reduceEqDiff, Int.reduceToNat, Int.reduceBEq, Int.reduceBNe, Int.reduceLT, Int.reduceLE, Int.reduceEq, ]; try exact rfl)); all_goals try simp only [decide_eq_true_eq, decide_eq_false_iff_not, Bool.or_eq_true, Bool.and_eq_true, Bool.not_eq_true', Bool.or_eq_false_iff, Bool.and_eq_false_iff, Bool.not_eq_false', beq_iff_eq, bne_iff_ne, ne_eq, beq_eq_false_iff_ne, bne_eq_false_iff_eq, Bool.true_eq_false, Bool.false_eq_true, Decidable.not_not] at g1)
    · (simp (disch := first | omega | (simp only [go_sem] <;> omega) | fail) only [go_sem, ↓reduceIte, Nat.reduceBEq, Nat.reduceAdd, Nat.reduceMul, Nat.reduceSub, Nat.reduceLT, Nat.reduceLeDiff, Nat.reduceEqDiff, Int.reduceToNat, Int.reduceBEq, Int.reduceBNe, Int.reduceLT, Int.reduceLE, Int.reduceEq, ]; ((try (repeat' with_reducible refine And.intro ?_ ?_)); (try any_goals (first | (with_reducible first | refine z1 ?_ | refine z2 ?_ | refine z3 ?_) | omega | (show drawOk _ _ _ = true; kernel_rfl) | (refine fun _ => ?_; simp_all; done)))))
    · exact (he g1).elim
  obtain ⟨l28, l65⟩ := rdE_long he
  rw [parse_good he] at hP
  have hf := rdK_frm l
  have h4 := w4_bd l 12 (by omega)
  unfold Pk.enc at hP
  rw [hf] at hP
  generalize rdK l = q at *
  clear hf
  by_cases hid : 0 ≤ id ∧ id ≤ 65535
  rotate_left
  · have hr : refuseT l id = .tup [.str [], .int .i64 2] := by unfold refuseT; rw [if_neg (by omega), if_pos hid]
    rw [hr]
    (simp (disch := first | omega | (simp only [go_sem] <;> omega) | fail) only [go_sem, ↓reduceIte, Nat.reduceBEq, Nat.reduceAdd, Nat.reduceMul, Nat.reduceSub, Nat.reduceLT, Nat.reduceLeDiff, Nat.reduceEqDiff, Int.reduceToNat, Int.reduceBEq, Int.reduceBNe, Int.reduceLT, Int.reduceLE, Int.reduceEq, ]; ((try (repeat' with_reducible refine And.intro ?_ ?_)); (try any_goals (first | (with_reducible first | refine z1 ?_ | refine z2 ?_ | refine z3 ?_) | omega | (show drawOk _ _ _ = true; kernel_rfl) | (refine fun _ => ?_; simp_all; done)))))
    ((first | apply pr_psv | apply prD_psv | apply pr_qrunv | apply prD_qrunv) <;> (first | exact hP | (simp (disch := first | omega | (simp only [go_sem] <;> omega) | fail) only [go_sem, ↓reduceIte, Nat.reduceBEq, Nat.reduceAdd, Nat.reduceMul, Nat.reduceSub, Nat.reduceLT, Nat.reduceLeDiff, Nat.reduceEqDiff, Int.reduceToNat, Int.reduceBEq, Int.reduceBNe, Int.reduceLT, Int.reduceLE, Int.reduceEq, ]; first | exact rfl | ((try (repeat' with_reducible refine And.intro ?_ ?_)); (try any_goals (first | (with_reducible first | refine z1 ?_ | refine z2 ?_ | refine z3 ?_) | omega | (show drawOk _ _ _ = true; kernel_rfl) | (refine fun _ => ?_; simp_all; done)))))))
    (refine xw_if (t := ?_) ?_ (fun g1 => ?_) (fun g1 => ?_); (case refine_2 => (simp (disch := first | omega | (simp only [go_sem] <;> omega) | fail) only [go_sem, ↓reduceIte, Nat.reduceBEq, Nat.reduceAdd, Nat.reduceMul, Nat.reduceSub, Nat.reduceLT, Nat.reduceLeDiff, Nat.reduceEqDiff, Int.reduceToNat, Int.reduceBEq, Int.reduceBNe, Int.reduceLT, Int.reduceLE, Int.reduceEq, ]; try exact rfl)); all_goals try simp only [decide_eq_true_eq, decide_eq_false_iff_not, Bool.or_eq_true, Bool.and_eq_true, Bool.not_eq_true', Bool.or_eq_false_iff, Bool.and_eq_false_iff, Bool.not_eq_false', beq_iff_eq, bne_iff_ne, ne_eq, beq_eq_false_iff_ne, bne_eq_false_iff_eq, Bool.true_eq_false, Bool.false_eq_true, Decidable.not_not] at g1)
    (simp (disch := first | omega | (simp only [go_sem] <;> omega) | fail) only [go_sem, ↓reduceIte, Nat.reduceBEq, Nat.reduceAdd, Nat.reduceMul, Nat.reduceSub, Nat.reduceLT, Nat.reduceLeDiff, Nat.reduceEqDiff, Int.reduceToNat, Int.reduceBEq, Int.reduceBNe, Int.reduceLT, Int.reduceLE, Int.reduceEq, ]; ((try (repeat' with_reducible refine And.intro ?_ ?_)); (try any_goals (first | (with_reducible first | refine z1 ?_ | refine z2 ?_ | refine z3 ?_) | omega | (show drawOk _ _ _ = true; kernel_rfl) | (refine fun _ => ?_; simp_all; done)))))
    (refine xw_if (t := ?_) ?_ (fun g2 => ?_) (fun g2 => ?_); (case refine_2 => (simp (disch := first | omega | (simp only [go_sem] <;> omega) | fail) only [go_sem, ↓reduceIte, Nat.reduceBEq, Nat.reduceAdd, Nat.reduceMul, Nat.reduceSub, Nat.reduceLT, Nat.reduceLeDiff, Nat.reduceEqDiff, Int.reduceToNat, Int.reduceBEq, Int.reduceBNe, Int.reduceLT, Int.reduceLE, Int.reduceEq, ]; try exact rfl)); all_goals try simp only [decide_eq_true_eq, decide_eq_false_iff_not, Bool.or_eq_true, Bool.and_eq_true, Bool.not_eq_true', Bool.or_eq_false_iff, Bool.and_eq_false_iff, Bool.not_eq_false', beq_iff_eq, bne_iff_ne, ne_eq, beq_eq_false_iff_ne, bne_eq_false_iff_eq, Bool.true_eq_false, Bool.false_eq_true, Decidable.not_not] at g2)
    · (simp (disch := first | omega | (simp only [go_sem] <;> omega) | fail) only [go_sem, ↓reduceIte, Nat.reduceBEq, Nat.reduceAdd, Nat.reduceMul, Nat.reduceSub, Nat.reduceLT, Nat.reduceLeDiff, Nat.reduceEqDiff, Int.reduceToNat, Int.reduceBEq, Int.reduceBNe, Int.reduceLT, Int.reduceLE, Int.reduceEq, ]; ((try (repeat' with_reducible refine And.intro ?_ ?_)); (try any_goals (first | (with_reducible first | refine z1 ?_ | refine z2 ?_ | refine z3 ?_) | omega | (show drawOk _ _ _ = true; kernel_rfl) | (refine fun _ => ?_; simp_all; done)))))
    · omega
  have hr : refuseT l id = .tup [.str (refB l (w4 l 12) id), .int .i64 0] := by unfold refuseT; rw [if_neg (by omega), if_neg (by omega)]
  rw [hr]
  clear hr
  obtain ⟨z4, hz4⟩ : ∃ z4 : List UInt8, [0, 0, 0, 0] = z4 := ⟨_, rfl⟩
  obtain ⟨p4, hp4⟩ : ∃ p4 : List UInt8, [3, 13, 0, 0] = p4 := ⟨_, rfl⟩
  obtain ⟨p2, hp2⟩ : ∃ p2 : List UInt8, [3, 13] = p2 := ⟨_, rfl⟩
  have l4 : z4.length = 4 := by rw [← hz4]; rfl
  have m4 : p4.length = 4 := by rw [← hp4]; rfl
  have m2 : p2.length = 2 := by rw [← hp2]; rfl
  have hck : checkN ([3, 13] ++ [0, 0] ++ ([0, 0, 0, 0] ++ l.take 28)) = checkN (p4 ++ (z4 ++ l.take 28)) := by rw [← hp4, ← hz4]; rfl
  have hfin : refB l (w4 l 12) id = headB 1 167772414 (w4 l 12) 64 id 36 ++ (p2 ++ be (checkN (p4 ++ (z4 ++ l.take 28))) 2 ++ (z4 ++ l.take 28)) := by
    unfold refB refS; rw [hck, hp2, hz4]
  rw [hfin]
  clear hfin hck
  have hbl : (z4 ++ l.take 28).length = 32 := by rw [List.length_append, List.length_take]; omega
  have hCk := CheckOf_ps c.gl (p4 ++ (z4 ++ l.take 28)) (by rw [List.length_append]; omega)
  have hKl := checkN_le (p4 ++ (z4 ++ l.take 28))
  generalize checkN (p4 ++ (z4 ++ l.take 28)) = K at *
  have hhd := headOf_ps c.gl 1 167772414 (w4 l 12) 64 id 36 (by omega) (by omega) (by omega) (by omega) (by omega) (by omega)
  have hhl : (headB 1 167772414 (w4 l 12) 64 id 36).length = 20 := headB_len _ _ _ _ _ _
  generalize headB 1 167772414 (w4 l 12) 64 id 36 = H at *
  have hBK := bytesOf_ps c.gl K 2 (by omega) (by omega) (by decide)
  generalize hB : z4 ++ l.take 28 = B at *
  (simp (disch := first | omega | (simp only [go_sem] <;> omega) | fail) only [go_sem, ↓reduceIte, Nat.reduceBEq, Nat.reduceAdd, Nat.reduceMul, Nat.reduceSub, Nat.reduceLT, Nat.reduceLeDiff, Nat.reduceEqDiff, Int.reduceToNat, Int.reduceBEq, Int.reduceBNe, Int.reduceLT, Int.reduceLE, Int.reduceEq, ]; ((try (repeat' with_reducible refine And.intro ?_ ?_)); (try any_goals (first | (with_reducible first | refine z1 ?_ | refine z2 ?_ | refine z3 ?_) | omega | (show drawOk _ _ _ = true; kernel_rfl) | (refine fun _ => ?_; simp_all; done)))))
  ((first | apply pr_psv | apply prD_psv | apply pr_qrunv | apply prD_qrunv) <;> (first | exact hP | (simp (disch := first | omega | (simp only [go_sem] <;> omega) | fail) only [go_sem, ↓reduceIte, Nat.reduceBEq, Nat.reduceAdd, Nat.reduceMul, Nat.reduceSub, Nat.reduceLT, Nat.reduceLeDiff, Nat.reduceEqDiff, Int.reduceToNat, Int.reduceBEq, Int.reduceBNe, Int.reduceLT, Int.reduceLE, Int.reduceEq, ]; first | exact rfl | ((try (repeat' with_reducible refine And.intro ?_ ?_)); (try any_goals (first | (with_reducible first | refine z1 ?_ | refine z2 ?_ | refine z3 ?_) | omega | (show drawOk _ _ _ = true; kernel_rfl) | (refine fun _ => ?_; simp_all; done)))))))
  (refine xw_if (t := ?_) ?_ (fun g1 => ?_) (fun g1 => ?_); (case refine_2 => (simp (disch := first | omega | (simp only [go_sem] <;> omega) | fail) only [go_sem, ↓reduceIte, Nat.reduceBEq, Nat.reduceAdd, Nat.reduceMul, Nat.reduceSub, Nat.reduceLT, Nat.reduceLeDiff, Nat.reduceEqDiff, Int.reduceToNat, Int.reduceBEq, Int.reduceBNe, Int.reduceLT, Int.reduceLE, Int.reduceEq, ]; try exact rfl)); all_goals try simp only [decide_eq_true_eq, decide_eq_false_iff_not, Bool.or_eq_true, Bool.and_eq_true, Bool.not_eq_true', Bool.or_eq_false_iff, Bool.and_eq_false_iff, Bool.not_eq_false', beq_iff_eq, bne_iff_ne, ne_eq, beq_eq_false_iff_ne, bne_eq_false_iff_eq, Bool.true_eq_false, Bool.false_eq_true, Decidable.not_not] at g1)
  (simp (disch := first | omega | (simp only [go_sem] <;> omega) | fail) only [go_sem, ↓reduceIte, Nat.reduceBEq, Nat.reduceAdd, Nat.reduceMul, Nat.reduceSub, Nat.reduceLT, Nat.reduceLeDiff, Nat.reduceEqDiff, Int.reduceToNat, Int.reduceBEq, Int.reduceBNe, Int.reduceLT, Int.reduceLE, Int.reduceEq, ]; ((try (repeat' with_reducible refine And.intro ?_ ?_)); (try any_goals (first | (with_reducible first | refine z1 ?_ | refine z2 ?_ | refine z3 ?_) | omega | (show drawOk _ _ _ = true; kernel_rfl) | (refine fun _ => ?_; simp_all; done)))))
  (refine xw_if (t := ?_) ?_ (fun g2 => ?_) (fun g2 => ?_); (case refine_2 => (simp (disch := first | omega | (simp only [go_sem] <;> omega) | fail) only [go_sem, ↓reduceIte, Nat.reduceBEq, Nat.reduceAdd, Nat.reduceMul, Nat.reduceSub, Nat.reduceLT, Nat.reduceLeDiff, Nat.reduceEqDiff, Int.reduceToNat, Int.reduceBEq, Int.reduceBNe, Int.reduceLT, Int.reduceLE, Int.reduceEq, ]; try exact rfl)); all_goals try simp only [decide_eq_true_eq, decide_eq_false_iff_not, Bool.or_eq_true, Bool.and_eq_true, Bool.not_eq_true', Bool.or_eq_false_iff, Bool.and_eq_false_iff, Bool.not_eq_false', beq_iff_eq, bne_iff_ne, ne_eq, beq_eq_false_iff_ne, bne_eq_false_iff_eq, Bool.true_eq_false, Bool.false_eq_true, Decidable.not_not] at g2)
  · omega
  (simp (disch := first | omega | (simp only [go_sem] <;> omega) | fail) only [go_sem, ↓reduceIte, Nat.reduceBEq, Nat.reduceAdd, Nat.reduceMul, Nat.reduceSub, Nat.reduceLT, Nat.reduceLeDiff, Nat.reduceEqDiff, Int.reduceToNat, Int.reduceBEq, Int.reduceBNe, Int.reduceLT, Int.reduceLE, Int.reduceEq, hz4, hB, l4]; ((try (repeat' with_reducible refine And.intro ?_ ?_)); (try any_goals (first | (with_reducible first | refine z1 ?_ | refine z2 ?_ | refine z3 ?_) | omega | (show drawOk _ _ _ = true; kernel_rfl) | (refine fun _ => ?_; simp_all; done)))))
  ((first | apply pr_psv | apply prD_psv | apply pr_qrunv | apply prD_qrunv) <;> (first | exact hhd | (simp (disch := first | omega | (simp only [go_sem] <;> omega) | fail) only [go_sem, ↓reduceIte, Nat.reduceBEq, Nat.reduceAdd, Nat.reduceMul, Nat.reduceSub, Nat.reduceLT, Nat.reduceLeDiff, Nat.reduceEqDiff, Int.reduceToNat, Int.reduceBEq, Int.reduceBNe, Int.reduceLT, Int.reduceLE, Int.reduceEq, hp2, hp4, hhl, m2, m4, hbl]; first | exact rfl | ((try (repeat' with_reducible refine And.intro ?_ ?_)); (try any_goals (first | (with_reducible first | refine z1 ?_ | refine z2 ?_ | refine z3 ?_) | omega | (show drawOk _ _ _ = true; kernel_rfl) | (refine fun _ => ?_; simp_all; done)))))))
  ((first | apply pr_psv | apply prD_psv | apply pr_qrunv | apply prD_qrunv) <;> (first | exact hCk | (simp (disch := first | omega | (simp only [go_sem] <;> omega) | fail) only [go_sem, ↓reduceIte, Nat.reduceBEq, Nat.reduceAdd, Nat.reduceMul, Nat.reduceSub, Nat.reduceLT, Nat.reduceLeDiff, Nat.reduceEqDiff, Int.reduceToNat, Int.reduceBEq, Int.reduceBNe, Int.reduceLT, Int.reduceLE, Int.reduceEq, hp2, hp4, hhl, m2, m4, hbl]; first | exact rfl | ((try (repeat' with_reducible refine And.intro ?_ ?_)); (try any_goals (first | (with_reducible first | refine z1 ?_ | refine z2 ?_ | refine z3 ?_) | omega | (show drawOk _ _ _ = true; kernel_rfl) | (refine fun _ => ?_; simp_all; done)))))))
  ((first | apply pr_psv | apply prD_psv | apply pr_qrunv | apply prD_qrunv) <;> (first | exact hBK | (simp (disch := first | omega | (simp only [go_sem] <;> omega) | fail) only [go_sem, ↓reduceIte, Nat.reduceBEq, Nat.reduceAdd, Nat.reduceMul, Nat.reduceSub, Nat.reduceLT, Nat.reduceLeDiff, Nat.reduceEqDiff, Int.reduceToNat, Int.reduceBEq, Int.reduceBNe, Int.reduceLT, Int.reduceLE, Int.reduceEq, hp2, hp4, hhl, m2, m4, hbl, be_len]; first | exact rfl | ((try (repeat' with_reducible refine And.intro ?_ ?_)); (try any_goals (first | (with_reducible first | refine z1 ?_ | refine z2 ?_ | refine z3 ?_) | omega | (show drawOk _ _ _ = true; kernel_rfl) | (refine fun _ => ?_; simp_all; done)))))))
  simp only [List.append_assoc]
/-- A number brought to 0 to n - 1. -/
theorem wpick_ps (gl : Nat → AV) (k n : Int) (h0 : 0 < n) (h1 : n ≤ 4611686018427387904) (hk : -9223372036854775808 ≤ k ∧ k ≤ 9223372036854775807) : PS Try.prog gl 19 [.int .i64 k, .int .i64 n] (.int .i64 (k % n)) := by
  refine ft_wpick.ps (of_decide_eq_true rfl) (by simp [nmOk]) fun c hN hg => ?_
  unfold T_wpick
  have hb := tmod_bd k n h0
  have he : k.tmod n = k % n ∨ k.tmod n = k % n - n := by
    rw [Int.tmod_eq_emod]
    split
    · exact .inl (by omega)
    · right
      have e : (n.natAbs : Int) = n := by omega
      rw [e]
  have h2 := Int.emod_nonneg k (show n ≠ 0 by omega)
  have h3 := Int.emod_lt_of_pos k h0
  generalize k % n = s at *
  (simp (disch := first | omega | (simp only [go_sem] <;> omega) | fail) only [go_sem, ↓reduceIte, Nat.reduceBEq, Nat.reduceAdd, Nat.reduceMul, Nat.reduceSub, Nat.reduceLT, Nat.reduceLeDiff, Nat.reduceEqDiff, Int.reduceToNat, Int.reduceBEq, Int.reduceBNe, Int.reduceLT, Int.reduceLE, Int.reduceEq, ]; ((try (repeat' with_reducible refine And.intro ?_ ?_)); (try any_goals (first | (with_reducible first | refine z1 ?_ | refine z2 ?_ | refine z3 ?_) | omega | (show drawOk _ _ _ = true; kernel_rfl) | (refine fun _ => ?_; simp_all; done)))))
  (refine xw_if (t := ?_) ?_ (fun g1 => ?_) (fun g1 => ?_); (case refine_2 => (simp (disch := first | omega | (simp only [go_sem] <;> omega) | fail) only [go_sem, ↓reduceIte, Nat.reduceBEq, Nat.reduceAdd, Nat.reduceMul, Nat.reduceSub, Nat.reduceLT, Nat.reduceLeDiff, Nat.reduceEqDiff, Int.reduceToNat, Int.reduceBEq, Int.reduceBNe, Int.reduceLT, Int.reduceLE, Int.reduceEq, ]; try exact rfl)); all_goals try simp only [decide_eq_true_eq, decide_eq_false_iff_not, Bool.or_eq_true, Bool.and_eq_true, Bool.not_eq_true', Bool.or_eq_false_iff, Bool.and_eq_false_iff, Bool.not_eq_false', beq_iff_eq, bne_iff_ne, ne_eq, beq_eq_false_iff_ne, bne_eq_false_iff_eq, Bool.true_eq_false, Bool.false_eq_true, Decidable.not_not] at g1)
  · (simp (disch := first | omega | (simp only [go_sem] <;> omega) | fail) only [go_sem, ↓reduceIte, Nat.reduceBEq, Nat.reduceAdd, Nat.reduceMul, Nat.reduceSub, Nat.reduceLT, Nat.reduceLeDiff, Nat.reduceEqDiff, Int.reduceToNat, Int.reduceBEq, Int.reduceBNe, Int.reduceLT, Int.reduceLE, Int.reduceEq, ]; ((try (repeat' with_reducible refine And.intro ?_ ?_)); (try any_goals (first | (with_reducible first | refine z1 ?_ | refine z2 ?_ | refine z3 ?_) | omega | (show drawOk _ _ _ = true; kernel_rfl) | (refine fun _ => ?_; simp_all; done)))))
  · (simp (disch := first | omega | (simp only [go_sem] <;> omega) | fail) only [go_sem, ↓reduceIte, Nat.reduceBEq, Nat.reduceAdd, Nat.reduceMul, Nat.reduceSub, Nat.reduceLT, Nat.reduceLeDiff, Nat.reduceEqDiff, Int.reduceToNat, Int.reduceBEq, Int.reduceBNe, Int.reduceLT, Int.reduceLE, Int.reduceEq, ]; ((try (repeat' with_reducible refine And.intro ?_ ?_)); (try any_goals (first | (with_reducible first | refine z1 ?_ | refine z2 ?_ | refine z3 ?_) | omega | (show drawOk _ _ _ = true; kernel_rfl) | (refine fun _ => ?_; simp_all; done)))))
set_option maxHeartbeats 2000000 in
theorem WireRefuses_ps (gl : Nat → AV) (l : List UInt8) (id : Int) (hl : l.length ≤ 140737488351232) : PS Try.prog gl 7 [.str l, .int .i64 id] (.bool true) := by
  refine ft_LRefuses.ps (of_decide_eq_true rfl) (by simp [nmOk]) fun c hN hg => ?_
  unfold T_LRefuses
  have h1 : ∃ (q : List UInt8) (e : Int), refuseT l id = .tup [.str q, .int .i64 e] := by
    unfold refuseT
    split
    · exact ⟨_, _, rfl⟩
    · split <;> exact ⟨_, _, rfl⟩
  obtain ⟨q, e, hq⟩ := h1
  have h2 := Refuse_ps c.gl l id hl
  have h3 := RefuseR_ps c.gl l id hl
  rw [hq] at h2 h3
  (simp (disch := first | omega | (simp only [go_sem] <;> omega) | fail) only [go_sem, ↓reduceIte, Nat.reduceBEq, Nat.reduceAdd, Nat.reduceMul, Nat.reduceSub, Nat.reduceLT, Nat.reduceLeDiff, Nat.reduceEqDiff, Int.reduceToNat, Int.reduceBEq, Int.reduceBNe, Int.reduceLT, Int.reduceLE, Int.reduceEq, ]; ((try (repeat' with_reducible refine And.intro ?_ ?_)); (try any_goals (first | (with_reducible first | refine z1 ?_ | refine z2 ?_ | refine z3 ?_) | omega | (show drawOk _ _ _ = true; kernel_rfl) | (refine fun _ => ?_; simp_all; done)))))
  ((first | apply pr_psv | apply prD_psv | apply pr_qrunv | apply prD_qrunv) <;> (first | exact h2 | (simp (disch := first | omega | (simp only [go_sem] <;> omega) | fail) only [go_sem, ↓reduceIte, Nat.reduceBEq, Nat.reduceAdd, Nat.reduceMul, Nat.reduceSub, Nat.reduceLT, Nat.reduceLeDiff, Nat.reduceEqDiff, Int.reduceToNat, Int.reduceBEq, Int.reduceBNe, Int.reduceLT, Int.reduceLE, Int.reduceEq, ]; first | exact rfl | ((try (repeat' with_reducible refine And.intro ?_ ?_)); (try any_goals (first | (with_reducible first | refine z1 ?_ | refine z2 ?_ | refine z3 ?_) | omega | (show drawOk _ _ _ = true; kernel_rfl) | (refine fun _ => ?_; simp_all; done)))))))
  ((first | apply pr_psv | apply prD_psv | apply pr_qrunv | apply prD_qrunv) <;> (first | exact h3 | (simp (disch := first | omega | (simp only [go_sem] <;> omega) | fail) only [go_sem, ↓reduceIte, Nat.reduceBEq, Nat.reduceAdd, Nat.reduceMul, Nat.reduceSub, Nat.reduceLT, Nat.reduceLeDiff, Nat.reduceEqDiff, Int.reduceToNat, Int.reduceBEq, Int.reduceBNe, Int.reduceLT, Int.reduceLE, Int.reduceEq, ]; first | exact rfl | ((try (repeat' with_reducible refine And.intro ?_ ?_)); (try any_goals (first | (with_reducible first | refine z1 ?_ | refine z2 ?_ | refine z3 ?_) | omega | (show drawOk _ _ _ = true; kernel_rfl) | (refine fun _ => ?_; simp_all; done)))))))
  ((first | apply pr_psv | apply prD_psv | apply pr_qrunv | apply prD_qrunv) <;> (first | exact (buildsL_ps _) | (simp (disch := first | omega | (simp only [go_sem] <;> omega) | fail) only [go_sem, ↓reduceIte, Nat.reduceBEq, Nat.reduceAdd, Nat.reduceMul, Nat.reduceSub, Nat.reduceLT, Nat.reduceLeDiff, Nat.reduceEqDiff, Int.reduceToNat, Int.reduceBEq, Int.reduceBNe, Int.reduceLT, Int.reduceLE, Int.reduceEq, ]; first | exact rfl | ((try (repeat' with_reducible refine And.intro ?_ ?_)); (try any_goals (first | (with_reducible first | refine z1 ?_ | refine z2 ?_ | refine z3 ?_) | omega | (show drawOk _ _ _ = true; kernel_rfl) | (refine fun _ => ?_; simp_all; done)))))))
end Go.Proofs.Ytblimjilinkmbaa
