/- What the document's own functions of pools and maps answer. No conditions but the ones that stand in each. -/
import Derived.Test.YtphaicaobepimaaGa
import Derived.Test.YtphaicaobepimaaDs
namespace Go.Proofs.Ytphaicaobepimaa
set_option linter.all false
set_option linter.unusedSimpArgs false
open Go.RowKit

theorem rGoodPool_ps (gl : Nat → AV) (p : Pool) (hp : p.wf) : PS Try.prog gl 48 [.agg p.enc] (.bool p.good) := by
  refine ft_rGoodPool.ps (of_decide_eq_true rfl) (by simp [nmOk]) fun c hN hg => ?_
  unfold T_rGoodPool
  have e2 := Pool.enc_len hp
  have e3 := own_take p hp
  (have zf1 := @e2; have zf2 := @e3; refine XG ?_; clear zf1 zf2; ((try (repeat' with_reducible refine And.intro ?_ ?_)); (try any_goals (first | refine zm ?_ | exact CL | fail))))
  refine loop_rule (fun a : Nat => a ≤ 3 ∧ (p.own.take (a * 6)).all goodI = true) (fun a => ⟨[(8, .agg (ints p.own)), (9, .int .i64 a)], [], 0⟩) (fun a => 3 - a) ft_rGoodPool.mixed hN
    ⟨0, ⟨by omega, rfl⟩, [], by (refine XG ?_; ((try (repeat' with_reducible refine And.intro ?_ ?_)); (try any_goals (first | refine zm ?_ | exact CL | fail))))⟩ fun a hI => ?_
  obtain ⟨ha, hall⟩ := id hI
  clear hI
  (refine XG ?_; ((try (repeat' with_reducible refine And.intro ?_ ?_)); (try any_goals (first | refine zm ?_ | exact CL | fail))))
  (refine xw_ifp (fun h1 => ?_) (fun h1 => ?_) <;> try exact h1.elim)
  · have ha3 : a < 3 := by omega
    have hr := row_take' p a
    have hrl := row_length p hp a ha3
    (have zf1 := @hr; have zf2 := @hp.own; refine XG ?_; clear zf1 zf2; ((try (repeat' with_reducible refine And.intro ?_ ?_)); (try any_goals (first | refine zm ?_ | exact CL | fail))))
    refine loop_rule (fun k : Nat => k ≤ 6 ∧ (p.own.take (a * 6 + k)).all goodI = true) (fun k => ⟨[(8, .agg (ints p.own)), (9, .int .i64 a), (12, .agg (ints (p.row a))), (13, .int .i64 k)], [], 0⟩) (fun k => 6 - k) ft_rGoodPool.mixed hN
      ⟨0, ⟨by omega, hall⟩, [], by (refine XG ?_; ((try (repeat' with_reducible refine And.intro ?_ ?_)); (try any_goals (first | refine zm ?_ | exact CL | fail))))⟩ fun k hJ => ?_
    obtain ⟨hk, hall2⟩ := id hJ
    clear hJ
    (refine XG ?_; ((try (repeat' with_reducible refine And.intro ?_ ?_)); (try any_goals (first | refine zm ?_ | exact CL | fail))))
    (refine xw_ifp (fun h2 => ?_) (fun h2 => ?_) <;> try exact h2.elim)
    · have hk6 : k < 6 := by omega
      have hv := row_getD p a k hk6
      have ho : p.own[a * 6 + k]? = some (p.ow a k) := by
        unfold Pool.ow
        rw [List.getD_eq_getElem?_getD, List.getElem?_eq_getElem (by rw [hp.own]; omega)]; rfl
      generalize p.ow a k = x at *
      (have zf1 := @hrl; have zf2 := @hv; refine XG ?_; clear zf1 zf2; ((try (repeat' with_reducible refine And.intro ?_ ?_)); (try any_goals (first | refine zm ?_ | exact CL | fail))))
      (refine xw_ifp (fun h3 => ?_) (fun h3 => ?_) <;> try exact h3.elim)
      · have hb : goodI x = false := h3.elim (goodI_lo x) (goodI_hi x)
        (have zf1 := good_not p _ x ho hb; refine XG ?_; clear zf1; ((try (repeat' with_reducible refine And.intro ?_ ?_)); (try any_goals (first | refine zm ?_ | exact CL | fail))))
      · (refine XG ?_; ((try (repeat' with_reducible refine And.intro ?_ ?_)); (try any_goals (first | refine zm ?_ | exact CL | fail))))
        refine ⟨k + 1, ⟨by omega, good_snoc p _ x ho hall2 (goodI_in x h3.1 h3.2)⟩, ⟨[], ?_⟩, by omega⟩
        (refine XG ?_; ((try (repeat' with_reducible refine And.intro ?_ ?_)); (try any_goals (first | refine zm ?_ | exact CL | fail))))
    · have : k = 6 := by omega
      subst this
      (refine XG ?_; ((try (repeat' with_reducible refine And.intro ?_ ?_)); (try any_goals (first | refine zm ?_ | exact CL | fail))))
      refine ⟨a + 1, ⟨by omega, by rw [show (a + 1) * 6 = a * 6 + 6 by omega]; exact hall2⟩, ⟨[], ?_⟩, by omega⟩
      (refine XG ?_; ((try (repeat' with_reducible refine And.intro ?_ ?_)); (try any_goals (first | refine zm ?_ | exact CL | fail))))
  · have : a = 3 := by omega
    subst this
    (have zf1 := good_all p hall hp; refine XG ?_; clear zf1; ((try (repeat' with_reducible refine And.intro ?_ ?_)); (try any_goals (first | refine zm ?_ | exact CL | fail))))
theorem rchosen_ps (gl : Nat → AV) (k n : Int) (hn : 0 < n) (hn2 : n ≤ 4611686018427387904) : PS Try.prog gl 72 [.int .i64 k, .int .i64 n] (.int .i64 (k % n)) := by
  refine ft_rchosen.ps (of_decide_eq_true rfl) (by simp [nmOk]) fun c hN hg => ?_
  unfold T_rchosen
  have hb := tmod_bdQ k n hn
  have he : (k.tmod n + n).tmod n = k % n := by
    rw [Int.tmod_eq_emod_of_nonneg (by omega), Int.add_emod_right]
    have h1 := Int.mul_tdiv_add_tmod k n
    conv => rhs; rw [← h1, Int.add_comm, Int.add_mul_emod_self_left]
  (have zf1 := @he; refine XG ?_; clear zf1; ((try (repeat' with_reducible refine And.intro ?_ ?_)); (try any_goals (first | refine zm ?_ | exact CL | fail))))
set_option maxHeartbeats 1000000 in
theorem rfree_in (gl : Nat → AV) (p : Pool) (hp : p.wf) (a : Nat) (ha : a < 3) : PS Try.prog gl 71 [.agg p.enc, .int .i64 a] (.isl (freB (p.row a) 6).length (ints (natI (freB (p.row a) 6)))) := by
  refine ft_rfree.ps (of_decide_eq_true rfl) (by simp [nmOk, nm_ints]) fun c hN hg => ?_
  unfold T_rfree
  have e2 := Pool.enc_len hp
  have hrw := row_take p hp a ha
  have hrl := row_length p hp a ha
  (have zf1 := @e2; refine XG ?_; clear zf1; ((try (repeat' with_reducible refine And.intro ?_ ?_)); (try any_goals (first | refine zm ?_ | exact CL | fail))))
  (refine xw_ifp (fun h1 => ?_) (fun h1 => ?_) <;> try exact h1.elim)
  · omega
  (have zf1 := @e2; have zf2 := @hrw; refine XG ?_; clear zf1 zf2; ((try (repeat' with_reducible refine And.intro ?_ ?_)); (try any_goals (first | refine zm ?_ | exact CL | fail))))
  refine loop_nil 5 1 rfl rfl ?_
  refine loop_rule (fun k : Nat => k ≤ 6) (fun k => ⟨[(5, .sl 1 1 0 (freB (p.row a) k).length (freB (p.row a) k).length), (17, .agg (ints (p.row a))), (18, .int .i64 k)], [(0, .cells p.enc), (1, .cells (ints (natI (freB (p.row a) k))))], 2⟩) (fun k => 6 - k) ft_rfree.mixed hN
    ⟨0, by omega, [], by (have zf1 := @St.named.eq_1; refine XG ?_; clear zf1; ((try (repeat' with_reducible refine And.intro ?_ ?_)); (try any_goals (first | refine zm ?_ | exact CL | fail)))) <;> exact rfl⟩ fun k hk => ?_
  have hnl := natI_len (freB (p.row a) k)
  have hfl : (freB (p.row a) k).length ≤ k := by have := List.length_filter_le (fun j => (p.row a).getD j 1 == 0) (List.range k); simpa [freB] using this
  (refine XG ?_; ((try (repeat' with_reducible refine And.intro ?_ ?_)); (try any_goals (first | refine zm ?_ | exact CL | fail))))
  (refine xw_ifp (fun g2 => ?_) (fun g2 => ?_) <;> try exact g2.elim)
  · have hk6 : k < 6 := by omega
    have hv := row_getD p a k hk6
    have hs := freB_succ (p.row a) k
    have hv1 : (p.row a).getD k 1 = (p.row a).getD k 0 := by simp [List.getD, show k < (p.row a).length by omega]
    rw [hv1, hv] at hs
    generalize p.ow a k = x at *
    (have zf1 := @hrl; have zf2 := @hv; refine XG ?_; clear zf1 zf2; ((try (repeat' with_reducible refine And.intro ?_ ?_)); (try any_goals (first | refine zm ?_ | exact CL | fail))))
    (refine xw_ifp (fun g3 => ?_) (fun g3 => ?_) <;> try exact g3.elim)
    · have hsk : freB (p.row a) (k + 1) = freB (p.row a) k ++ [k] := by rw [hs, if_pos g3]
      have hsn := natI_snoc (freB (p.row a) k) k
      have hln : (freB (p.row a) k ++ [k]).length = (freB (p.row a) k).length + 1 := by simp
      (refine XG ?_; ((try (repeat' with_reducible refine And.intro ?_ ?_)); (try any_goals (first | refine zm ?_ | exact CL | fail))))
      ((first | apply pr_app | apply prD_app | apply pr_bsl | apply prD_bsl | apply pr_s2b | apply prD_s2b); (refine XG ?_; ((try (repeat' with_reducible refine And.intro ?_ ?_)); (try any_goals (first | refine zm ?_ | exact CL | fail)))))
      ((first | apply pr_app | apply prD_app | apply pr_bsl | apply prD_bsl | apply pr_s2b | apply prD_s2b); (have zf1 := @hnl; refine XG ?_; clear zf1; ((try (repeat' with_reducible refine And.intro ?_ ?_)); (try any_goals (first | refine zm ?_ | exact CL | fail)))))
      refine ⟨k + 1, by omega, ⟨[(1, 3)], ?_⟩, by omega⟩
      (have zf1 := @hsk; have zf2 := @hsn; have zf3 := @hln; refine XG ?_; clear zf1 zf2 zf3; ((try (repeat' with_reducible refine And.intro ?_ ?_)); (try any_goals (first | refine zm ?_ | exact CL | fail))))
    · have hsk : freB (p.row a) (k + 1) = freB (p.row a) k := by rw [hs, if_neg g3, List.append_nil]
      (refine XG ?_; ((try (repeat' with_reducible refine And.intro ?_ ?_)); (try any_goals (first | refine zm ?_ | exact CL | fail))))
      refine ⟨k + 1, by omega, ⟨[], ?_⟩, by omega⟩
      (have zf1 := @hsk; refine XG ?_; clear zf1; ((try (repeat' with_reducible refine And.intro ?_ ?_)); (try any_goals (first | refine zm ?_ | exact CL | fail))))
  · have : k = 6 := by omega
    subst this
    (have zf1 := @hnl; refine XG ?_; clear zf1; ((try (repeat' with_reducible refine And.intro ?_ ?_)); (try any_goals (first | refine zm ?_ | exact CL | fail))))
theorem free_left (p : Pool) (hp : p.wf) (a : Nat) (ha : a < 3) : (freB (p.row a) 6).length = p.left a := by
  rw [freB_len _ 6 (by rw [row_length p hp a ha]; omega), left_in p a ha, List.take_of_length_le (by rw [row_length p hp a ha]; omega)]
set_option maxHeartbeats 1000000 in
theorem rPick_ps (gl : Nat → AV) (p : Pool) (hp : p.wf) (draw : Int) : PS Try.prog gl 55 [.agg p.enc, .int .i64 draw] (.tup [.int .i64 (p.pick draw).1, .int .i64 (p.pick draw).2]) := by
  refine ft_rPick.ps (of_decide_eq_true rfl) (by simp [nmOk, nmAll]) fun c hN hg => ?_
  unfold T_rPick
  have e2 := Pool.enc_len hp
  have hG := rGoodPool_ps c.gl p hp
  by_cases hgd : p.good = true
  rotate_left
  · have hr : p.pick draw = (0, 2) := if_neg hgd
    have hgd : p.good = false := by simpa using hgd
    rw [hgd] at hG
    rw [hr]
    (have zf1 := @e2; refine XG ?_; clear zf1; ((try (repeat' with_reducible refine And.intro ?_ ?_)); (try any_goals (first | refine zm ?_ | exact CL | fail))))
    ((first | apply pr_psv | apply prD_psv | apply pr_qrunv | apply prD_qrunv) <;> (first | exact hG | (have zf1 := @e2; refine XG ?_; clear zf1; first | exact rfl | exact True.intro | ((try (repeat' with_reducible refine And.intro ?_ ?_)); (try any_goals (first | refine zm ?_ | exact CL | fail))))))
    (refine xw_ifp (fun h1 => ?_) (fun h1 => ?_) <;> try exact h1.elim)
    (refine XG ?_; ((try (repeat' with_reducible refine And.intro ?_ ?_)); (try any_goals (first | refine zm ?_ | exact CL | fail))))
  have hr : p.pick draw = (if (p.opens 3).length = 0 then ((0 : Int), (10 : Int)) else ((((p.opens 3).getD (draw % ((p.opens 3).length : Int)).toNat 0 : Nat) : Int), (0 : Int))) := if_pos hgd
  rw [hgd] at hG
  rw [hr]
  clear hr
  (have zf1 := @e2; refine XG ?_; clear zf1; ((try (repeat' with_reducible refine And.intro ?_ ?_)); (try any_goals (first | refine zm ?_ | exact CL | fail))))
  ((first | apply pr_psv | apply prD_psv | apply pr_qrunv | apply prD_qrunv) <;> (first | exact hG | (have zf1 := @e2; refine XG ?_; clear zf1; first | exact rfl | exact True.intro | ((try (repeat' with_reducible refine And.intro ?_ ?_)); (try any_goals (first | refine zm ?_ | exact CL | fail))))))
  (refine xw_ifp (fun h1 => ?_) (fun h1 => ?_) <;> try exact h1.elim)
  (refine XG ?_; ((try (repeat' with_reducible refine And.intro ?_ ?_)); (try any_goals (first | refine zm ?_ | exact CL | fail))))
  refine loop_nil 6 1 rfl rfl ?_
  refine loop_rule (fun k : Nat => k ≤ 3) (fun k => ⟨[(1, .int .i64 draw), (2, .ptr 0 0), (6, .sl 1 1 0 (p.opens k).length (p.opens k).length), (11, .int .i64 k)], [(0, .cells p.enc), (1, .cells (ints (natI (p.opens k))))], 2⟩) (fun k => 3 - k) ft_rPick.mixed hN
    ⟨0, by omega, [], by (have zf1 := @St.named.eq_1; refine XG ?_; clear zf1; ((try (repeat' with_reducible refine And.intro ?_ ?_)); (try any_goals (first | refine zm ?_ | exact CL | fail)))) <;> exact rfl⟩ fun k hk => ?_
  have hol := opens_le p k
  (refine XG ?_; ((try (repeat' with_reducible refine And.intro ?_ ?_)); (try any_goals (first | refine zm ?_ | exact CL | fail))))
  (refine xw_ifp (fun h2 => ?_) (fun h2 => ?_) <;> try exact h2.elim)
  · have hk3 : k < 3 := by omega
    have hd := Pool.enc_dr hp hk3
    have hL := rfree_in c.gl p hp k hk3
    have hos := opens_succ p k
    unfold Pool.open_ at hos
    have hfl := free_left p hp k hk3
    rw [← hfl] at hos
    have hnl := natI_len (p.opens k)
    generalize freB (p.row k) 6 = W at *
    have hnw := natI_len W
    cases hdk : p.dra k with
    | true =>
      rw [hdk] at hd hos
      have hos : p.opens (k + 1) = p.opens k := by simpa using hos
      (have zf1 := @e2; refine XG ?_; clear zf1; ((try (repeat' with_reducible refine And.intro ?_ ?_)); (try any_goals (first | refine zm ?_ | exact CL | fail))))
      ((first | apply pr_psv | apply prD_psv | apply pr_qrunv | apply prD_qrunv) <;> (first | exact hL | (have zf1 := @e2; have zf2 := @hd; refine XG ?_; clear zf1 zf2; first | exact rfl | exact True.intro | ((try (repeat' with_reducible refine And.intro ?_ ?_)); (try any_goals (first | refine zm ?_ | exact CL | fail))))))
      (refine xw_ifp (fun h3 => ?_) (fun h3 => ?_) <;> try exact h3.elim)
      (refine XG ?_; ((try (repeat' with_reducible refine And.intro ?_ ?_)); (try any_goals (first | refine zm ?_ | exact CL | fail))))
      refine ⟨k + 1, by omega, ⟨[], ?_⟩, by omega⟩
      (have zf1 := @hos; refine XG ?_; clear zf1; ((try (repeat' with_reducible refine And.intro ?_ ?_)); (try any_goals (first | refine zm ?_ | exact CL | fail))))
    | false =>
      rw [hdk] at hd hos
      (have zf1 := @e2; refine XG ?_; clear zf1; ((try (repeat' with_reducible refine And.intro ?_ ?_)); (try any_goals (first | refine zm ?_ | exact CL | fail))))
      ((first | apply pr_psv | apply prD_psv | apply pr_qrunv | apply prD_qrunv) <;> (first | exact hL | (have zf1 := @e2; have zf2 := @hd; refine XG ?_; clear zf1 zf2; first | exact rfl | exact True.intro | ((try (repeat' with_reducible refine And.intro ?_ ?_)); (try any_goals (first | refine zm ?_ | exact CL | fail))))))
      (refine xw_ifp (fun h3 => ?_) (fun h3 => ?_) <;> try exact h3.elim)
      · have hos : p.opens (k + 1) = p.opens k ++ [k] := by rw [hos, decide_eq_true (by omega : 0 < W.length)]; rfl
        have hsn := natI_snoc (p.opens k) k
        have hln : (p.opens k ++ [k]).length = (p.opens k).length + 1 := by simp
        (refine XG ?_; ((try (repeat' with_reducible refine And.intro ?_ ?_)); (try any_goals (first | refine zm ?_ | exact CL | fail))))
        ((first | apply pr_app | apply prD_app | apply pr_bsl | apply prD_bsl | apply pr_s2b | apply prD_s2b); (refine XG ?_; ((try (repeat' with_reducible refine And.intro ?_ ?_)); (try any_goals (first | refine zm ?_ | exact CL | fail)))))
        ((first | apply pr_app | apply prD_app | apply pr_bsl | apply prD_bsl | apply pr_s2b | apply prD_s2b); (have zf1 := @hnl; refine XG ?_; clear zf1; ((try (repeat' with_reducible refine And.intro ?_ ?_)); (try any_goals (first | refine zm ?_ | exact CL | fail)))))
        refine ⟨k + 1, by omega, ⟨[(1, 3)], ?_⟩, by omega⟩
        (have zf1 := @hos; have zf2 := @hsn; have zf3 := @hln; refine XG ?_; clear zf1 zf2 zf3; ((try (repeat' with_reducible refine And.intro ?_ ?_)); (try any_goals (first | refine zm ?_ | exact CL | fail))))
      · have hos : p.opens (k + 1) = p.opens k := by rw [hos, decide_eq_false (by omega : ¬ 0 < W.length)]; simp
        (refine XG ?_; ((try (repeat' with_reducible refine And.intro ?_ ?_)); (try any_goals (first | refine zm ?_ | exact CL | fail))))
        refine ⟨k + 1, by omega, ⟨[], ?_⟩, by omega⟩
        (have zf1 := @hos; refine XG ?_; clear zf1; ((try (repeat' with_reducible refine And.intro ?_ ?_)); (try any_goals (first | refine zm ?_ | exact CL | fail))))
  · have : k = 3 := by omega
    subst this
    have hnl := natI_len (p.opens 3)
    by_cases hz : (p.opens 3).length = 0
    · rw [if_pos hz]
      (refine XG ?_; ((try (repeat' with_reducible refine And.intro ?_ ?_)); (try any_goals (first | refine zm ?_ | exact CL | fail))))
      (refine xw_ifp (fun h3 => ?_) (fun h3 => ?_) <;> try exact h3.elim)
      · (refine XG ?_; ((try (repeat' with_reducible refine And.intro ?_ ?_)); (try any_goals (first | refine zm ?_ | exact CL | fail))))
      · omega
    · rw [if_neg hz]
      have hC := rchosen_ps c.gl draw (p.opens 3).length (by omega) (by omega)
      have m0 := Int.emod_nonneg draw (show ((p.opens 3).length : Int) ≠ 0 by omega)
      have m1 := Int.emod_lt_of_pos draw (show (0 : Int) < (p.opens 3).length by omega)
      have hgt := natI_get (p.opens 3) (draw % ((p.opens 3).length : Int)).toNat (by omega)
      generalize draw % ((p.opens 3).length : Int) = d at *
      (refine XG ?_; ((try (repeat' with_reducible refine And.intro ?_ ?_)); (try any_goals (first | refine zm ?_ | exact CL | fail))))
      (refine xw_ifp (fun h3 => ?_) (fun h3 => ?_) <;> try exact h3.elim)
      · omega
      (refine XG ?_; ((try (repeat' with_reducible refine And.intro ?_ ?_)); (try any_goals (first | refine zm ?_ | exact CL | fail))))
      ((first | apply pr_psv | apply prD_psv | apply pr_qrunv | apply prD_qrunv) <;> (first | exact hC | (have zf1 := @hnl; have zf2 := @hgt; refine XG ?_; clear zf1 zf2; first | exact rfl | exact True.intro | ((try (repeat' with_reducible refine And.intro ?_ ?_)); (try any_goals (first | refine zm ?_ | exact CL | fail))))))
set_option maxHeartbeats 2000000 in
theorem rTake_ps (gl : Nat → AV) (p : Pool) (hp : p.wf) (s a draw : Int) : PS Try.prog gl 56 [.agg p.enc, .int .i64 s, .int .i64 a, .int .i64 draw] (takeT (p.take s a draw)) := by
  refine ft_rTake.ps (of_decide_eq_true rfl) (by simp [nmOk, nmAll, takeT, Pool.enc_nm]) fun c hN hg => ?_
  unfold T_rTake
  have e2 := Pool.enc_len hp
  have hG := rGoodPool_ps c.gl p hp
  by_cases hgd : p.good = true
  rotate_left
  · have hr : p.take s a draw = (p, 0, 2) := if_neg hgd
    have hgd : p.good = false := by simpa using hgd
    rw [hgd] at hG
    rw [hr]
    unfold takeT
    (have zf1 := @e2; refine XG ?_; clear zf1; ((try (repeat' with_reducible refine And.intro ?_ ?_)); (try any_goals (first | refine zm ?_ | exact CL | fail))))
    ((first | apply pr_psv | apply prD_psv | apply pr_qrunv | apply prD_qrunv) <;> (first | exact hG | (have zf1 := @e2; refine XG ?_; clear zf1; first | exact rfl | exact True.intro | ((try (repeat' with_reducible refine And.intro ?_ ?_)); (try any_goals (first | refine zm ?_ | exact CL | fail))))))
    (refine xw_ifp (fun h1 => ?_) (fun h1 => ?_) <;> try exact h1.elim)
    (have zf1 := @e2; refine XG ?_; clear zf1; ((try (repeat' with_reducible refine And.intro ?_ ?_)); (try any_goals (first | refine zm ?_ | exact CL | fail))))
  by_cases has : addrB a = true ∧ 0 ≤ s ∧ s < 8
  rotate_left
  · have hr : p.take s a draw = (p, 0, 7) := (if_pos hgd).trans (if_neg has)
    rw [hr]
    rw [hgd] at hG
    unfold takeT
    (have zf1 := @e2; refine XG ?_; clear zf1; ((try (repeat' with_reducible refine And.intro ?_ ?_)); (try any_goals (first | refine zm ?_ | exact CL | fail))))
    ((first | apply pr_psv | apply prD_psv | apply pr_qrunv | apply prD_qrunv) <;> (first | exact hG | (have zf1 := @e2; refine XG ?_; clear zf1; first | exact rfl | exact True.intro | ((try (repeat' with_reducible refine And.intro ?_ ?_)); (try any_goals (first | refine zm ?_ | exact CL | fail))))))
    (refine xw_ifp (fun h1 => ?_) (fun h1 => ?_) <;> try exact h1.elim)
    (have zf1 := @e2; refine XG ?_; clear zf1; ((try (repeat' with_reducible refine And.intro ?_ ?_)); (try any_goals (first | refine zm ?_ | exact CL | fail))))
    (refine xw_ifp (fun h2 => ?_) (fun h2 => ?_) <;> try exact h2.elim)
    · (have zf1 := @e2; refine XG ?_; clear zf1; ((try (repeat' with_reducible refine And.intro ?_ ?_)); (try any_goals (first | refine zm ?_ | exact CL | fail))))
    · exfalso
      refine has ⟨?_, by omega, by omega⟩
      unfold addrB; simp; omega
  obtain ⟨ha, hs0, hs8⟩ := has
  obtain ⟨b, rfl, hb⟩ := addr_nat a ha
  have hF := rfree_in c.gl p hp b hb
  have hfl := free_left p hp b hb
  have hdd := Pool.enc_dr hp hb
  have hr : p.take s b draw = if p.dra b = true then (p, (0 : Int), (9 : Int)) else if p.left b = 0 then (p, 0, 10) else (p.put b (p.kth b draw) (s + 1), ((p.kth b draw : Nat) : Int), 0) := by
    have : p.take s b draw = _ := (if_pos hgd).trans (if_pos ⟨ha, hs0, hs8⟩)
    rw [this, Int.toNat_natCast]
  rw [hr]
  rw [hgd] at hG
  cases hd : p.dra b with
  | true =>
    rw [hd] at hdd
    rw [if_pos rfl]
    unfold takeT
    (have zf1 := @e2; refine XG ?_; clear zf1; ((try (repeat' with_reducible refine And.intro ?_ ?_)); (try any_goals (first | refine zm ?_ | exact CL | fail))))
    ((first | apply pr_psv | apply prD_psv | apply pr_qrunv | apply prD_qrunv) <;> (first | exact hG | (have zf1 := @e2; refine XG ?_; clear zf1; first | exact rfl | exact True.intro | ((try (repeat' with_reducible refine And.intro ?_ ?_)); (try any_goals (first | refine zm ?_ | exact CL | fail))))))
    (refine xw_ifp (fun h1 => ?_) (fun h1 => ?_) <;> try exact h1.elim)
    (have zf1 := @e2; refine XG ?_; clear zf1; ((try (repeat' with_reducible refine And.intro ?_ ?_)); (try any_goals (first | refine zm ?_ | exact CL | fail))))
    (refine xw_ifp (fun h2 => ?_) (fun h2 => ?_) <;> try exact h2.elim)
    · omega
    (have zf1 := @e2; have zf2 := @hdd; refine XG ?_; clear zf1 zf2; ((try (repeat' with_reducible refine And.intro ?_ ?_)); (try any_goals (first | refine zm ?_ | exact CL | fail))))
    (refine xw_ifp (fun h3 => ?_) (fun h3 => ?_) <;> try exact h3.elim)
    (have zf1 := @e2; refine XG ?_; clear zf1; ((try (repeat' with_reducible refine And.intro ?_ ?_)); (try any_goals (first | refine zm ?_ | exact CL | fail))))
  | false =>
    rw [hd] at hdd
    rw [if_neg (by simp)]
    by_cases hl : p.left b = 0
    · rw [if_pos hl]
      rw [hl] at hfl
      generalize freB (p.row b) 6 = W at *
      unfold takeT
      (have zf1 := @e2; refine XG ?_; clear zf1; ((try (repeat' with_reducible refine And.intro ?_ ?_)); (try any_goals (first | refine zm ?_ | exact CL | fail))))
      ((first | apply pr_psv | apply prD_psv | apply pr_qrunv | apply prD_qrunv) <;> (first | exact hG | (have zf1 := @e2; refine XG ?_; clear zf1; first | exact rfl | exact True.intro | ((try (repeat' with_reducible refine And.intro ?_ ?_)); (try any_goals (first | refine zm ?_ | exact CL | fail))))))
      (refine xw_ifp (fun h1 => ?_) (fun h1 => ?_) <;> try exact h1.elim)
      (have zf1 := @e2; refine XG ?_; clear zf1; ((try (repeat' with_reducible refine And.intro ?_ ?_)); (try any_goals (first | refine zm ?_ | exact CL | fail))))
      (refine xw_ifp (fun h2 => ?_) (fun h2 => ?_) <;> try exact h2.elim)
      · omega
      (have zf1 := @e2; have zf2 := @hdd; refine XG ?_; clear zf1 zf2; ((try (repeat' with_reducible refine And.intro ?_ ?_)); (try any_goals (first | refine zm ?_ | exact CL | fail))))
      (refine xw_ifp (fun h3 => ?_) (fun h3 => ?_) <;> try exact h3.elim)
      (have zf1 := @e2; refine XG ?_; clear zf1; ((try (repeat' with_reducible refine And.intro ?_ ?_)); (try any_goals (first | refine zm ?_ | exact CL | fail))))
      ((first | apply pr_psv | apply prD_psv | apply pr_qrunv | apply prD_qrunv) <;> (first | exact hF | (have zf1 := @e2; refine XG ?_; clear zf1; first | exact rfl | exact True.intro | ((try (repeat' with_reducible refine And.intro ?_ ?_)); (try any_goals (first | refine zm ?_ | exact CL | fail))))))
      (refine xw_ifp (fun h4 => ?_) (fun h4 => ?_) <;> try exact h4.elim)
      · (have zf1 := @e2; refine XG ?_; clear zf1; ((try (repeat' with_reducible refine And.intro ?_ ?_)); (try any_goals (first | refine zm ?_ | exact CL | fail))))
      · omega
    · rw [if_neg hl]
      obtain ⟨hk6, hko⟩ := kth_free p hp b draw hb hl
      have hC := rchosen_ps c.gl draw (p.left b) (by omega) (by have := freeN_le (p.row b) 6; have h3 := left_in p b hb; rw [h3]; rw [List.take_of_length_le (by rw [row_length p hp b hb]; omega)] at this; omega)
      have m0 := Int.emod_nonneg draw (show (p.left b : Int) ≠ 0 by omega)
      have m1 := Int.emod_lt_of_pos draw (show (0 : Int) < p.left b by omega)
      have hkd : p.kth b draw = (freB (p.row b) 6).getD (draw % (p.left b : Int)).toNat 0 := rfl
      have hgt := natI_get (freB (p.row b) 6) (draw % (p.left b : Int)).toNat (by omega)
      rw [← hkd] at hgt
      rw [← hfl] at hC m1 m0 hgt
      have hnl := natI_len (freB (p.row b) 6)
      generalize hdv : draw % ((freB (p.row b) 6).length : Int) = d at *
      generalize freB (p.row b) 6 = W at *
      generalize p.kth b draw = k at *
      have hpe := put_enc p b k (s + 1) (by rw [hp.own]; omega)
      have e3 := Pool.enc_len (p.put_wf hp b k (s + 1))
      unfold takeT
      (have zf1 := @e2; refine XG ?_; clear zf1; ((try (repeat' with_reducible refine And.intro ?_ ?_)); (try any_goals (first | refine zm ?_ | exact CL | fail))))
      ((first | apply pr_psv | apply prD_psv | apply pr_qrunv | apply prD_qrunv) <;> (first | exact hG | (have zf1 := @e2; refine XG ?_; clear zf1; first | exact rfl | exact True.intro | ((try (repeat' with_reducible refine And.intro ?_ ?_)); (try any_goals (first | refine zm ?_ | exact CL | fail))))))
      (refine xw_ifp (fun h1 => ?_) (fun h1 => ?_) <;> try exact h1.elim)
      (have zf1 := @e2; refine XG ?_; clear zf1; ((try (repeat' with_reducible refine And.intro ?_ ?_)); (try any_goals (first | refine zm ?_ | exact CL | fail))))
      (refine xw_ifp (fun h2 => ?_) (fun h2 => ?_) <;> try exact h2.elim)
      · omega
      (have zf1 := @e2; have zf2 := @hdd; refine XG ?_; clear zf1 zf2; ((try (repeat' with_reducible refine And.intro ?_ ?_)); (try any_goals (first | refine zm ?_ | exact CL | fail))))
      (refine xw_ifp (fun h3 => ?_) (fun h3 => ?_) <;> try exact h3.elim)
      (have zf1 := @e2; refine XG ?_; clear zf1; ((try (repeat' with_reducible refine And.intro ?_ ?_)); (try any_goals (first | refine zm ?_ | exact CL | fail))))
      ((first | apply pr_psv | apply prD_psv | apply pr_qrunv | apply prD_qrunv) <;> (first | exact hF | (have zf1 := @e2; refine XG ?_; clear zf1; first | exact rfl | exact True.intro | ((try (repeat' with_reducible refine And.intro ?_ ?_)); (try any_goals (first | refine zm ?_ | exact CL | fail))))))
      (refine xw_ifp (fun h4 => ?_) (fun h4 => ?_) <;> try exact h4.elim)
      · omega
      (refine XG ?_; ((try (repeat' with_reducible refine And.intro ?_ ?_)); (try any_goals (first | refine zm ?_ | exact CL | fail))))
      ((first | apply pr_psv | apply prD_psv | apply pr_qrunv | apply prD_qrunv) <;> (first | exact hC | (have zf1 := @hnl; have zf2 := @hgt; have zf3 := @e2; have zf4 := @hpe; have zf5 := @e3; refine XG ?_; clear zf1 zf2 zf3 zf4 zf5; first | exact rfl | exact True.intro | ((try (repeat' with_reducible refine And.intro ?_ ?_)); (try any_goals (first | refine zm ?_ | exact CL | fail))))))
theorem rBlockOf_ps (gl : Nat → AV) (port : Int) (hp : -9223372036854775808 ≤ port ∧ port ≤ 9223372036854775807) : PS Try.prog gl 19 [.int .i64 port] (blkT port) := by
  refine ft_rBlockOf.ps (of_decide_eq_true rfl) (by simp [blkT, nmOk, nmAll]) fun c hN hg => ?_
  unfold T_rBlockOf
  by_cases h : inPort port = true
  · have h' := h
    unfold inPort at h'
    simp at h'
    have e1 : (port - 1024).tdiv 8 = (port - 1024) / 8 := Int.tdiv_eq_ediv_of_nonneg (by omega)
    have e2 : (port - 1024).tmod 8 = (port - 1024) % 8 := Int.tmod_eq_emod_of_nonneg (by omega)
    unfold blkT blkOf'
    rw [if_pos h, if_pos h, h]
    (refine XG ?_; ((try (repeat' with_reducible refine And.intro ?_ ?_)); (try any_goals (first | refine zm ?_ | exact CL | fail))))
    (refine xw_ifp (fun h1 => ?_) (fun h1 => ?_) <;> try exact h1.elim)
    · omega
    (have zf1 := @e1; have zf2 := @e2; refine XG ?_; clear zf1 zf2; ((try (repeat' with_reducible refine And.intro ?_ ?_)); (try any_goals (first | refine zm ?_ | exact CL | fail))))
  · have h' := h
    unfold inPort at h'
    simp at h'
    have hb : inPort port = false := by simpa using h
    unfold blkT blkOf'
    rw [if_neg h, if_neg h, hb]
    by_cases hlo : port < 1024
    · have d1 : decide (port < 1024) = true := by simpa using hlo
      have e0 : ∃ x, IntKind.i64.wrap (port - 1024) = x := ⟨_, rfl⟩
      obtain ⟨x, hx⟩ := e0
      (have zf1 := @d1; have zf2 := @hx; refine XG ?_; clear zf1 zf2; ((try (repeat' with_reducible refine And.intro ?_ ?_)); (try any_goals (first | refine zm ?_ | exact CL | fail))))
      (refine xw_ifp (fun h1 => ?_) (fun h1 => ?_) <;> try exact h1.elim)
      (refine XG ?_; ((try (repeat' with_reducible refine And.intro ?_ ?_)); (try any_goals (first | refine zm ?_ | exact CL | fail))))
    · (refine XG ?_; ((try (repeat' with_reducible refine And.intro ?_ ?_)); (try any_goals (first | refine zm ?_ | exact CL | fail))))
      (refine xw_ifp (fun h1 => ?_) (fun h1 => ?_) <;> try exact h1.elim)
      · (refine XG ?_; ((try (repeat' with_reducible refine And.intro ?_ ?_)); (try any_goals (first | refine zm ?_ | exact CL | fail))))
      · omega
def protoB (n : Int) : Bool := n == 1 || n == 6 || n == 17
theorem risProto_ps (gl : Nat → AV) (n : Int) : PS Try.prog gl 49 [.int .i64 n] (.bool (protoB n)) := by
  refine ft_risProto.ps (of_decide_eq_true rfl) (by simp [nmOk]) fun c hN hg => ?_
  unfold T_risProto protoB
  (refine XG ?_; ((try (repeat' with_reducible refine And.intro ?_ ?_)); (try any_goals (first | refine zm ?_ | exact CL | fail))))
set_option maxHeartbeats 1000000 in
theorem rFind_ps (gl : Nat → AV) (t : Tb) (ht : t.wf) (hl : t.maps.length ≤ 4611686018427387904) (proto s inn : Int) : PS Try.prog gl 15 [.agg t.enc, .int .i64 proto, .int .i64 s, .int .i64 inn] (mpT (t.maps.find? (isFwd proto s inn))) := by
  refine ft_rFind.ps (of_decide_eq_true rfl) (by cases t.maps.find? (isFwd proto s inn) <;> simp [mpT, nmOk, nmAll, Mp.enc]) fun c hN hg => ?_
  unfold T_rFind
  have e2 := Tb.enc_len ht
  have e3 := Tb.enc_maps ht
  have hel := mps_len t.maps
  generalize hR : t.maps.find? (isFwd proto s inn) = R
  (have zf1 := @e2; have zf2 := @e3; refine XG ?_; clear zf1 zf2; ((try (repeat' with_reducible refine And.intro ?_ ?_)); (try any_goals (first | refine zm ?_ | exact CL | fail))))
  refine loop_rule (fun k : Nat => k ≤ t.maps.length ∧ (t.maps.drop k).find? (isFwd proto s inn) = R) (fun k => ⟨[(1, .int .i64 proto), (2, .int .i64 s), (3, .int .i64 inn), (8, .ptr 1 0), (13, .isl t.maps.length (mps t.maps)), (14, .int .i64 t.maps.length), (15, .int .i64 k)], [(0, .cells t.enc), (1, .cells [.int .i64 0, .int .i64 0, .int .i64 0, .int .i64 0, .int .i64 0])], 2⟩) (fun k => t.maps.length - k) ft_rFind.mixed hN
    ⟨0, ⟨by omega, by rw [List.drop_zero]; exact hR⟩, [], by (refine XG ?_; ((try (repeat' with_reducible refine And.intro ?_ ?_)); (try any_goals (first | refine zm ?_ | exact CL | fail))))⟩ fun k hI => ?_
  obtain ⟨hk, hf⟩ := id hI
  clear hI
  (refine XG ?_; ((try (repeat' with_reducible refine And.intro ?_ ?_)); (try any_goals (first | refine zm ?_ | exact CL | fail))))
  (refine xw_ifp (fun h1 => ?_) (fun h1 => ?_) <;> try exact h1.elim)
  · have hkn : k < t.maps.length := by omega
    have hcut := mps_cut t.maps k hkn
    rw [List.drop_eq_getElem_cons hkn, List.find?_cons] at hf
    generalize t.maps[k] = m at *
    obtain ⟨mp, ms, mi, ma, mt⟩ := m
    unfold isFwd at hf
    simp only [Mp.enc] at hcut
    dsimp only at hf
    (have zf1 := @hel; have zf2 := @hcut; refine XG ?_; clear zf1 zf2; ((try (repeat' with_reducible refine And.intro ?_ ?_)); (try any_goals (first | refine zm ?_ | exact CL | fail))))
    (refine xw_ifp (fun h2 => ?_) (fun h2 => ?_) <;> try exact h2.elim)
    · have hc : (mp == proto && ms == s && mi == inn) = true := by simp [h2]
      rw [hc] at hf
      dsimp only at hf
      subst hf
      unfold mpT Mp.enc
      (refine XG ?_; ((try (repeat' with_reducible refine And.intro ?_ ?_)); (try any_goals (first | refine zm ?_ | exact CL | fail))))
    · have hc : (mp == proto && ms == s && mi == inn) = false := by
        cases hb : (mp == proto && ms == s && mi == inn)
        · rfl
        · simp at hb; omega
      rw [hc] at hf
      dsimp only at hf
      (refine XG ?_; ((try (repeat' with_reducible refine And.intro ?_ ?_)); (try any_goals (first | refine zm ?_ | exact CL | fail))))
      refine ⟨k + 1, ⟨by omega, hf⟩, ⟨[], ?_⟩, by omega⟩
      (refine XG ?_; ((try (repeat' with_reducible refine And.intro ?_ ?_)); (try any_goals (first | refine zm ?_ | exact CL | fail))))
  · have : k = t.maps.length := by omega
    subst this
    rw [List.drop_length] at hf
    subst hf
    unfold mpT mp0 Mp.enc
    (refine XG ?_; ((try (repeat' with_reducible refine And.intro ?_ ?_)); (try any_goals (first | refine zm ?_ | exact CL | fail))))
    exact rfl
set_option maxHeartbeats 1000000 in
theorem rBack_ps (gl : Nat → AV) (t : Tb) (ht : t.wf) (hl : t.maps.length ≤ 4611686018427387904) (proto a port : Int) : PS Try.prog gl 17 [.agg t.enc, .int .i64 proto, .int .i64 a, .int .i64 port] (mpT (t.maps.find? (isBack proto a port))) := by
  refine ft_rBack.ps (of_decide_eq_true rfl) (by cases t.maps.find? (isBack proto a port) <;> simp [mpT, nmOk, nmAll, Mp.enc]) fun c hN hg => ?_
  unfold T_rBack
  have e2 := Tb.enc_len ht
  have e3 := Tb.enc_maps ht
  have hel := mps_len t.maps
  generalize hR : t.maps.find? (isBack proto a port) = R
  (have zf1 := @e2; have zf2 := @e3; refine XG ?_; clear zf1 zf2; ((try (repeat' with_reducible refine And.intro ?_ ?_)); (try any_goals (first | refine zm ?_ | exact CL | fail))))
  refine loop_rule (fun k : Nat => k ≤ t.maps.length ∧ (t.maps.drop k).find? (isBack proto a port) = R) (fun k => ⟨[(1, .int .i64 proto), (2, .int .i64 a), (3, .int .i64 port), (8, .ptr 1 0), (13, .isl t.maps.length (mps t.maps)), (14, .int .i64 t.maps.length), (15, .int .i64 k)], [(0, .cells t.enc), (1, .cells [.int .i64 0, .int .i64 0, .int .i64 0, .int .i64 0, .int .i64 0])], 2⟩) (fun k => t.maps.length - k) ft_rBack.mixed hN
    ⟨0, ⟨by omega, by rw [List.drop_zero]; exact hR⟩, [], by (refine XG ?_; ((try (repeat' with_reducible refine And.intro ?_ ?_)); (try any_goals (first | refine zm ?_ | exact CL | fail))))⟩ fun k hI => ?_
  obtain ⟨hk, hf⟩ := id hI
  clear hI
  (refine XG ?_; ((try (repeat' with_reducible refine And.intro ?_ ?_)); (try any_goals (first | refine zm ?_ | exact CL | fail))))
  (refine xw_ifp (fun h1 => ?_) (fun h1 => ?_) <;> try exact h1.elim)
  · have hkn : k < t.maps.length := by omega
    have hcut := mps_cut t.maps k hkn
    rw [List.drop_eq_getElem_cons hkn, List.find?_cons] at hf
    generalize t.maps[k] = m at *
    obtain ⟨mp, ms, mi, ma, mt⟩ := m
    unfold isBack at hf
    simp only [Mp.enc] at hcut
    dsimp only at hf
    (have zf1 := @hel; have zf2 := @hcut; refine XG ?_; clear zf1 zf2; ((try (repeat' with_reducible refine And.intro ?_ ?_)); (try any_goals (first | refine zm ?_ | exact CL | fail))))
    (refine xw_ifp (fun h2 => ?_) (fun h2 => ?_) <;> try exact h2.elim)
    · have hc : (mp == proto && ma == a && mt == port) = true := by simp [h2]
      rw [hc] at hf
      dsimp only at hf
      subst hf
      unfold mpT Mp.enc
      (refine XG ?_; ((try (repeat' with_reducible refine And.intro ?_ ?_)); (try any_goals (first | refine zm ?_ | exact CL | fail))))
    · have hc : (mp == proto && ma == a && mt == port) = false := by
        cases hb : (mp == proto && ma == a && mt == port)
        · rfl
        · simp at hb; omega
      rw [hc] at hf
      dsimp only at hf
      (refine XG ?_; ((try (repeat' with_reducible refine And.intro ?_ ?_)); (try any_goals (first | refine zm ?_ | exact CL | fail))))
      refine ⟨k + 1, ⟨by omega, hf⟩, ⟨[], ?_⟩, by omega⟩
      (refine XG ?_; ((try (repeat' with_reducible refine And.intro ?_ ?_)); (try any_goals (first | refine zm ?_ | exact CL | fail))))
  · have : k = t.maps.length := by omega
    subst this
    rw [List.drop_length] at hf
    subst hf
    unfold mpT mp0 Mp.enc
    (refine XG ?_; ((try (repeat' with_reducible refine And.intro ?_ ?_)); (try any_goals (first | refine zm ?_ | exact CL | fail))))
    exact rfl
end Go.Proofs.Ytphaicaobepimaa
