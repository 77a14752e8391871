/- What package pool answers: taking, giving, draining. No conditions but the ones that stand in each. -/
import Derived.Test.YtphaicaobepimaaQc
namespace Go.Proofs.Ytphaicaobepimaa
set_option linter.all false
set_option linter.unusedSimpArgs false
open Go.RowKit

theorem put_enc (p : Pool) (a k : Nat) (o : Int) (h : a * 6 + k < p.own.length) : p.enc.set (a * 6 + k) (.int .i64 o) = (p.put a k o).enc := by
  unfold Pool.enc Pool.put
  rw [List.set_append_left _ _ (by rw [ints_len]; exact h)]
  simp [ints, List.map_set]
theorem putD_enc (p : Pool) (hp : p.wf) (a : Nat) (to : Bool) : p.enc.set (18 + a) (.bool to) = (p.putD a to).enc := by
  unfold Pool.enc Pool.putD
  rw [List.set_append_right _ _ (by rw [ints_len, hp.own]; omega), ints_len, hp.own, show 18 + a - 18 = a by omega]
  simp [bools, List.map_set]
theorem ow_enc (p : Pool) (hp : p.wf) (a k : Nat) (ha : a < 3) (hk : k < 6) : p.enc.getD (a * 6 + k) .any = .int .i64 (p.ow a k) := by
  have h : a * 6 + k < p.own.length := by rw [hp.own]; omega
  unfold Pool.enc Pool.ow
  rw [List.getD_eq_getElem?_getD, List.getElem?_append_left (by rw [ints_len]; exact h), List.getD_eq_getElem?_getD]
  simp [ints, h]
def takeT (x : Pool × Int × Int) : AV := .tup [.agg x.1.enc, .int .i64 x.2.1, .int .i64 x.2.2]
def pairT (x : Pool × Int) : AV := .tup [.agg x.1.enc, .int .i64 x.2]
set_option maxHeartbeats 2000000 in
theorem pTake_ps (gl : Nat → AV) (p : Pool) (hp : p.wf) (s a draw : Int) : PS Try.prog gl 54 [.agg p.enc, .int .i64 s, .int .i64 a, .int .i64 draw] (takeT (p.take s a draw)) := by
  refine ft_pTake.ps (of_decide_eq_true rfl) (by simp [nmOk, nmAll, takeT, Pool.enc_nm]) fun c hN hg => ?_
  unfold T_pTake
  have e2 := Pool.enc_len hp
  have hG := pGood_ps c.gl p hp
  have hA := paddr_ps c.gl a
  by_cases hgd : p.good = true
  rotate_left
  · have hr : p.take s a draw = (p, 0, 2) := if_neg hgd
    have hgd : p.good = false := by simpa using hgd
    rw [hgd] at hG
    rw [hr]
    unfold takeT
    (have zf1 := @e2; refine XG ?_; clear zf1; ((try (repeat' with_reducible refine And.intro ?_ ?_)); (try any_goals (first | refine zm ?_ | exact CL | fail))))
    ((first | apply pr_psv | apply prD_psv | apply pr_qrunv | apply prD_qrunv) <;> (first | exact hG | (have zf1 := @e2; refine XG ?_; clear zf1; first | exact rfl | exact True.intro | ((try (repeat' with_reducible refine And.intro ?_ ?_)); (try any_goals (first | refine zm ?_ | exact CL | fail))))))
    (refine xw_ifp (fun h1 => ?_) (fun h1 => ?_) <;> try exact h1.elim)
    (have zf1 := @e2; refine XG ?_; clear zf1; ((try (repeat' with_reducible refine And.intro ?_ ?_)); (try any_goals (first | refine zm ?_ | exact CL | fail))))
  by_cases has : addrB a = true ∧ 0 ≤ s ∧ s < 8
  rotate_left
  · have hr : p.take s a draw = (p, 0, 7) := (if_pos hgd).trans (if_neg has)
    rw [hr]
    rw [hgd] at hG
    unfold takeT
    have hb : (!addrB a || decide (s < 0) || decide (8 ≤ s)) = true := by
      cases ha : addrB a
      · rfl
      · have : s < 0 ∨ 8 ≤ s := by
          by_cases h1 : s < 0
          · exact .inl h1
          · exact .inr (by have : ¬ (0 ≤ s ∧ s < 8) := fun h => has ⟨ha, h⟩; omega)
        simpa using this
    (have zf1 := @e2; refine XG ?_; clear zf1; ((try (repeat' with_reducible refine And.intro ?_ ?_)); (try any_goals (first | refine zm ?_ | exact CL | fail))))
    ((first | apply pr_psv | apply prD_psv | apply pr_qrunv | apply prD_qrunv) <;> (first | exact hG | (have zf1 := @e2; refine XG ?_; clear zf1; first | exact rfl | exact True.intro | ((try (repeat' with_reducible refine And.intro ?_ ?_)); (try any_goals (first | refine zm ?_ | exact CL | fail))))))
    (refine xw_ifp (fun h1 => ?_) (fun h1 => ?_) <;> try exact h1.elim)
    (have zf1 := @e2; refine XG ?_; clear zf1; ((try (repeat' with_reducible refine And.intro ?_ ?_)); (try any_goals (first | refine zm ?_ | exact CL | fail))))
    ((first | apply pr_psv | apply prD_psv | apply pr_qrunv | apply prD_qrunv) <;> (first | exact hA | (have zf1 := @e2; have zf2 := @hb; refine XG ?_; clear zf1 zf2; first | exact rfl | exact True.intro | ((try (repeat' with_reducible refine And.intro ?_ ?_)); (try any_goals (first | refine zm ?_ | exact CL | fail))))))
    (refine xw_ifp (fun h2 => ?_) (fun h2 => ?_) <;> try exact h2.elim)
    (have zf1 := @e2; refine XG ?_; clear zf1; ((try (repeat' with_reducible refine And.intro ?_ ?_)); (try any_goals (first | refine zm ?_ | exact CL | fail))))
  obtain ⟨ha, hs0, hs1⟩ := has
  obtain ⟨b, rfl, hb⟩ := addr_nat a ha
  have hd := Pool.enc_dr hp hb
  have hL := pLeft_ps c.gl p hp b
  by_cases hdr : p.dra b = true
  · have hr : p.take s b draw = (p, 0, 9) := (if_pos hgd).trans ((if_pos ⟨ha, hs0, hs1⟩).trans (if_pos (by rw [Int.toNat_natCast]; exact hdr)))
    rw [hr]
    rw [hgd] at hG
    rw [ha] at hA
    rw [hdr] at hd
    unfold takeT
    (have zf1 := @e2; refine XG ?_; clear zf1; ((try (repeat' with_reducible refine And.intro ?_ ?_)); (try any_goals (first | refine zm ?_ | exact CL | fail))))
    ((first | apply pr_psv | apply prD_psv | apply pr_qrunv | apply prD_qrunv) <;> (first | exact hG | (have zf1 := @e2; refine XG ?_; clear zf1; first | exact rfl | exact True.intro | ((try (repeat' with_reducible refine And.intro ?_ ?_)); (try any_goals (first | refine zm ?_ | exact CL | fail))))))
    (refine xw_ifp (fun h1 => ?_) (fun h1 => ?_) <;> try exact h1.elim)
    (have zf1 := @e2; refine XG ?_; clear zf1; ((try (repeat' with_reducible refine And.intro ?_ ?_)); (try any_goals (first | refine zm ?_ | exact CL | fail))))
    ((first | apply pr_psv | apply prD_psv | apply pr_qrunv | apply prD_qrunv) <;> (first | exact hA | (have zf1 := @e2; refine XG ?_; clear zf1; first | exact rfl | exact True.intro | ((try (repeat' with_reducible refine And.intro ?_ ?_)); (try any_goals (first | refine zm ?_ | exact CL | fail))))))
    (refine xw_ifp (fun h2 => ?_) (fun h2 => ?_) <;> try exact h2.elim)
    · omega
    (have zf1 := @e2; have zf2 := @hd; refine XG ?_; clear zf1 zf2; ((try (repeat' with_reducible refine And.intro ?_ ?_)); (try any_goals (first | refine zm ?_ | exact CL | fail))))
    (refine xw_ifp (fun h3 => ?_) (fun h3 => ?_) <;> try exact h3.elim)
    (have zf1 := @e2; refine XG ?_; clear zf1; ((try (repeat' with_reducible refine And.intro ?_ ?_)); (try any_goals (first | refine zm ?_ | exact CL | fail))))
  have hdr : p.dra b = false := by simpa using hdr
  by_cases hl0 : p.left b = 0
  · have hr : p.take s b draw = (p, 0, 10) := (if_pos hgd).trans ((if_pos ⟨ha, hs0, hs1⟩).trans ((if_neg (by rw [Int.toNat_natCast, hdr]; simp)).trans (if_pos hl0)))
    rw [hr]
    rw [hgd] at hG
    rw [ha] at hA
    rw [hdr] at hd
    rw [hl0] at hL
    unfold takeT
    (have zf1 := @e2; refine XG ?_; clear zf1; ((try (repeat' with_reducible refine And.intro ?_ ?_)); (try any_goals (first | refine zm ?_ | exact CL | fail))))
    ((first | apply pr_psv | apply prD_psv | apply pr_qrunv | apply prD_qrunv) <;> (first | exact hG | (have zf1 := @e2; refine XG ?_; clear zf1; first | exact rfl | exact True.intro | ((try (repeat' with_reducible refine And.intro ?_ ?_)); (try any_goals (first | refine zm ?_ | exact CL | fail))))))
    (refine xw_ifp (fun h1 => ?_) (fun h1 => ?_) <;> try exact h1.elim)
    (have zf1 := @e2; refine XG ?_; clear zf1; ((try (repeat' with_reducible refine And.intro ?_ ?_)); (try any_goals (first | refine zm ?_ | exact CL | fail))))
    ((first | apply pr_psv | apply prD_psv | apply pr_qrunv | apply prD_qrunv) <;> (first | exact hA | (have zf1 := @e2; refine XG ?_; clear zf1; first | exact rfl | exact True.intro | ((try (repeat' with_reducible refine And.intro ?_ ?_)); (try any_goals (first | refine zm ?_ | exact CL | fail))))))
    (refine xw_ifp (fun h2 => ?_) (fun h2 => ?_) <;> try exact h2.elim)
    · omega
    (have zf1 := @e2; have zf2 := @hd; refine XG ?_; clear zf1 zf2; ((try (repeat' with_reducible refine And.intro ?_ ?_)); (try any_goals (first | refine zm ?_ | exact CL | fail))))
    (refine xw_ifp (fun h3 => ?_) (fun h3 => ?_) <;> try exact h3.elim)
    (have zf1 := @e2; refine XG ?_; clear zf1; ((try (repeat' with_reducible refine And.intro ?_ ?_)); (try any_goals (first | refine zm ?_ | exact CL | fail))))
    ((first | apply pr_psv | apply prD_psv | apply pr_qrunv | apply prD_qrunv) <;> (first | exact hL | (have zf1 := @e2; refine XG ?_; clear zf1; first | exact rfl | exact True.intro | ((try (repeat' with_reducible refine And.intro ?_ ?_)); (try any_goals (first | refine zm ?_ | exact CL | fail))))))
    (refine xw_ifp (fun h4 => ?_) (fun h4 => ?_) <;> try exact h4.elim)
    (have zf1 := @e2; refine XG ?_; clear zf1; ((try (repeat' with_reducible refine And.intro ?_ ?_)); (try any_goals (first | refine zm ?_ | exact CL | fail))))
  have hr : p.take s b draw = (p.put b (p.kth b draw) (s + 1), ((p.kth b draw : Nat) : Int), 0) := (if_pos hgd).trans ((if_pos ⟨ha, hs0, hs1⟩).trans ((if_neg (by rw [Int.toNat_natCast, hdr]; simp)).trans ((if_neg hl0).trans (by rw [Int.toNat_natCast]))))
  rw [hr]
  rw [hgd] at hG
  rw [ha] at hA
  rw [hdr] at hd
  clear hr
  have hC := pchosen_ps c.gl draw (p.left b) (by omega) (by have := left_in p b hb; have := freeN_le (p.row b) 6; rw [List.take_of_length_le (by rw [row_length p hp b hb]; omega)] at this; omega)
  have m0 := Int.emod_nonneg draw (show (p.left b : Int) ≠ 0 by omega)
  have m1 := Int.emod_lt_of_pos draw (show (0 : Int) < p.left b by omega)
  have hkth : ∀ i, i < 6 → p.ow b i = 0 → (freeN ((p.row b).take i) : Int) = draw % (p.left b : Int) → p.kth b draw = i := fun i hi h0 he => by
    have h1 := freB_at (p.row b) i (by rw [row_length p hp b hb]; exact hi) (by rw [row_ow p hp b i hb hi, h0]) 6 hi
    unfold Pool.kth
    rw [← he, Int.toNat_natCast, List.getD_eq_getElem?_getD, h1]; rfl
  have hl6 : p.left b ≤ 6 := by
    have h1 := left_in p b hb
    have h2 := freeN_le (p.row b) 6
    rw [List.take_of_length_le (by rw [row_length p hp b hb]; omega)] at h2; omega
  have hfz : ((freeN [] : Nat) : Int) = 0 := rfl
  have hlf : freeN ((p.row b).take 6) = p.left b := by rw [left_in p b hb, List.take_of_length_le (by rw [row_length p hp b hb]; omega)]
  generalize draw % (p.left b : Int) = D at *
  have hrw := row_take p hp b hb
  have hrl := row_length p hp b hb
  unfold takeT
  (have zf1 := @e2; refine XG ?_; clear zf1; ((try (repeat' with_reducible refine And.intro ?_ ?_)); (try any_goals (first | refine zm ?_ | exact CL | fail))))
  ((first | apply pr_psv | apply prD_psv | apply pr_qrunv | apply prD_qrunv) <;> (first | exact hG | (have zf1 := @e2; refine XG ?_; clear zf1; first | exact rfl | exact True.intro | ((try (repeat' with_reducible refine And.intro ?_ ?_)); (try any_goals (first | refine zm ?_ | exact CL | fail))))))
  (refine xw_ifp (fun h1 => ?_) (fun h1 => ?_) <;> try exact h1.elim)
  (have zf1 := @e2; refine XG ?_; clear zf1; ((try (repeat' with_reducible refine And.intro ?_ ?_)); (try any_goals (first | refine zm ?_ | exact CL | fail))))
  ((first | apply pr_psv | apply prD_psv | apply pr_qrunv | apply prD_qrunv) <;> (first | exact hA | (have zf1 := @e2; refine XG ?_; clear zf1; first | exact rfl | exact True.intro | ((try (repeat' with_reducible refine And.intro ?_ ?_)); (try any_goals (first | refine zm ?_ | exact CL | fail))))))
  (refine xw_ifp (fun h2 => ?_) (fun h2 => ?_) <;> try exact h2.elim)
  · omega
  (have zf1 := @e2; have zf2 := @hd; refine XG ?_; clear zf1 zf2; ((try (repeat' with_reducible refine And.intro ?_ ?_)); (try any_goals (first | refine zm ?_ | exact CL | fail))))
  (refine xw_ifp (fun h3 => ?_) (fun h3 => ?_) <;> try exact h3.elim)
  (have zf1 := @e2; refine XG ?_; clear zf1; ((try (repeat' with_reducible refine And.intro ?_ ?_)); (try any_goals (first | refine zm ?_ | exact CL | fail))))
  ((first | apply pr_psv | apply prD_psv | apply pr_qrunv | apply prD_qrunv) <;> (first | exact hL | (have zf1 := @e2; refine XG ?_; clear zf1; first | exact rfl | exact True.intro | ((try (repeat' with_reducible refine And.intro ?_ ?_)); (try any_goals (first | refine zm ?_ | exact CL | fail))))))
  (refine xw_ifp (fun h4 => ?_) (fun h4 => ?_) <;> try exact h4.elim)
  · omega
  (have zf1 := @e2; refine XG ?_; clear zf1; ((try (repeat' with_reducible refine And.intro ?_ ?_)); (try any_goals (first | refine zm ?_ | exact CL | fail))))
  ((first | apply pr_psv | apply prD_psv | apply pr_qrunv | apply prD_qrunv) <;> (first | exact hL | (have zf1 := @e2; refine XG ?_; clear zf1; first | exact rfl | exact True.intro | ((try (repeat' with_reducible refine And.intro ?_ ?_)); (try any_goals (first | refine zm ?_ | exact CL | fail))))))
  ((first | apply pr_psv | apply prD_psv | apply pr_qrunv | apply prD_qrunv) <;> (first | exact hC | (have zf1 := @e2; refine XG ?_; clear zf1; first | exact rfl | exact True.intro | ((try (repeat' with_reducible refine And.intro ?_ ?_)); (try any_goals (first | refine zm ?_ | exact CL | fail))))))
  (have zf1 := @e2; have zf2 := @hrw; refine XG ?_; clear zf1 zf2; ((try (repeat' with_reducible refine And.intro ?_ ?_)); (try any_goals (first | refine zm ?_ | exact CL | fail))))
  have hown : ∀ i, i < 6 → b * 6 + i < p.own.length := fun i hi => by rw [hp.own]; omega
  refine loop_rule (fun i : Nat => i ≤ 6 ∧ (freeN ((p.row b).take i) : Int) ≤ D) (fun i => ⟨[(1, .int .i64 s), (2, .int .i64 b), (4, .ptr 0 0), (8, .ptr 1 0), (11, .int .i64 (D - (freeN ((p.row b).take i) : Nat))), (52, .agg (ints (p.row b))), (53, .int .i64 i)], [(0, .cells p.enc), (1, .cells [.int .i64 0, .int .i64 0, .int .i64 0, .int .i64 0, .int .i64 0, .int .i64 0, .int .i64 0, .int .i64 0, .int .i64 0, .int .i64 0, .int .i64 0, .int .i64 0, .int .i64 0, .int .i64 0, .int .i64 0, .int .i64 0, .int .i64 0, .int .i64 0, .bool false, .bool false, .bool false])], 2⟩) (fun i => 6 - i) ft_pTake.mixed hN
    ⟨0, ⟨by omega, by rw [freeN_zero]; omega⟩, [], by (have zf1 := @hfz; have zf2 := @Int.sub_zero; refine XG ?_; clear zf1 zf2; ((try (repeat' with_reducible refine And.intro ?_ ?_)); (try any_goals (first | refine zm ?_ | exact CL | fail))))⟩ fun i hI => ?_
  obtain ⟨hi, hle⟩ := id hI
  clear hI
  (refine XG ?_; ((try (repeat' with_reducible refine And.intro ?_ ?_)); (try any_goals (first | refine zm ?_ | exact CL | fail))))
  (refine xw_ifp (fun h5 => ?_) (fun h5 => ?_) <;> try exact h5.elim)
  · have hi6 : i < 6 := by omega
    have hv := row_getD p b i hi6
    have hs := freeN_snoc (p.row b) i (p.ow b i) (row_ow p hp b i hb hi6)
    have hk2 := hkth i hi6
    have hpe := put_enc p b i (s + 1) (hown i hi6)
    generalize p.ow b i = x at *
    (have zf1 := @hrl; have zf2 := @hv; refine XG ?_; clear zf1 zf2; ((try (repeat' with_reducible refine And.intro ?_ ?_)); (try any_goals (first | refine zm ?_ | exact CL | fail))))
    (refine xw_ifp (fun h6 => ?_) (fun h6 => ?_) <;> try exact h6.elim)
    · rw [if_neg h6] at hs
      (refine XG ?_; ((try (repeat' with_reducible refine And.intro ?_ ?_)); (try any_goals (first | refine zm ?_ | exact CL | fail))))
      refine ⟨i + 1, ⟨by omega, by rw [hs]; omega⟩, ⟨[], ?_⟩, by omega⟩
      (have zf1 := @hs; refine XG ?_; clear zf1; ((try (repeat' with_reducible refine And.intro ?_ ?_)); (try any_goals (first | refine zm ?_ | exact CL | fail))))
    · rw [if_pos h6] at hs
      (refine XG ?_; ((try (repeat' with_reducible refine And.intro ?_ ?_)); (try any_goals (first | refine zm ?_ | exact CL | fail))))
      (refine xw_ifp (fun h7 => ?_) (fun h7 => ?_) <;> try exact h7.elim)
      · have hk3 := hk2 h6 (by omega)
        rw [hk3]
        have e3 := Pool.enc_len (p.put_wf hp b i (s + 1))
        (have zf1 := @e2; have zf2 := @hpe; have zf3 := @e3; refine XG ?_; clear zf1 zf2 zf3; ((try (repeat' with_reducible refine And.intro ?_ ?_)); (try any_goals (first | refine zm ?_ | exact CL | fail))))
      · (refine XG ?_; ((try (repeat' with_reducible refine And.intro ?_ ?_)); (try any_goals (first | refine zm ?_ | exact CL | fail))))
        refine ⟨i + 1, ⟨by omega, by rw [hs]; omega⟩, ⟨[], ?_⟩, by omega⟩
        (have zf1 := @hs; refine XG ?_; clear zf1; ((try (repeat' with_reducible refine And.intro ?_ ?_)); (try any_goals (first | refine zm ?_ | exact CL | fail))))
  · have : i = 6 := by omega
    subst this
    omega
set_option maxHeartbeats 2000000 in
theorem pGive_ps (gl : Nat → AV) (p : Pool) (hp : p.wf) (s a b : Int) (hsb : s ≤ 9223372036854775806) : PS Try.prog gl 60 [.agg p.enc, .int .i64 s, .int .i64 a, .int .i64 b] (pairT (p.give s a b)) := by
  refine ft_pGive.ps (of_decide_eq_true rfl) (by simp [nmOk, nmAll, pairT, Pool.enc_nm]) fun c hN hg => ?_
  unfold T_pGive
  have e2 := Pool.enc_len hp
  have hG := pGood_ps c.gl p hp
  have hA := paddr_ps c.gl a
  by_cases hgd : p.good = true
  rotate_left
  · have hr : p.give s a b = (p, 2) := if_neg hgd
    have hgd : p.good = false := by simpa using hgd
    rw [hgd] at hG
    rw [hr]
    unfold pairT
    (have zf1 := @e2; refine XG ?_; clear zf1; ((try (repeat' with_reducible refine And.intro ?_ ?_)); (try any_goals (first | refine zm ?_ | exact CL | fail))))
    ((first | apply pr_psv | apply prD_psv | apply pr_qrunv | apply prD_qrunv) <;> (first | exact hG | (have zf1 := @e2; refine XG ?_; clear zf1; first | exact rfl | exact True.intro | ((try (repeat' with_reducible refine And.intro ?_ ?_)); (try any_goals (first | refine zm ?_ | exact CL | fail))))))
    (refine xw_ifp (fun h1 => ?_) (fun h1 => ?_) <;> try exact h1.elim)
    (have zf1 := @e2; refine XG ?_; clear zf1; ((try (repeat' with_reducible refine And.intro ?_ ?_)); (try any_goals (first | refine zm ?_ | exact CL | fail))))
  rw [hgd] at hG
  by_cases hin : addrB a = true ∧ 0 ≤ b ∧ b < 6 ∧ 0 ≤ s
  rotate_left
  · have hr : p.give s a b = (p, 7) := (if_pos hgd).trans (if_neg fun h => hin ⟨h.1, h.2.1, h.2.2.1, h.2.2.2.1⟩)
    rw [hr]
    unfold pairT
    have hb : (!addrB a || decide (b < 0) || decide (6 ≤ b) || decide (s < 0)) = true := by
      cases ha : addrB a
      · rfl
      · have : (b < 0 ∨ 6 ≤ b) ∨ s < 0 := by
          have : ¬ (0 ≤ b ∧ b < 6 ∧ 0 ≤ s) := fun h => hin ⟨ha, h⟩
          omega
        simpa using this
    (have zf1 := @e2; refine XG ?_; clear zf1; ((try (repeat' with_reducible refine And.intro ?_ ?_)); (try any_goals (first | refine zm ?_ | exact CL | fail))))
    ((first | apply pr_psv | apply prD_psv | apply pr_qrunv | apply prD_qrunv) <;> (first | exact hG | (have zf1 := @e2; refine XG ?_; clear zf1; first | exact rfl | exact True.intro | ((try (repeat' with_reducible refine And.intro ?_ ?_)); (try any_goals (first | refine zm ?_ | exact CL | fail))))))
    (refine xw_ifp (fun h1 => ?_) (fun h1 => ?_) <;> try exact h1.elim)
    (have zf1 := @e2; refine XG ?_; clear zf1; ((try (repeat' with_reducible refine And.intro ?_ ?_)); (try any_goals (first | refine zm ?_ | exact CL | fail))))
    ((first | apply pr_psv | apply prD_psv | apply pr_qrunv | apply prD_qrunv) <;> (first | exact hA | (have zf1 := @e2; have zf2 := @hb; refine XG ?_; clear zf1 zf2; first | exact rfl | exact True.intro | ((try (repeat' with_reducible refine And.intro ?_ ?_)); (try any_goals (first | refine zm ?_ | exact CL | fail))))))
    (refine xw_ifp (fun h2 => ?_) (fun h2 => ?_) <;> try exact h2.elim)
    (have zf1 := @e2; refine XG ?_; clear zf1; ((try (repeat' with_reducible refine And.intro ?_ ?_)); (try any_goals (first | refine zm ?_ | exact CL | fail))))
  obtain ⟨ha, hb0, hb1, hs0⟩ := hin
  rw [ha] at hA
  obtain ⟨a, rfl, ha3⟩ := addr_nat a ha
  obtain ⟨b, rfl⟩ := Int.eq_ofNat_of_zero_le hb0
  have hb6 : b < 6 := by omega
  have hov := ow_enc p hp a b ha3 hb6
  have hpe := put_enc p a b 0 (by rw [hp.own]; omega)
  have e3 := Pool.enc_len (p.put_wf hp a b 0)
  by_cases ho : p.ow a b = s + 1
  · have hr : p.give s a b = (p.put a b 0, 0) := (if_pos hgd).trans (if_pos ⟨ha, hb0, hb1, hs0, by rw [Int.toNat_natCast, Int.toNat_natCast]; exact ho⟩)
    rw [hr]
    rw [ho] at hov
    unfold pairT
    (have zf1 := @e2; refine XG ?_; clear zf1; ((try (repeat' with_reducible refine And.intro ?_ ?_)); (try any_goals (first | refine zm ?_ | exact CL | fail))))
    ((first | apply pr_psv | apply prD_psv | apply pr_qrunv | apply prD_qrunv) <;> (first | exact hG | (have zf1 := @e2; refine XG ?_; clear zf1; first | exact rfl | exact True.intro | ((try (repeat' with_reducible refine And.intro ?_ ?_)); (try any_goals (first | refine zm ?_ | exact CL | fail))))))
    (refine xw_ifp (fun h1 => ?_) (fun h1 => ?_) <;> try exact h1.elim)
    (have zf1 := @e2; refine XG ?_; clear zf1; ((try (repeat' with_reducible refine And.intro ?_ ?_)); (try any_goals (first | refine zm ?_ | exact CL | fail))))
    ((first | apply pr_psv | apply prD_psv | apply pr_qrunv | apply prD_qrunv) <;> (first | exact hA | (have zf1 := @e2; have zf2 := @hov; refine XG ?_; clear zf1 zf2; first | exact rfl | exact True.intro | ((try (repeat' with_reducible refine And.intro ?_ ?_)); (try any_goals (first | refine zm ?_ | exact CL | fail))))))
    (refine xw_ifp (fun h2 => ?_) (fun h2 => ?_) <;> try exact h2.elim)
    · omega
    (have zf1 := @e2; have zf2 := @hpe; have zf3 := @e3; refine XG ?_; clear zf1 zf2 zf3; ((try (repeat' with_reducible refine And.intro ?_ ?_)); (try any_goals (first | refine zm ?_ | exact CL | fail))))
  · have hr : p.give s a b = (p, 7) := (if_pos hgd).trans (if_neg fun h => ho (by have := h.2.2.2.2; rwa [Int.toNat_natCast, Int.toNat_natCast] at this))
    rw [hr]
    unfold pairT
    generalize p.ow a b = o at *
    (have zf1 := @e2; refine XG ?_; clear zf1; ((try (repeat' with_reducible refine And.intro ?_ ?_)); (try any_goals (first | refine zm ?_ | exact CL | fail))))
    ((first | apply pr_psv | apply prD_psv | apply pr_qrunv | apply prD_qrunv) <;> (first | exact hG | (have zf1 := @e2; refine XG ?_; clear zf1; first | exact rfl | exact True.intro | ((try (repeat' with_reducible refine And.intro ?_ ?_)); (try any_goals (first | refine zm ?_ | exact CL | fail))))))
    (refine xw_ifp (fun h1 => ?_) (fun h1 => ?_) <;> try exact h1.elim)
    (have zf1 := @e2; refine XG ?_; clear zf1; ((try (repeat' with_reducible refine And.intro ?_ ?_)); (try any_goals (first | refine zm ?_ | exact CL | fail))))
    ((first | apply pr_psv | apply prD_psv | apply pr_qrunv | apply prD_qrunv) <;> (first | exact hA | (have zf1 := @e2; have zf2 := @hov; refine XG ?_; clear zf1 zf2; first | exact rfl | exact True.intro | ((try (repeat' with_reducible refine And.intro ?_ ?_)); (try any_goals (first | refine zm ?_ | exact CL | fail))))))
    (refine xw_ifp (fun h2 => ?_) (fun h2 => ?_) <;> try exact h2.elim)
    · (have zf1 := @e2; refine XG ?_; clear zf1; ((try (repeat' with_reducible refine And.intro ?_ ?_)); (try any_goals (first | refine zm ?_ | exact CL | fail))))
    · omega
theorem pdrain_ps (gl : Nat → AV) (p : Pool) (hp : p.wf) (a : Int) (to : Bool) : PS Try.prog gl 61 [.agg p.enc, .int .i64 a, .bool to] (pairT (p.drain a to)) := by
  refine ft_pdrain.ps (of_decide_eq_true rfl) (by simp [nmOk, nmAll, pairT, Pool.enc_nm]) fun c hN hg => ?_
  unfold T_pdrain
  have e2 := Pool.enc_len hp
  have hA := paddr_ps c.gl a
  by_cases ha : addrB a = true
  rotate_left
  · have hr : p.drain a to = (p, 7) := if_neg ha
    have ha : addrB a = false := by simpa using ha
    rw [ha] at hA
    rw [hr]
    unfold pairT
    (have zf1 := @e2; refine XG ?_; clear zf1; ((try (repeat' with_reducible refine And.intro ?_ ?_)); (try any_goals (first | refine zm ?_ | exact CL | fail))))
    ((first | apply pr_psv | apply prD_psv | apply pr_qrunv | apply prD_qrunv) <;> (first | exact hA | (have zf1 := @e2; refine XG ?_; clear zf1; first | exact rfl | exact True.intro | ((try (repeat' with_reducible refine And.intro ?_ ?_)); (try any_goals (first | refine zm ?_ | exact CL | fail))))))
    (refine xw_ifp (fun h1 => ?_) (fun h1 => ?_) <;> try exact h1.elim)
    (have zf1 := @e2; refine XG ?_; clear zf1; ((try (repeat' with_reducible refine And.intro ?_ ?_)); (try any_goals (first | refine zm ?_ | exact CL | fail))))
  rw [ha] at hA
  obtain ⟨a, rfl, ha3⟩ := addr_nat a ha
  have hd := Pool.enc_dr hp ha3
  have hpe := putD_enc p hp a to
  have e3 := Pool.enc_len (p.putD_wf hp a to)
  by_cases hdt : p.dra a = to
  · have hr : p.drain a to = (p, 8) := (if_pos ha).trans (if_pos (by rw [Int.toNat_natCast]; exact hdt))
    rw [hr]
    rw [hdt] at hd
    unfold pairT
    (have zf1 := @e2; refine XG ?_; clear zf1; ((try (repeat' with_reducible refine And.intro ?_ ?_)); (try any_goals (first | refine zm ?_ | exact CL | fail))))
    ((first | apply pr_psv | apply prD_psv | apply pr_qrunv | apply prD_qrunv) <;> (first | exact hA | (have zf1 := @e2; refine XG ?_; clear zf1; first | exact rfl | exact True.intro | ((try (repeat' with_reducible refine And.intro ?_ ?_)); (try any_goals (first | refine zm ?_ | exact CL | fail))))))
    (refine xw_ifp (fun h1 => ?_) (fun h1 => ?_) <;> try exact h1.elim)
    (have zf1 := @e2; have zf2 := @hd; refine XG ?_; clear zf1 zf2; ((try (repeat' with_reducible refine And.intro ?_ ?_)); (try any_goals (first | refine zm ?_ | exact CL | fail))))
    (refine xw_ifp (fun h2 => ?_) (fun h2 => ?_) <;> try exact h2.elim)
    (have zf1 := @e2; refine XG ?_; clear zf1; ((try (repeat' with_reducible refine And.intro ?_ ?_)); (try any_goals (first | refine zm ?_ | exact CL | fail))))
  · have hr : p.drain a to = (p.putD a to, 0) := (if_pos ha).trans ((if_neg (by rw [Int.toNat_natCast]; exact hdt)).trans (by rw [Int.toNat_natCast]))
    rw [hr]
    unfold pairT
    generalize p.dra a = d at *
    (have zf1 := @e2; refine XG ?_; clear zf1; ((try (repeat' with_reducible refine And.intro ?_ ?_)); (try any_goals (first | refine zm ?_ | exact CL | fail))))
    ((first | apply pr_psv | apply prD_psv | apply pr_qrunv | apply prD_qrunv) <;> (first | exact hA | (have zf1 := @e2; refine XG ?_; clear zf1; first | exact rfl | exact True.intro | ((try (repeat' with_reducible refine And.intro ?_ ?_)); (try any_goals (first | refine zm ?_ | exact CL | fail))))))
    (refine xw_ifp (fun h1 => ?_) (fun h1 => ?_) <;> try exact h1.elim)
    (have zf1 := @e2; have zf2 := @hd; refine XG ?_; clear zf1 zf2; ((try (repeat' with_reducible refine And.intro ?_ ?_)); (try any_goals (first | refine zm ?_ | exact CL | fail))))
    (refine xw_ifp (fun h2 => ?_) (fun h2 => ?_) <;> try exact h2.elim)
    · exact (hdt h2).elim
    (have zf1 := @e2; have zf2 := @hpe; have zf3 := @e3; refine XG ?_; clear zf1 zf2 zf3; ((try (repeat' with_reducible refine And.intro ?_ ?_)); (try any_goals (first | refine zm ?_ | exact CL | fail))))
theorem pDrain_ps (gl : Nat → AV) (p : Pool) (hp : p.wf) (a : Int) : PS Try.prog gl 31 [.agg p.enc, .int .i64 a] (pairT (p.drain a true)) := by
  refine ft_pDrain.ps (of_decide_eq_true rfl) (by simp [nmOk, nmAll, pairT, Pool.enc_nm]) fun c hN hg => ?_
  unfold T_pDrain
  have e2 := Pool.enc_len hp
  have hD := pdrain_ps c.gl p hp a true
  have e3 := Pool.enc_len (p.drain_wf hp a true)
  unfold pairT at hD ⊢
  (have zf1 := @e2; refine XG ?_; clear zf1; ((try (repeat' with_reducible refine And.intro ?_ ?_)); (try any_goals (first | refine zm ?_ | exact CL | fail))))
  ((first | apply pr_psv | apply prD_psv | apply pr_qrunv | apply prD_qrunv) <;> (first | exact hD | (have zf1 := @e2; have zf2 := @e3; refine XG ?_; clear zf1 zf2; first | exact rfl | exact True.intro | ((try (repeat' with_reducible refine And.intro ?_ ?_)); (try any_goals (first | refine zm ?_ | exact CL | fail))))))
theorem pUndrain_ps (gl : Nat → AV) (p : Pool) (hp : p.wf) (a : Int) : PS Try.prog gl 32 [.agg p.enc, .int .i64 a] (pairT (p.drain a false)) := by
  refine ft_pUndrain.ps (of_decide_eq_true rfl) (by simp [nmOk, nmAll, pairT, Pool.enc_nm]) fun c hN hg => ?_
  unfold T_pUndrain
  have e2 := Pool.enc_len hp
  have hD := pdrain_ps c.gl p hp a false
  have e3 := Pool.enc_len (p.drain_wf hp a false)
  unfold pairT at hD ⊢
  (have zf1 := @e2; refine XG ?_; clear zf1; ((try (repeat' with_reducible refine And.intro ?_ ?_)); (try any_goals (first | refine zm ?_ | exact CL | fail))))
  ((first | apply pr_psv | apply prD_psv | apply pr_qrunv | apply prD_qrunv) <;> (first | exact hD | (have zf1 := @e2; have zf2 := @e3; refine XG ?_; clear zf1 zf2; first | exact rfl | exact True.intro | ((try (repeat' with_reducible refine And.intro ?_ ?_)); (try any_goals (first | refine zm ?_ | exact CL | fail))))))
end Go.Proofs.Ytphaicaobepimaa
