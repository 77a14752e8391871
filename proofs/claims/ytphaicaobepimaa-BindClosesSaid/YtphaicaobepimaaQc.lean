/- What package pool answers. No conditions but the ones that stand in each. -/
import Derived.Test.YtphaicaobepimaaQa
import Derived.Test.YtphaicaobepimaaQb
import Derived.Test.YtphaicaobepimaaE5
import Derived.Lib.Hide
namespace Go.Proofs.Ytphaicaobepimaa
set_option linter.all false
set_option linter.unusedSimpArgs false
open Go.RowKit

theorem paddr_ps (gl : Nat → AV) (a : Int) : PS Try.prog gl 70 [.int .i64 a] (.bool (addrB a)) := by
  refine ft_paddr.ps (of_decide_eq_true rfl) (by simp [nmOk]) fun c hN hg => ?_
  unfold T_paddr addrB
  (refine XG ?_; ((try (repeat' with_reducible refine And.intro ?_ ?_)); (try any_goals (first | refine zm ?_ | exact CL | fail))))
theorem own_take (p : Pool) (hp : p.wf) : p.enc.take 18 = ints p.own := by
  unfold Pool.enc
  rw [List.take_append_of_le_length (by rw [ints_len, hp.own]; decide), List.take_of_length_le (by rw [ints_len, hp.own]; decide)]
theorem row_take (p : Pool) (hp : p.wf) (a : Nat) (ha : a < 3) : (p.enc.drop (a * 6)).take 6 = ints (p.row a) := by
  unfold Pool.enc Pool.row
  rw [List.drop_append_of_le_length (by rw [ints_len, hp.own]; omega), List.take_append_of_le_length (by rw [List.length_drop, ints_len, hp.own]; omega)]
  simp [ints, List.map_drop, List.map_take]
theorem row_take' (p : Pool) (a : Nat) : (p.own.drop (a * 6)).take 6 = p.row a := rfl
theorem row_getD (p : Pool) (a k : Nat) (hk : k < 6) : (p.row a).getD k 0 = p.ow a k := by
  unfold Pool.ow
  rw [List.getD_eq_getElem?_getD, List.getD_eq_getElem?_getD, row_get p a k hk]
theorem pGood_ps (gl : Nat → AV) (p : Pool) (hp : p.wf) : PS Try.prog gl 46 [.agg p.enc] (.bool p.good) := by
  refine ft_pGood.ps (of_decide_eq_true rfl) (by simp [nmOk]) fun c hN hg => ?_
  unfold T_pGood
  have e2 := Pool.enc_len hp
  have e3 := own_take p hp
  (have zf1 := @e2; have zf2 := @e3; refine XG ?_; clear zf1 zf2; ((try (repeat' with_reducible refine And.intro ?_ ?_)); (try any_goals (first | refine zm ?_ | exact CL | fail))))
  refine loop_rule (fun a : Nat => a ≤ 3 ∧ (p.own.take (a * 6)).all goodI = true) (fun a => ⟨[(8, .agg (ints p.own)), (9, .int .i64 a)], [], 0⟩) (fun a => 3 - a) ft_pGood.mixed hN
    ⟨0, ⟨by omega, rfl⟩, [], by (refine XG ?_; ((try (repeat' with_reducible refine And.intro ?_ ?_)); (try any_goals (first | refine zm ?_ | exact CL | fail))))⟩ fun a hI => ?_
  obtain ⟨ha, hall⟩ := id hI
  clear hI
  (refine XG ?_; ((try (repeat' with_reducible refine And.intro ?_ ?_)); (try any_goals (first | refine zm ?_ | exact CL | fail))))
  (refine xw_ifp (fun h1 => ?_) (fun h1 => ?_) <;> try exact h1.elim)
  · have ha3 : a < 3 := by omega
    have hr := row_take' p a
    have hrl := row_length p hp a ha3
    (have zf1 := @hr; have zf2 := @hp.own; refine XG ?_; clear zf1 zf2; ((try (repeat' with_reducible refine And.intro ?_ ?_)); (try any_goals (first | refine zm ?_ | exact CL | fail))))
    refine loop_rule (fun k : Nat => k ≤ 6 ∧ (p.own.take (a * 6 + k)).all goodI = true) (fun k => ⟨[(8, .agg (ints p.own)), (9, .int .i64 a), (12, .agg (ints (p.row a))), (13, .int .i64 k)], [], 0⟩) (fun k => 6 - k) ft_pGood.mixed hN
      ⟨0, ⟨by omega, hall⟩, [], by (refine XG ?_; ((try (repeat' with_reducible refine And.intro ?_ ?_)); (try any_goals (first | refine zm ?_ | exact CL | fail))))⟩ fun k hJ => ?_
    obtain ⟨hk, hall2⟩ := id hJ
    clear hJ
    (refine XG ?_; ((try (repeat' with_reducible refine And.intro ?_ ?_)); (try any_goals (first | refine zm ?_ | exact CL | fail))))
    (refine xw_ifp (fun h2 => ?_) (fun h2 => ?_) <;> try exact h2.elim)
    · have hk6 : k < 6 := by omega
      have hv := row_getD p a k hk6
      have ho : p.own[a * 6 + k]? = some (p.ow a k) := by
        unfold Pool.ow
        rw [List.getD_eq_getElem?_getD, List.getElem?_eq_getElem (by rw [hp.own]; omega)]; rfl
      generalize p.ow a k = x at *
      (have zf1 := @hrl; have zf2 := @hv; refine XG ?_; clear zf1 zf2; ((try (repeat' with_reducible refine And.intro ?_ ?_)); (try any_goals (first | refine zm ?_ | exact CL | fail))))
      (refine xw_ifp (fun h3 => ?_) (fun h3 => ?_) <;> try exact h3.elim)
      · have hb : goodI x = false := h3.elim (goodI_lo x) (goodI_hi x)
        (have zf1 := good_not p _ x ho hb; refine XG ?_; clear zf1; ((try (repeat' with_reducible refine And.intro ?_ ?_)); (try any_goals (first | refine zm ?_ | exact CL | fail))))
      · (refine XG ?_; ((try (repeat' with_reducible refine And.intro ?_ ?_)); (try any_goals (first | refine zm ?_ | exact CL | fail))))
        refine ⟨k + 1, ⟨by omega, good_snoc p _ x ho hall2 (goodI_in x h3.1 h3.2)⟩, ⟨[], ?_⟩, by omega⟩
        (refine XG ?_; ((try (repeat' with_reducible refine And.intro ?_ ?_)); (try any_goals (first | refine zm ?_ | exact CL | fail))))
    · have : k = 6 := by omega
      subst this
      (refine XG ?_; ((try (repeat' with_reducible refine And.intro ?_ ?_)); (try any_goals (first | refine zm ?_ | exact CL | fail))))
      refine ⟨a + 1, ⟨by omega, by rw [show (a + 1) * 6 = a * 6 + 6 by omega]; exact hall2⟩, ⟨[], ?_⟩, by omega⟩
      (refine XG ?_; ((try (repeat' with_reducible refine And.intro ?_ ?_)); (try any_goals (first | refine zm ?_ | exact CL | fail))))
  · have : a = 3 := by omega
    subst this
    (have zf1 := good_all p hall hp; refine XG ?_; clear zf1; ((try (repeat' with_reducible refine And.intro ?_ ?_)); (try any_goals (first | refine zm ?_ | exact CL | fail))))
theorem pLeft_ps (gl : Nat → AV) (p : Pool) (hp : p.wf) (a : Int) : PS Try.prog gl 68 [.agg p.enc, .int .i64 a] (.int .i64 (p.left a)) := by
  refine ft_pLeft.ps (of_decide_eq_true rfl) (by simp [nmOk]) fun c hN hg => ?_
  unfold T_pLeft
  have e2 := Pool.enc_len hp
  have hA := paddr_ps c.gl a
  by_cases ha : addrB a = true
  · obtain ⟨b, rfl, hb⟩ := addr_nat a ha
    rw [ha] at hA
    have hr := row_take p hp b hb
    have hrl := row_length p hp b hb
    (have zf1 := @e2; refine XG ?_; clear zf1; ((try (repeat' with_reducible refine And.intro ?_ ?_)); (try any_goals (first | refine zm ?_ | exact CL | fail))))
    ((first | apply pr_psv | apply prD_psv | apply pr_qrunv | apply prD_qrunv) <;> (first | exact hA | (refine XG ?_; first | exact rfl | exact True.intro | ((try (repeat' with_reducible refine And.intro ?_ ?_)); (try any_goals (first | refine zm ?_ | exact CL | fail))))))
    (refine xw_ifp (fun h1 => ?_) (fun h1 => ?_) <;> try exact h1.elim)
    (have zf1 := @e2; have zf2 := @hr; refine XG ?_; clear zf1 zf2; ((try (repeat' with_reducible refine And.intro ?_ ?_)); (try any_goals (first | refine zm ?_ | exact CL | fail))))
    refine loop_rule (fun k : Nat => k ≤ 6) (fun k => ⟨[(5, .int .i64 (freeN ((p.row b).take k) : Nat)), (13, .agg (ints (p.row b))), (14, .int .i64 k)], [], 0⟩) (fun k => 6 - k) ft_pLeft.mixed hN
      ⟨0, by omega, [], by (refine XG ?_; ((try (repeat' with_reducible refine And.intro ?_ ?_)); (try any_goals (first | refine zm ?_ | exact CL | fail)))); rfl⟩ fun k hk => ?_
    (refine XG ?_; ((try (repeat' with_reducible refine And.intro ?_ ?_)); (try any_goals (first | refine zm ?_ | exact CL | fail))))
    (refine xw_ifp (fun h2 => ?_) (fun h2 => ?_) <;> try exact h2.elim)
    · have hk6 : k < 6 := by omega
      have hv := row_getD p b k hk6
      have hs := freeN_snoc (p.row b) k (p.ow b k) (row_ow p hp b k hb hk6)
      have hle := freeN_le (p.row b) k
      generalize p.ow b k = x at *
      (have zf1 := @hrl; have zf2 := @hv; refine XG ?_; clear zf1 zf2; ((try (repeat' with_reducible refine And.intro ?_ ?_)); (try any_goals (first | refine zm ?_ | exact CL | fail))))
      (refine xw_ifp (fun h3 => ?_) (fun h3 => ?_) <;> try exact h3.elim)
      · rw [if_pos h3] at hs
        (refine XG ?_; ((try (repeat' with_reducible refine And.intro ?_ ?_)); (try any_goals (first | refine zm ?_ | exact CL | fail))))
        refine ⟨k + 1, by omega, ⟨[], ?_⟩, by omega⟩
        (have zf1 := @hs; refine XG ?_; clear zf1; ((try (repeat' with_reducible refine And.intro ?_ ?_)); (try any_goals (first | refine zm ?_ | exact CL | fail))))
      · rw [if_neg h3] at hs
        (refine XG ?_; ((try (repeat' with_reducible refine And.intro ?_ ?_)); (try any_goals (first | refine zm ?_ | exact CL | fail))))
        refine ⟨k + 1, by omega, ⟨[], ?_⟩, by omega⟩
        (have zf1 := @hs; refine XG ?_; clear zf1; ((try (repeat' with_reducible refine And.intro ?_ ?_)); (try any_goals (first | refine zm ?_ | exact CL | fail))))
    · have : k = 6 := by omega
      subst this
      have hf : p.left (b : Int) = freeN ((p.row b).take 6) := by rw [left_in p b hb, List.take_of_length_le (by omega)]
      (have zf1 := @hf; refine XG ?_; clear zf1; ((try (repeat' with_reducible refine And.intro ?_ ?_)); (try any_goals (first | refine zm ?_ | exact CL | fail))))
  · have ha : addrB a = false := by simpa using ha
    rw [ha] at hA
    have h0 := left_out p a ha
    (have zf1 := @e2; refine XG ?_; clear zf1; ((try (repeat' with_reducible refine And.intro ?_ ?_)); (try any_goals (first | refine zm ?_ | exact CL | fail))))
    ((first | apply pr_psv | apply prD_psv | apply pr_qrunv | apply prD_qrunv) <;> (first | exact hA | (refine XG ?_; first | exact rfl | exact True.intro | ((try (repeat' with_reducible refine And.intro ?_ ?_)); (try any_goals (first | refine zm ?_ | exact CL | fail))))))
    (refine xw_ifp (fun h1 => ?_) (fun h1 => ?_) <;> try exact h1.elim)
    (have zf1 := @h0; refine XG ?_; clear zf1; ((try (repeat' with_reducible refine And.intro ?_ ?_)); (try any_goals (first | refine zm ?_ | exact CL | fail))))
theorem pchosen_ps (gl : Nat → AV) (k n : Int) (hn : 0 < n) (hn2 : n ≤ 4611686018427387904) : PS Try.prog gl 69 [.int .i64 k, .int .i64 n] (.int .i64 (k % n)) := by
  refine ft_pchosen.ps (of_decide_eq_true rfl) (by simp [nmOk]) fun c hN hg => ?_
  unfold T_pchosen
  have hb := tmod_bdQ k n hn
  have hE := Lib.hid (emod_of_tmodP k n hn)
  (refine XG ?_; ((try (repeat' with_reducible refine And.intro ?_ ?_)); (try any_goals (first | refine zm ?_ | exact CL | fail))))
  (refine xw_ifp (fun h1 => ?_) (fun h1 => ?_) <;> try exact h1.elim)
  · have e := hE.out
    rw [if_pos h1] at e
    (refine XG ?_; ((try (repeat' with_reducible refine And.intro ?_ ?_)); (try any_goals (first | refine zm ?_ | exact CL | fail))))
  · have e := hE.out
    rw [if_neg h1] at e
    (refine XG ?_; ((try (repeat' with_reducible refine And.intro ?_ ?_)); (try any_goals (first | refine zm ?_ | exact CL | fail))))
theorem freeN_zero (l : List Int) : freeN (l.take 0) = 0 := rfl
theorem opens_zero (p : Pool) : p.opens 0 = [] := rfl
theorem dr_get (p : Pool) (hp : p.wf) (a : Nat) (ha : a < 3) : p.enc.getD (18 + a * 1) .any = .bool (p.dra a) := by rw [Nat.mul_one]; exact Pool.enc_dr hp ha
def natI (l : List Nat) : List Int := l.map fun (a : Nat) => (a : Int)
theorem natI_len (l : List Nat) : (natI l).length = l.length := by simp [natI]
theorem natI_get (l : List Nat) (i : Nat) (h : i < l.length) : (natI l).getD i 0 = ((l.getD i 0 : Nat) : Int) := by simp [natI, List.getD, h]
theorem natI_snoc (l : List Nat) (k : Nat) : natI l ++ [(k : Int)] = natI (l ++ [k]) := by simp [natI]
set_option maxHeartbeats 1000000 in
theorem pPick_ps (gl : Nat → AV) (p : Pool) (hp : p.wf) (draw : Int) : PS Try.prog gl 53 [.agg p.enc, .int .i64 draw] (.tup [.int .i64 (p.pick draw).1, .int .i64 (p.pick draw).2]) := by
  refine ft_pPick.ps (of_decide_eq_true rfl) (by simp [nmOk, nmAll]) fun c hN hg => ?_
  unfold T_pPick
  have e2 := Pool.enc_len hp
  have hG := pGood_ps c.gl p hp
  by_cases hgd : p.good = true
  rotate_left
  · have hr : p.pick draw = (0, 2) := if_neg hgd
    have hgd : p.good = false := by simpa using hgd
    rw [hgd] at hG
    rw [hr]
    (have zf1 := @e2; refine XG ?_; clear zf1; ((try (repeat' with_reducible refine And.intro ?_ ?_)); (try any_goals (first | refine zm ?_ | exact CL | fail))))
    ((first | apply pr_psv | apply prD_psv | apply pr_qrunv | apply prD_qrunv) <;> (first | exact hG | (have zf1 := @e2; refine XG ?_; clear zf1; first | exact rfl | exact True.intro | ((try (repeat' with_reducible refine And.intro ?_ ?_)); (try any_goals (first | refine zm ?_ | exact CL | fail))))))
    (refine xw_ifp (fun h1 => ?_) (fun h1 => ?_) <;> try exact h1.elim)
    (refine XG ?_; ((try (repeat' with_reducible refine And.intro ?_ ?_)); (try any_goals (first | refine zm ?_ | exact CL | fail))))
  have hr : p.pick draw = (if (p.opens 3).length = 0 then ((0 : Int), (10 : Int)) else ((((p.opens 3).getD (draw % ((p.opens 3).length : Int)).toNat 0 : Nat) : Int), (0 : Int))) := if_pos hgd
  rw [hgd] at hG
  rw [hr]
  clear hr
  (have zf1 := @e2; refine XG ?_; clear zf1; ((try (repeat' with_reducible refine And.intro ?_ ?_)); (try any_goals (first | refine zm ?_ | exact CL | fail))))
  ((first | apply pr_psv | apply prD_psv | apply pr_qrunv | apply prD_qrunv) <;> (first | exact hG | (have zf1 := @e2; refine XG ?_; clear zf1; first | exact rfl | exact True.intro | ((try (repeat' with_reducible refine And.intro ?_ ?_)); (try any_goals (first | refine zm ?_ | exact CL | fail))))))
  (refine xw_ifp (fun h1 => ?_) (fun h1 => ?_) <;> try exact h1.elim)
  (refine XG ?_; ((try (repeat' with_reducible refine And.intro ?_ ?_)); (try any_goals (first | refine zm ?_ | exact CL | fail))))
  refine loop_nil 6 1 rfl rfl ?_
  refine loop_rule (fun k : Nat => k ≤ 3) (fun k => ⟨[(1, .int .i64 draw), (2, .ptr 0 0), (6, .sl 1 1 0 (p.opens k).length (p.opens k).length), (11, .int .i64 k)], [(0, .cells p.enc), (1, .cells (ints (natI (p.opens k))))], 2⟩) (fun k => 3 - k) ft_pPick.mixed hN
    ⟨0, by omega, [], by (have zf1 := @St.named.eq_1; refine XG ?_; clear zf1; ((try (repeat' with_reducible refine And.intro ?_ ?_)); (try any_goals (first | refine zm ?_ | exact CL | fail)))) <;> exact rfl⟩ fun k hk => ?_
  have hol := opens_le p k
  (refine XG ?_; ((try (repeat' with_reducible refine And.intro ?_ ?_)); (try any_goals (first | refine zm ?_ | exact CL | fail))))
  (refine xw_ifp (fun h2 => ?_) (fun h2 => ?_) <;> try exact h2.elim)
  · have hk3 : k < 3 := by omega
    have hd := Pool.enc_dr hp hk3
    have hL := pLeft_ps c.gl p hp k
    have hos := opens_succ p k
    unfold Pool.open_ at hos
    have hnl := natI_len (p.opens k)
    cases hdk : p.dra k with
    | true =>
      rw [hdk] at hd hos
      have hos : p.opens (k + 1) = p.opens k := by simpa using hos
      (have zf1 := @e2; have zf2 := @hd; refine XG ?_; clear zf1 zf2; ((try (repeat' with_reducible refine And.intro ?_ ?_)); (try any_goals (first | refine zm ?_ | exact CL | fail))))
      ((first | apply pr_skip | apply prD_skip) <;> (refine XG ?_; first | exact rfl | exact True.intro | ((try (repeat' with_reducible refine And.intro ?_ ?_)); (try any_goals (first | refine zm ?_ | exact CL | fail)))))
      (refine xw_ifp (fun h3 => ?_) (fun h3 => ?_) <;> try exact h3.elim)
      (refine XG ?_; ((try (repeat' with_reducible refine And.intro ?_ ?_)); (try any_goals (first | refine zm ?_ | exact CL | fail))))
      refine ⟨k + 1, by omega, ⟨[], ?_⟩, by omega⟩
      (have zf1 := @hos; refine XG ?_; clear zf1; ((try (repeat' with_reducible refine And.intro ?_ ?_)); (try any_goals (first | refine zm ?_ | exact CL | fail))))
    | false =>
      rw [hdk] at hd hos
      (have zf1 := @e2; have zf2 := @hd; refine XG ?_; clear zf1 zf2; ((try (repeat' with_reducible refine And.intro ?_ ?_)); (try any_goals (first | refine zm ?_ | exact CL | fail))))
      ((first | apply pr_psv | apply prD_psv | apply pr_qrunv | apply prD_qrunv) <;> (first | exact hL | (have zf1 := @e2; have zf2 := @hd; refine XG ?_; clear zf1 zf2; first | exact rfl | exact True.intro | ((try (repeat' with_reducible refine And.intro ?_ ?_)); (try any_goals (first | refine zm ?_ | exact CL | fail))))))
      (refine xw_ifp (fun h3 => ?_) (fun h3 => ?_) <;> try exact h3.elim)
      · have hos : p.opens (k + 1) = p.opens k ++ [k] := by rw [hos]; simp; omega
        have hsn := natI_snoc (p.opens k) k
        have hln : (p.opens k ++ [k]).length = (p.opens k).length + 1 := by simp
        (refine XG ?_; ((try (repeat' with_reducible refine And.intro ?_ ?_)); (try any_goals (first | refine zm ?_ | exact CL | fail))))
        ((first | apply pr_app | apply prD_app | apply pr_bsl | apply prD_bsl | apply pr_s2b | apply prD_s2b); (refine XG ?_; ((try (repeat' with_reducible refine And.intro ?_ ?_)); (try any_goals (first | refine zm ?_ | exact CL | fail)))))
        ((first | apply pr_app | apply prD_app | apply pr_bsl | apply prD_bsl | apply pr_s2b | apply prD_s2b); (have zf1 := @hnl; refine XG ?_; clear zf1; ((try (repeat' with_reducible refine And.intro ?_ ?_)); (try any_goals (first | refine zm ?_ | exact CL | fail)))))
        refine ⟨k + 1, by omega, ⟨[(1, 3)], ?_⟩, by omega⟩
        (have zf1 := @hos; have zf2 := @hsn; have zf3 := @hln; refine XG ?_; clear zf1 zf2 zf3; ((try (repeat' with_reducible refine And.intro ?_ ?_)); (try any_goals (first | refine zm ?_ | exact CL | fail))))
      · have hos : p.opens (k + 1) = p.opens k := by rw [hos]; simp; omega
        (refine XG ?_; ((try (repeat' with_reducible refine And.intro ?_ ?_)); (try any_goals (first | refine zm ?_ | exact CL | fail))))
        refine ⟨k + 1, by omega, ⟨[], ?_⟩, by omega⟩
        (have zf1 := @hos; refine XG ?_; clear zf1; ((try (repeat' with_reducible refine And.intro ?_ ?_)); (try any_goals (first | refine zm ?_ | exact CL | fail))))
  · have : k = 3 := by omega
    subst this
    have hnl := natI_len (p.opens 3)
    by_cases hz : (p.opens 3).length = 0
    · rw [if_pos hz]
      (refine XG ?_; ((try (repeat' with_reducible refine And.intro ?_ ?_)); (try any_goals (first | refine zm ?_ | exact CL | fail))))
      (refine xw_ifp (fun h3 => ?_) (fun h3 => ?_) <;> try exact h3.elim)
      · (refine XG ?_; ((try (repeat' with_reducible refine And.intro ?_ ?_)); (try any_goals (first | refine zm ?_ | exact CL | fail))))
      · omega
    · rw [if_neg hz]
      have hC := pchosen_ps c.gl draw (p.opens 3).length (by omega) (by omega)
      have m0 := Int.emod_nonneg draw (show ((p.opens 3).length : Int) ≠ 0 by omega)
      have m1 := Int.emod_lt_of_pos draw (show (0 : Int) < (p.opens 3).length by omega)
      have hgt := natI_get (p.opens 3) (draw % ((p.opens 3).length : Int)).toNat (by omega)
      generalize draw % ((p.opens 3).length : Int) = d at *
      (refine XG ?_; ((try (repeat' with_reducible refine And.intro ?_ ?_)); (try any_goals (first | refine zm ?_ | exact CL | fail))))
      (refine xw_ifp (fun h3 => ?_) (fun h3 => ?_) <;> try exact h3.elim)
      · omega
      (refine XG ?_; ((try (repeat' with_reducible refine And.intro ?_ ?_)); (try any_goals (first | refine zm ?_ | exact CL | fail))))
      ((first | apply pr_psv | apply prD_psv | apply pr_qrunv | apply prD_qrunv) <;> (first | exact hC | (have zf1 := @hnl; have zf2 := @hgt; refine XG ?_; clear zf1 zf2; first | exact rfl | exact True.intro | ((try (repeat' with_reducible refine And.intro ?_ ?_)); (try any_goals (first | refine zm ?_ | exact CL | fail))))))
end Go.Proofs.Ytphaicaobepimaa
