/- What bind.Good answers. No conditions but the ones that stand in each. -/
import Derived.Test.YtphaicaobepimaaDe
namespace Go.Proofs.Ytphaicaobepimaa
set_option linter.all false
set_option linter.unusedSimpArgs false
open Go.RowKit

open Classical in
theorem goodB_t {t : Tb} (h : goodT t) : goodB t = true := decide_eq_true h
open Classical in
theorem goodB_f {t : Tb} (h : ¬ goodT t) : goodB t = false := decide_eq_false h
theorem known_bd {p s i : Int} (h : knownB p s i = true) : (p = 1 ∨ p = 6 ∨ p = 17) ∧ (0 ≤ s ∧ s < 8) ∧ (0 ≤ i ∧ i ≤ 65535) := by
  unfold knownB at h
  simp at h
  omega
theorem blk_bd {port : Int} (h : inPort port = true) : 0 ≤ blkOf' port ∧ blkOf' port < 6 ∧ (1024 ≤ port ∧ port < 1072) := by
  have h' := h
  unfold inPort at h'
  simp at h'
  unfold blkOf'
  rw [if_pos h]; omega
theorem zeros8 : [.int .i64 0, .int .i64 0, .int .i64 0, .int .i64 0, .int .i64 0, .int .i64 0, .int .i64 0, .int .i64 0] = ints (manyL []) := rfl
theorem bools_set' (l : List Bool) (i : Nat) (b : Bool) : (bools l).set i (.bool b) = bools (l.set i b) := by simp [bools, List.map_set]
theorem ints_set' (l : List Int) (i : Nat) (n : Int) : (ints l).set i (.int .i64 n) = ints (l.set i n) := by simp [ints, List.map_set]
set_option maxHeartbeats 8000000 in
set_option maxRecDepth 20000 in
theorem bGood_ps (gl : Nat → AV) (t : Tb) (ht : t.ok) : PS Try.prog gl 20 [.agg t.enc] (.bool (goodB t)) := by
  refine ft_bGood.ps (of_decide_eq_true rfl) (by simp [nmOk]) fun c hN hg => ?_
  unfold T_bGood
  have e2 := Tb.enc_len ht.wf
  have e3 := Tb.enc_maps ht.wf
  have e4 := Tb.enc_pool ht.wf
  have hG := pGood_ps c.gl t.pool ht.wf.pool
  have hel := mps_len t.maps
  have hlen := ht.len
  by_cases hgd : t.pool.good = true
  rotate_left
  · have hr := goodB_f (t := t) fun h => hgd h.pool
    have hgd : t.pool.good = false := by simpa using hgd
    rw [hgd] at hG
    (have zf1 := @e2; have zf2 := @e4; refine XG ?_; clear zf1 zf2; ((try (repeat' with_reducible refine And.intro ?_ ?_)); (try any_goals (first | refine zm ?_ | exact CL | fail))))
    ((first | apply pr_psv | apply prD_psv | apply pr_qrunv | apply prD_qrunv) <;> (first | exact hG | (have zf1 := @e2; have zf2 := @e4; refine XG ?_; clear zf1 zf2; first | exact rfl | exact True.intro | ((try (repeat' with_reducible refine And.intro ?_ ?_)); (try any_goals (first | refine zm ?_ | exact CL | fail))))))
    (refine xw_ifp (fun h1 => ?_) (fun h1 => ?_) <;> try exact h1.elim)
    (have zf1 := @hr; refine XG ?_; clear zf1; ((try (repeat' with_reducible refine And.intro ?_ ?_)); (try any_goals (first | refine zm ?_ | exact CL | fail))))
  rw [hgd] at hG
  (have zf1 := @e2; have zf2 := @e4; refine XG ?_; clear zf1 zf2; ((try (repeat' with_reducible refine And.intro ?_ ?_)); (try any_goals (first | refine zm ?_ | exact CL | fail))))
  ((first | apply pr_psv | apply prD_psv | apply pr_qrunv | apply prD_qrunv) <;> (first | exact hG | (have zf1 := @e2; have zf2 := @e4; refine XG ?_; clear zf1 zf2; first | exact rfl | exact True.intro | ((try (repeat' with_reducible refine And.intro ?_ ?_)); (try any_goals (first | refine zm ?_ | exact CL | fail))))))
  (refine xw_ifp (fun h1 => ?_) (fun h1 => ?_) <;> try exact h1.elim)
  (have zf1 := @e2; have zf2 := @e3; refine XG ?_; clear zf1 zf2; ((try (repeat' with_reducible refine And.intro ?_ ?_)); (try any_goals (first | refine zm ?_ | exact CL | fail))))
  refine loop_rule (fun k : Nat => k ≤ t.maps.length ∧ (∀ i (h : i < t.maps.length), i < k → mapOk t t.maps[i]) ∧ (∀ i j (hi : i < t.maps.length) (hj : j < i), i < k → klash t.maps[i] (t.maps[j]'(by omega)) = false))
    (fun k => ⟨[(1, .ptr 0 0), (3, .ptr 1 0), (4, .ptr 2 0), (23, .isl t.maps.length (mps t.maps)), (24, .int .i64 t.maps.length), (25, .int .i64 k)], [(0, .cells t.enc), (1, .cells (bools (usedL (t.maps.take k)))), (2, .cells (ints (manyL (t.maps.take k))))], 3⟩) (fun k => t.maps.length - k) ft_bGood.mixed hN
    ⟨0, ⟨by omega, fun i h h0 => by omega, fun i j hi hj h0 => by omega⟩, [], by (refine XG ?_; ((try (repeat' with_reducible refine And.intro ?_ ?_)); (try any_goals (first | refine zm ?_ | exact CL | fail)))) <;> exact rfl⟩ fun k hI => ?_
  obtain ⟨hk, hok, hap⟩ := id hI
  clear hI
  have hul := usedL_len (t.maps.take k)
  have hml := manyL_len (t.maps.take k)
  (refine XG ?_; ((try (repeat' with_reducible refine And.intro ?_ ?_)); (try any_goals (first | refine zm ?_ | exact CL | fail))))
  (refine xw_ifp (fun h2 => ?_) (fun h2 => ?_) <;> try exact h2.elim)
  · have hkn : k < t.maps.length := by omega
    have hcut := mps_cut t.maps k hkn
    have hbd := ht.bd _ (List.getElem_mem hkn)
    have htk : t.maps.take (k + 1) = t.maps.take k ++ [t.maps[k]] := by rw [List.take_add_one, List.getElem?_eq_getElem hkn]; rfl
    have hus := usedL_snoc (t.maps.take k) t.maps[k]
    have hms := manyL_snoc (t.maps.take k) t.maps[k]
    have hmb := manyL_bd (t.maps.take k) t.maps[k].s.toNat
    rw [List.length_take] at hmb
    have hokk : ¬ mapOk t t.maps[k] → ¬ goodT t := fun h h2 => h (h2.maps k hkn)
    have hapk : ∀ j (hj : j < k), klash t.maps[k] (t.maps[j]'(by omega)) = true → ¬ goodT t := fun j hj h h2 => by
      have := h2.apart k j hkn hj
      rw [h] at this; cases this
    have hok2 : mapOk t t.maps[k] → ∀ i (h : i < t.maps.length), i < k + 1 → mapOk t t.maps[i] := fun h i hi hik => by
      by_cases e : i = k
      · subst e; exact h
      · exact hok i hi (by omega)
    have hap2 : (∀ j (hj : j < k), klash t.maps[k] (t.maps[j]'(by omega)) = false) → ∀ i j (hi : i < t.maps.length) (hj : j < i), i < k + 1 → klash t.maps[i] (t.maps[j]'(by omega)) = false := fun h i j hi hj hik => by
      by_cases e : i = k
      · subst e; exact h j hj
      · exact hap i j hi hj (by omega)
    have HOK := Lib.hid hokk
    have HAP := Lib.hid hapk
    have HOK2 := Lib.hid hok2
    have HAP2 := Lib.hid hap2
    clear hokk hapk hok2 hap2 hok hap
    generalize hmk : t.maps[k] = m at *
    obtain ⟨mp, ms, mi, ma, mt⟩ := m
    obtain ⟨_, _, _, _, hbp⟩ := hbd
    dsimp only at hbp hmb
    have hB := bBlock_ps c.gl mt hbp
    have hK := bknown_ps c.gl mp ms mi
    unfold blkT at hB
    simp only [Mp.enc] at hcut
    by_cases hpre : knownB mp ms mi = true ∧ inPort mt = true ∧ 0 ≤ ma ∧ ma < 3
    rotate_left
    · have hbad := goodB_f (HOK.out fun h => hpre ⟨h.1.1, h.1.2.1, h.1.2.2.1, h.1.2.2.2⟩)
      have hb : (!knownB mp ms mi || !inPort mt || decide (ma < 0) || decide (3 ≤ ma)) = true := by
        cases h1 : knownB mp ms mi
        · rfl
        · cases h2 : inPort mt
          · rfl
          · have : ma < 0 ∨ 3 ≤ ma := by
              have : ¬ (0 ≤ ma ∧ ma < 3) := fun h => hpre ⟨h1, h2, h⟩
              omega
            simpa using this
      (have zf1 := @hel; have zf2 := @hcut; refine XG ?_; clear zf1 zf2; ((try (repeat' with_reducible refine And.intro ?_ ?_)); (try any_goals (first | refine zm ?_ | exact CL | fail))))
      ((first | apply pr_psv | apply prD_psv | apply pr_qrunv | apply prD_qrunv) <;> (first | exact hB | (have zf1 := @hel; have zf2 := @hcut; refine XG ?_; clear zf1 zf2; first | exact rfl | exact True.intro | ((try (repeat' with_reducible refine And.intro ?_ ?_)); (try any_goals (first | refine zm ?_ | exact CL | fail))))))
      ((first | apply pr_psv | apply prD_psv | apply pr_qrunv | apply prD_qrunv) <;> (first | exact hK | (have zf1 := @hel; have zf2 := @hcut; have zf3 := @hb; refine XG ?_; clear zf1 zf2 zf3; first | exact rfl | exact True.intro | ((try (repeat' with_reducible refine And.intro ?_ ?_)); (try any_goals (first | refine zm ?_ | exact CL | fail))))))
      (refine xw_ifp (fun h3 => ?_) (fun h3 => ?_) <;> try exact h3.elim)
      (have zf1 := @hbad; refine XG ?_; clear zf1; ((try (repeat' with_reducible refine And.intro ?_ ?_)); (try any_goals (first | refine zm ?_ | exact CL | fail))))
    obtain ⟨hk1, hk2, ha0, ha1⟩ := hpre
    obtain ⟨_, ⟨hs0, hs1⟩, _⟩ := known_bd hk1
    obtain ⟨hb0, hb1, _⟩ := blk_bd hk2
    have hpre : mapPre t ⟨mp, ms, mi, ma, mt⟩ := ⟨hk1, hk2, ha0, ha1⟩
    rw [hk1] at hK
    rw [hk2, if_pos rfl] at hB
    obtain ⟨S, rfl⟩ := Int.eq_ofNat_of_zero_le hs0
    obtain ⟨A, rfl⟩ := Int.eq_ofNat_of_zero_le ha0
    obtain ⟨Bk, hBk⟩ := Int.eq_ofNat_of_zero_le hb0
    have hS8 : S < 8 := by omega
    have hA3 : A < 3 := by omega
    have hB6 : Bk < 6 := by omega
    have eh := Tb.enc_home ht.wf hS8
    have eo := Tb.enc_ow ht.wf hA3 hB6
    have hmk2 : mapOk t ⟨mp, S, mi, A, mt⟩ ↔ t.hom S = (A : Int) + 1 ∧ t.pool.ow A Bk = (S : Int) + 1 := by
      unfold mapOk
      dsimp only
      rw [Int.toNat_natCast, Int.toNat_natCast, hBk, Int.toNat_natCast]
      exact ⟨fun h => h.2, fun h => ⟨hpre, h⟩⟩
    have hix : mIdx ⟨mp, S, mi, A, mt⟩ = A * 6 + Bk := by
      unfold mIdx
      dsimp only
      rw [hBk, Int.toNat_natCast, Int.toNat_natCast]
    rw [hix] at hus
    dsimp only at hms
    rw [Int.toNat_natCast] at hms hmb
    rw [hBk] at hB
    clear hpre hix hbp
    generalize hUU : usedL (t.maps.take k) = U at *
    generalize hMM : manyL (t.maps.take k) = M at *
    generalize hho : t.hom S = ho at *
    generalize how : t.pool.ow A Bk = ow at *
    generalize (mt - 1024) % 8 = q at *
    (have zf1 := @hel; have zf2 := @hcut; refine XG ?_; clear zf1 zf2; ((try (repeat' with_reducible refine And.intro ?_ ?_)); (try any_goals (first | refine zm ?_ | exact CL | fail))))
    ((first | apply pr_psv | apply prD_psv | apply pr_qrunv | apply prD_qrunv) <;> (first | exact hB | (have zf1 := @hel; have zf2 := @hcut; refine XG ?_; clear zf1 zf2; first | exact rfl | exact True.intro | ((try (repeat' with_reducible refine And.intro ?_ ?_)); (try any_goals (first | refine zm ?_ | exact CL | fail))))))
    ((first | apply pr_psv | apply prD_psv | apply pr_qrunv | apply prD_qrunv) <;> (first | exact hK | (have zf1 := @hel; have zf2 := @hcut; have zf3 := @e2; have zf4 := @eh; have zf5 := @eo; refine XG ?_; clear zf1 zf2 zf3 zf4 zf5; first | exact rfl | exact True.intro | ((try (repeat' with_reducible refine And.intro ?_ ?_)); (try any_goals (first | refine zm ?_ | exact CL | fail))))))
    (refine xw_ifp (fun h3 => ?_) (fun h3 => ?_) <;> try exact h3.elim)
    · have hbad := goodB_f (HOK.out fun h => by have := hmk2.1 h; omega)
      (have zf1 := @hbad; refine XG ?_; clear zf1; ((try (repeat' with_reducible refine And.intro ?_ ?_)); (try any_goals (first | refine zm ?_ | exact CL | fail))))
    have hmok := hmk2.2 ⟨by omega, by omega⟩
    clear HOK hmk2
    have hmg : (ints M).getD S .any = .int .i64 (M.getD S 0) := ints_get (by omega)
    have hpt := mps_take t.maps k (by omega)
    (have zf1 := @e3; have zf2 := @hel; have zf3 := @hul; have zf4 := @hml; have zf5 := @hmg; refine XG ?_; clear zf1 zf2 zf3 zf4 zf5; ((try (repeat' with_reducible refine And.intro ?_ ?_)); (try any_goals (first | refine zm ?_ | exact CL | fail))))
    refine loop_rule (fun j : Nat => j ≤ k ∧ ∀ i (hi : i < k), i < j → klash ⟨mp, S, mi, A, mt⟩ (t.maps[i]'(by omega)) = false)
      (fun j => ⟨[(1, .ptr 0 0), (3, .ptr 1 0), (4, .ptr 2 0), (6, .ptr 3 0), (23, .isl t.maps.length (mps t.maps)), (24, .int .i64 t.maps.length), (25, .int .i64 k), (98, .isl k (mps (t.maps.take k))), (99, .int .i64 k), (100, .int .i64 j)], [(0, .cells t.enc), (1, .cells (bools (U.set (A * 6 + Bk) true))), (2, .cells (ints (M.set S (M.getD S 0 + 1)))), (3, .cells [.int .i64 mp, .int .i64 S, .int .i64 mi, .int .i64 A, .int .i64 mt])], 4⟩) (fun j => k - j) ft_bGood.mixed hN
      ⟨0, ⟨by omega, fun i h h0 => by omega⟩, [], by (have zf1 := @Nat.sub_zero; have zf2 := @hpt; refine XG ?_; clear zf1 zf2; ((try (repeat' with_reducible refine And.intro ?_ ?_)); (try any_goals (first | refine zm ?_ | exact CL | fail))))⟩ fun j hJ => ?_
    obtain ⟨hj, hno⟩ := id hJ
    clear hJ
    (refine XG ?_; ((try (repeat' with_reducible refine And.intro ?_ ?_)); (try any_goals (first | refine zm ?_ | exact CL | fail))))
    (refine xw_ifp (fun h4 => ?_) (fun h4 => ?_) <;> try exact h4.elim)
    · have hjk : j < k := by omega
      have hcut2 := mps_cut (t.maps.take k) j (by rw [List.length_take]; omega)
      rw [List.getElem_take] at hcut2
      have hel2 : (mps (t.maps.take k)).length = k * 5 := by rw [mps_len, List.length_take, Nat.min_eq_left (by omega)]
      have hbad := fun h => goodB_f (HAP.out j hjk h)
      have hno2 : klash ⟨mp, S, mi, A, mt⟩ (t.maps[j]'(by omega)) = false → ∀ i (hi : i < k), i < j + 1 → klash ⟨mp, S, mi, A, mt⟩ (t.maps[i]'(by omega)) = false := fun h i hi hij => by
        by_cases e : i = j
        · subst e; exact h
        · exact hno i hi (by omega)
      have HB := Lib.hid hbad
      have HN := Lib.hid hno2
      clear hbad hno2 hno
      generalize t.maps[j] = o at *
      obtain ⟨op, os, oi, oa, ot⟩ := o
      unfold klash at HB HN
      simp only [Mp.enc] at hcut2
      dsimp only at HB HN
      generalize hKL : (op == mp && (oa == (A : Int) && ot == mt || os == (S : Int) && oi == mi)) = kl at *
      (have zf1 := @hel2; have zf2 := @hcut2; have zf3 := @hKL; refine XG ?_; clear zf1 zf2 zf3; ((try (repeat' with_reducible refine And.intro ?_ ?_)); (try any_goals (first | refine zm ?_ | exact CL | fail))))
      · intro h1 h2; rw [h1, h2]; rfl
      (refine xw_ifp (fun h5 => ?_) (fun h5 => ?_) <;> try exact h5.elim)
      · (have zf1 := HB.out h5; refine XG ?_; clear zf1; ((try (repeat' with_reducible refine And.intro ?_ ?_)); (try any_goals (first | refine zm ?_ | exact CL | fail))))
      · (refine XG ?_; ((try (repeat' with_reducible refine And.intro ?_ ?_)); (try any_goals (first | refine zm ?_ | exact CL | fail))))
        refine ⟨j + 1, ⟨by omega, HN.out h5⟩, ⟨[], ?_⟩, by omega⟩
        (refine XG ?_; ((try (repeat' with_reducible refine And.intro ?_ ?_)); (try any_goals (first | refine zm ?_ | exact CL | fail))))
    · have : j = k := by omega
      subst this
      (refine XG ?_; ((try (repeat' with_reducible refine And.intro ?_ ?_)); (try any_goals (first | refine zm ?_ | exact CL | fail))))
      refine ⟨j + 1, ⟨by omega, HOK2.out hmok, HAP2.out fun i hi => hno i hi hi⟩, ⟨[], ?_⟩, by omega⟩
      (have zf1 := @htk; have zf2 := @hus; have zf3 := @hms; refine XG ?_; clear zf1 zf2 zf3; ((try (repeat' with_reducible refine And.intro ?_ ?_)); (try any_goals (first | refine zm ?_ | exact CL | fail))))
  · have : k = t.maps.length := by omega
    subst this
    have hok2 : ∀ i (h : i < t.maps.length), mapOk t t.maps[i] := fun i h => hok i h h
    have hap2 : ∀ i j (hi : i < t.maps.length) (hj : j < i), klash t.maps[i] (t.maps[j]'(by omega)) = false := fun i j hi hj => hap i j hi hj hi
    clear hok hap
    rw [List.take_length] at hul hml
    have htl : t.maps.take t.maps.length = t.maps := List.take_length
    have hmb := manyL_bd t.maps
    have hgo : (∀ i, i < 18 → (t.pool.own.getD i 0 != 0) = (usedL t.maps).getD i false) → (∀ s, s < 8 → (blkL t.pool.own).getD s 0 ≤ 2 ∧ (manyL t.maps).getD s 0 ≤ 12 ∧ ((t.hom s != 0) = decide (0 < (blkL t.pool.own).getD s 0))) → goodT t := fun a b => ⟨hgd, hok2, hap2, a, b⟩
    have hb1 : ∀ i, i < 18 → ¬ ((t.pool.own.getD i 0 != 0) = (usedL t.maps).getD i false) → ¬ goodT t := fun i hi h h2 => h (h2.used i hi)
    have hb2 : ∀ s, s < 8 → ¬ ((blkL t.pool.own).getD s 0 ≤ 2 ∧ (manyL t.maps).getD s 0 ≤ 12 ∧ ((t.hom s != 0) = decide (0 < (blkL t.pool.own).getD s 0))) → ¬ goodT t := fun i hi h h2 => h (h2.subs i hi)
    have HGO := Lib.hid hgo
    have HB1 := Lib.hid hb1
    have HB2 := Lib.hid hb2
    clear hgo hb1 hb2 hok2 hap2
    have e5 : t.enc.take 18 = ints t.pool.own := by
      have h1 := own_take t.pool ht.wf.pool
      rw [← e4, List.take_take] at h1
      exact h1
    have hol := ht.wf.pool.own
    (have zf1 := @htl; have zf2 := @e2; have zf3 := @e5; refine XG ?_; clear zf1 zf2 zf3; ((try (repeat' with_reducible refine And.intro ?_ ?_)); (try any_goals (first | refine zm ?_ | exact CL | fail))))
    generalize hUU : usedL t.maps = U at *
    generalize hMM : manyL t.maps = M at *
    refine loop_rule (fun a : Nat => a ≤ 3 ∧ ∀ i, i < a * 6 → (t.pool.own.getD i 0 != 0) = U.getD i false)
      (fun a => ⟨[(1, .ptr 0 0), (3, .ptr 1 0), (4, .ptr 2 0), (12, .ptr 3 0), (141, .agg (ints t.pool.own)), (142, .int .i64 a)], [(0, .cells t.enc), (1, .cells (bools U)), (2, .cells (ints M)), (3, .cells (ints (blkL (t.pool.own.take (a * 6)))))], 4⟩) (fun a => 3 - a) ft_bGood.mixed hN
      ⟨0, ⟨by omega, fun i h => by omega⟩, [], by (refine XG ?_; ((try (repeat' with_reducible refine And.intro ?_ ?_)); (try any_goals (first | refine zm ?_ | exact CL | fail)))) <;> exact rfl⟩ fun a hI => ?_
    obtain ⟨ha, hus⟩ := id hI
    clear hI
    (refine XG ?_; ((try (repeat' with_reducible refine And.intro ?_ ?_)); (try any_goals (first | refine zm ?_ | exact CL | fail))))
    (refine xw_ifp (fun h3 => ?_) (fun h3 => ?_) <;> try exact h3.elim)
    · have ha3 : a < 3 := by omega
      have hr := row_take' t.pool a
      have hrl := row_length t.pool ht.wf.pool a ha3
      (have zf1 := @hr; have zf2 := @hol; refine XG ?_; clear zf1 zf2; ((try (repeat' with_reducible refine And.intro ?_ ?_)); (try any_goals (first | refine zm ?_ | exact CL | fail))))
      refine loop_rule (fun k : Nat => k ≤ 6 ∧ ∀ i, i < a * 6 + k → (t.pool.own.getD i 0 != 0) = U.getD i false)
        (fun k => ⟨[(1, .ptr 0 0), (3, .ptr 1 0), (4, .ptr 2 0), (12, .ptr 3 0), (13, .int .i64 a), (141, .agg (ints t.pool.own)), (142, .int .i64 a), (146, .agg (ints (t.pool.row a))), (147, .int .i64 k)], [(0, .cells t.enc), (1, .cells (bools U)), (2, .cells (ints M)), (3, .cells (ints (blkL (t.pool.own.take (a * 6 + k)))))], 4⟩) (fun k => 6 - k) ft_bGood.mixed hN
        ⟨0, ⟨by omega, fun i h => hus i (by omega)⟩, [], by (have zf1 := @Nat.add_zero; refine XG ?_; clear zf1; ((try (repeat' with_reducible refine And.intro ?_ ?_)); (try any_goals (first | refine zm ?_ | exact CL | fail))))⟩ fun k hJ => ?_
      obtain ⟨hk, hus2⟩ := id hJ
      clear hJ
      (refine XG ?_; ((try (repeat' with_reducible refine And.intro ?_ ?_)); (try any_goals (first | refine zm ?_ | exact CL | fail))))
      (refine xw_ifp (fun h4 => ?_) (fun h4 => ?_) <;> try exact h4.elim)
      · have hk6 : k < 6 := by omega
        have hi18 : a * 6 + k < 18 := by omega
        have hv := row_getD t.pool a k hk6
        have hog := Pool.ow_good t.pool hgd a k
        have hbad := HB1.out (a * 6 + k) hi18
        have hsn := blkL_snoc (t.pool.own.take (a * 6 + k)) (t.pool.ow a k)
        have htk : t.pool.own.take (a * 6 + k + 1) = t.pool.own.take (a * 6 + k) ++ [t.pool.ow a k] := by
          rw [List.take_add_one, List.getElem?_eq_getElem (by rw [hol]; exact hi18)]
          unfold Pool.ow
          rw [List.getD_eq_getElem?_getD, List.getElem?_eq_getElem (by rw [hol]; exact hi18)]; rfl
        have hbl := blkL_len (t.pool.own.take (a * 6 + k))
        have hbb := blkL_bd (t.pool.own.take (a * 6 + k)) (t.pool.ow a k - 1).toNat
        have htl2 : (t.pool.own.take (a * 6 + k)).length = a * 6 + k := by rw [List.length_take, hol]; omega
        have hus3 : (t.pool.own.getD (a * 6 + k) 0 != 0) = U.getD (a * 6 + k) false → ∀ i, i < a * 6 + (k + 1) → (t.pool.own.getD i 0 != 0) = U.getD i false := fun h i hi => by
          by_cases e : i = a * 6 + k
          · subst e; exact h
          · exact hus2 i (by omega)
        have how : t.pool.own.getD (a * 6 + k) 0 = t.pool.ow a k := rfl
        rw [how] at hbad hus3
        rw [← htk] at hsn
        rw [htl2] at hbb
        have HBD := Lib.hid hbad
        have HU3 := Lib.hid hus3
        clear hbad hus3 hus2 hus how htk
        generalize blkL (t.pool.own.take (a * 6 + k)) = W at *
        generalize hW2 : blkL (t.pool.own.take (a * 6 + k + 1)) = W2 at *
        generalize t.pool.ow a k = o at *
        have hxu : ∀ x, U.getD (a * 6 + k) false = x → (bools U).getD (a * 6 + k) .any = .bool x := fun x e => by rw [← e]; exact bools_get (by omega)
        have hug := hxu _ rfl
        generalize U.getD (a * 6 + k) false = u at *
        (have zf1 := @hrl; have zf2 := @hul; have zf3 := @hv; have zf4 := @hug; refine XG ?_; clear zf1 zf2 zf3 zf4; ((try (repeat' with_reducible refine And.intro ?_ ?_)); (try any_goals (first | refine zm ?_ | exact CL | fail))))
        (refine xw_ifp (fun h5 => ?_) (fun h5 => ?_) <;> try exact h5.elim)
        · (have zf1 := goodB_f (HBD.out h5); refine XG ?_; clear zf1; ((try (repeat' with_reducible refine And.intro ?_ ?_)); (try any_goals (first | refine zm ?_ | exact CL | fail))))
        have h6 := HU3.out (by simpa using h5)
        clear HBD HU3
        (refine XG ?_; ((try (repeat' with_reducible refine And.intro ?_ ?_)); (try any_goals (first | refine zm ?_ | exact CL | fail))))
        have h66 : a * 6 + (k + 1) = a * 6 + k + 1 := by omega
        (refine xw_ifp (fun h7 => ?_) (fun h7 => ?_) <;> try exact h7.elim)
        · rw [if_neg h7] at hsn
          obtain ⟨N, hN1⟩ := Int.eq_ofNat_of_zero_le (show 0 ≤ o - 1 by omega)
          have hN8 : N < 8 := by omega
          rw [hN1, Int.toNat_natCast] at hsn hbb
          have hwg : (ints W).getD N .any = .int .i64 (W.getD N 0) := ints_get (by omega)
          (have zf1 := @hN1; have zf2 := @hbl; have zf3 := @hwg; refine XG ?_; clear zf1 zf2 zf3; ((try (repeat' with_reducible refine And.intro ?_ ?_)); (try any_goals (first | refine zm ?_ | exact CL | fail))))
          refine ⟨k + 1, ⟨by omega, h6⟩, ⟨[], ?_⟩, by omega⟩
          (have zf1 := @h66; have zf2 := @hW2; have zf3 := @hsn; refine XG ?_; clear zf1 zf2 zf3; ((try (repeat' with_reducible refine And.intro ?_ ?_)); (try any_goals (first | refine zm ?_ | exact CL | fail))))
        · rw [if_pos (by omega)] at hsn
          (refine XG ?_; ((try (repeat' with_reducible refine And.intro ?_ ?_)); (try any_goals (first | refine zm ?_ | exact CL | fail))))
          refine ⟨k + 1, ⟨by omega, h6⟩, ⟨[], ?_⟩, by omega⟩
          (have zf1 := @h66; have zf2 := @hW2; have zf3 := @hsn; refine XG ?_; clear zf1 zf2 zf3; ((try (repeat' with_reducible refine And.intro ?_ ?_)); (try any_goals (first | refine zm ?_ | exact CL | fail))))
      · have : k = 6 := by omega
        subst this
        (refine XG ?_; ((try (repeat' with_reducible refine And.intro ?_ ?_)); (try any_goals (first | refine zm ?_ | exact CL | fail))))
        refine ⟨a + 1, ⟨by omega, fun i hi => hus2 i (by omega)⟩, ⟨[], ?_⟩, by omega⟩
        have e6 : (a + 1) * 6 = a * 6 + 6 := by omega
        (have zf1 := @e6; refine XG ?_; clear zf1; ((try (repeat' with_reducible refine And.intro ?_ ?_)); (try any_goals (first | refine zm ?_ | exact CL | fail))))
    · have : a = 3 := by omega
      subst this
      have e7 : t.pool.own.take (3 * 6) = t.pool.own := List.take_of_length_le (by omega)
      have hbd := blkL_bd t.pool.own
      have hbl := blkL_len t.pool.own
      have hus2 : ∀ i, i < 18 → (t.pool.own.getD i 0 != 0) = U.getD i false := fun i h => hus i (by omega)
      have hgo2 := HGO.out hus2
      have HGO := Lib.hid hgo2
      clear hgo2 hus hus2 HB1 hUU hMM
      rw [hol] at hbd
      generalize hWW : blkL t.pool.own = W at *
      have hho : ∀ s, s < 8 → t.enc.getD (21 + s) .any = .int .i64 (t.hom s) := fun s hs => Tb.enc_home ht.wf hs
      (have zf1 := @e7; have zf2 := @hWW; refine XG ?_; clear zf1 zf2; ((try (repeat' with_reducible refine And.intro ?_ ?_)); (try any_goals (first | refine zm ?_ | exact CL | fail))))
      refine loop_rule (fun s : Nat => s ≤ 8 ∧ ∀ i, i < s → (W.getD i 0 ≤ 2 ∧ M.getD i 0 ≤ 12 ∧ (t.hom i != 0) = decide (0 < W.getD i 0)))
        (fun s => ⟨[(1, .ptr 0 0), (3, .ptr 1 0), (4, .ptr 2 0), (12, .ptr 3 0), (169, .int .i64 s)], [(0, .cells t.enc), (1, .cells (bools U)), (2, .cells (ints M)), (3, .cells (ints W))], 4⟩) (fun s => 8 - s) ft_bGood.mixed hN
        ⟨0, ⟨by omega, fun i h => by omega⟩, [], by (refine XG ?_; ((try (repeat' with_reducible refine And.intro ?_ ?_)); (try any_goals (first | refine zm ?_ | exact CL | fail))))⟩ fun s hI => ?_
      obtain ⟨hs, hsu⟩ := id hI
      clear hI
      (refine XG ?_; ((try (repeat' with_reducible refine And.intro ?_ ?_)); (try any_goals (first | refine zm ?_ | exact CL | fail))))
      (refine xw_ifp (fun h4 => ?_) (fun h4 => ?_) <;> try exact h4.elim)
      · have hs8 : s < 8 := by omega
        have hbad := fun h => goodB_f (HB2.out s hs8 h)
        have hsu2 : (W.getD s 0 ≤ 2 ∧ M.getD s 0 ≤ 12 ∧ (t.hom s != 0) = decide (0 < W.getD s 0)) → ∀ i, i < s + 1 → (W.getD i 0 ≤ 2 ∧ M.getD i 0 ≤ 12 ∧ (t.hom i != 0) = decide (0 < W.getD i 0)) := fun h i hi => by
          by_cases e : i = s
          · subst e; exact h
          · exact hsu i (by omega)
        have HB := Lib.hid hbad
        have HN := Lib.hid hsu2
        clear hbad hsu2 hsu
        have hw : (ints W).getD s .any = .int .i64 (W.getD s 0) := ints_get (by omega)
        have hm : (ints M).getD s .any = .int .i64 (M.getD s 0) := ints_get (by omega)
        have hh := hho s hs8
        have hb1 := hbd s
        have hb2 := hmb s
        generalize W.getD s 0 = x at *
        generalize M.getD s 0 = y at *
        generalize t.hom s = z at *
        (have zf1 := @hw; have zf2 := @hm; have zf3 := @hh; have zf4 := @hbl; have zf5 := @hml; have zf6 := @e2; refine XG ?_; clear zf1 zf2 zf3 zf4 zf5 zf6; ((try (repeat' with_reducible refine And.intro ?_ ?_)); (try any_goals (first | refine zm ?_ | exact CL | fail))))
        (refine xw_ifp (fun h5 => ?_) (fun h5 => ?_) <;> try exact h5.elim)
        · have h6 : ¬(x ≤ 2 ∧ y ≤ 12 ∧ (z != 0) = decide (0 < x)) := fun ⟨p, q, r⟩ => h5.elim (fun h => by omega) (fun h => h r)
          (have zf1 := HB.out h6; refine XG ?_; clear zf1; ((try (repeat' with_reducible refine And.intro ?_ ?_)); (try any_goals (first | refine zm ?_ | exact CL | fail))))
        · obtain ⟨⟨h6, h7⟩, h8⟩ := h5
          (refine XG ?_; ((try (repeat' with_reducible refine And.intro ?_ ?_)); (try any_goals (first | refine zm ?_ | exact CL | fail))))
          refine ⟨s + 1, ⟨by omega, HN.out ⟨by omega, by omega, h8⟩⟩, ⟨[], ?_⟩, by omega⟩
          (refine XG ?_; ((try (repeat' with_reducible refine And.intro ?_ ?_)); (try any_goals (first | refine zm ?_ | exact CL | fail))))
      · have : s = 8 := by omega
        subst this
        (have zf1 := goodB_t (HGO.out hsu); refine XG ?_; clear zf1; ((try (repeat' with_reducible refine And.intro ?_ ?_)); (try any_goals (first | refine zm ?_ | exact CL | fail))))
end Go.Proofs.Ytphaicaobepimaa
