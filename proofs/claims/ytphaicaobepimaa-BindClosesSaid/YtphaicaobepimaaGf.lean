/- What the document's OpenMap answers. No conditions but the ones that stand in each. -/
import Derived.Test.YtphaicaobepimaaGe
namespace Go.Proofs.Ytphaicaobepimaa
set_option linter.all false
set_option linter.unusedSimpArgs false
open Go.RowKit

theorem hd_set29 {t : Tb} (h : t.wf) (x y : AV) : (t.hd ++ [x]).set 29 y = t.hd ++ [y] := by
  rw [List.set_append_right _ _ (by rw [Tb.hd_len h]; exact Nat.le_refl _), Tb.hd_len h]; rfl
set_option maxHeartbeats 1000000 in
theorem rCopy_gs (gl : Nat → AV) (t : Tb) (ht : t.wf) (hl : t.maps.length ≤ 3518437208780) : GS Try.prog gl 14 [.agg t.enc] [] 0 (.agg (t.hd ++ [.sl 5 0 0 t.maps.length t.maps.length])) [(0, .cells (mps t.maps))] 1 := by
  refine ft_rCopy.gs (of_decide_eq_true rfl) (by simp) fun c hN hg => ?_
  unfold T_rCopy
  have e2 := Tb.enc_len ht
  have e3 := Tb.enc_maps ht
  have hel := mps_len t.maps
  have hs := Tb.enc_set ht
  have hhl := Tb.hd_len ht
  have hfull : (mps t.maps).take (t.maps.length * 5) = mps t.maps := List.take_of_length_le (by omega)
  (have zf1 := @e2; have zf2 := @e3; refine XG ?_; clear zf1 zf2; ((try (repeat' with_reducible refine And.intro ?_ ?_)); (try any_goals (first | refine zm ?_ | exact CL | fail))))
  ((first | apply pr_app | apply prD_app | apply pr_bsl | apply prD_bsl | apply pr_s2b | apply prD_s2b); (have zf1 := @hel; have zf2 := @hfull; refine XG ?_; clear zf1 zf2; ((try (repeat' with_reducible refine And.intro ?_ ?_)); (try any_goals (first | refine zm ?_ | exact CL | fail)))))
  (have zf1 := @hs; have zf2 := @hhl; have zf3 := @e2; refine XG ?_; clear zf1 zf2 zf3; ((try (repeat' with_reducible refine And.intro ?_ ?_)); (try any_goals (first | refine zm ?_ | exact CL | fail))))
  refine ⟨[(0, 2)], ?_⟩
  (refine XG ?_; ((try (repeat' with_reducible refine And.intro ?_ ?_)); (try any_goals (first | refine zm ?_ | exact CL | fail))))
/-- The ports that are left to look at: from the i-th of block k. -/
def remB (t : Tb) (S : Nat) (k : Nat) : List Nat := (List.range' k (6 - k)).filter fun q => t.pool.ow (t.hom S - 1).toNat q == (S : Int) + 1
def remP (t : Tb) (S k i : Nat) : List Int := (if t.pool.ow (t.hom S - 1).toNat k = (S : Int) + 1 ∧ k < 6 then (blkPorts k).drop i else []) ++ (remB t S (k + 1)).flatMap blkPorts
theorem remB_own (t : Tb) (S : Nat) : remB t S 0 = ownB t S 6 := by unfold remB ownB; rw [List.range_eq_range']
theorem remP_zero (t : Tb) (S k : Nat) (hk : k < 6) : (remB t S k).flatMap blkPorts = remP t S k 0 := by
  unfold remP
  have e : remB t S k = (if t.pool.ow (t.hom S - 1).toNat k = (S : Int) + 1 ∧ k < 6 then [k] else []) ++ remB t S (k + 1) := by
    unfold remB
    rw [show 6 - k = (6 - (k + 1)) + 1 by omega, List.range'_succ, List.filter_cons]
    generalize t.pool.ow (t.hom S - 1).toNat k = x
    by_cases h : x = (S : Int) + 1 <;> simp [h, hk]
  rw [e, List.flatMap_append]
  split <;> simp
theorem remP_last (t : Tb) (S k : Nat) : remP t S k 8 = (remB t S (k + 1)).flatMap blkPorts := by
  unfold remP
  split <;> simp [blkPorts]
theorem remB_end (t : Tb) (S : Nat) : remB t S 6 = [] := rfl
set_option maxHeartbeats 4000000 in
set_option maxRecDepth 20000 in
theorem rOpen_bad (gl : Nat → AV) (t : Tb) (ht : t.ok) (hh : Hid (∀ s, s < 8 → -9223372036854775808 ≤ t.hom s ∧ t.hom s ≤ 9223372036854775807)) (proto s inn draw : Int) (h : goodB t = false ∨ knownB proto s inn = false) : PS Try.prog gl 24 [.agg t.enc, .int .i64 proto, .int .i64 s, .int .i64 inn, .int .i64 draw] (putT t mp0 false 2) := by
  refine ft_rOpen.ps (of_decide_eq_true rfl) (by simp [putT_nm]) fun c hN hg => ?_
  unfold T_rOpen
  have e2 := Tb.enc_len ht.wf
  have hG := rGoodTable_ps c.gl t ht hh
  have hK := risProto_ps c.gl proto
  by_cases hgd : goodB t = true
  · rw [hgd] at hG
    have hk : knownB proto s inn = false := h.resolve_left (by rw [hgd]; simp)
    have hkr : knownB proto s inn = (protoB proto && decide (0 ≤ s) && decide (s < 8) && decide (0 ≤ inn) && decide (inn ≤ 65535)) := rfl
    rw [hkr] at hk
    cases hp : protoB proto with
    | false =>
      rw [hp] at hK
      (have zf1 := @e2; refine XG ?_; clear zf1; ((try (repeat' with_reducible refine And.intro ?_ ?_)); (try any_goals (first | refine zm ?_ | exact CL | fail))))
      ((first | apply pr_psv | apply prD_psv | apply pr_qrunv | apply prD_qrunv) <;> (first | exact hG | (have zf1 := @e2; refine XG ?_; clear zf1; first | exact rfl | exact True.intro | ((try (repeat' with_reducible refine And.intro ?_ ?_)); (try any_goals (first | refine zm ?_ | exact CL | fail))))))
      ((first | apply pr_psv | apply prD_psv | apply pr_qrunv | apply prD_qrunv) <;> (first | exact hK | (refine XG ?_; first | exact rfl | exact True.intro | ((try (repeat' with_reducible refine And.intro ?_ ?_)); (try any_goals (first | refine zm ?_ | exact CL | fail))))))
      (refine xw_ifp (fun h1 => ?_) (fun h1 => ?_) <;> try exact h1.elim)
      (have zf1 := @e2; have zf2 := @putT.eq_1; have zf3 := @Mp.enc.eq_1; have zf4 := @mp0.eq_1; refine XG ?_; clear zf1 zf2 zf3 zf4; ((try (repeat' with_reducible refine And.intro ?_ ?_)); (try any_goals (first | refine zm ?_ | exact CL | fail))))
    | true =>
      rw [hp] at hK hk
      (have zf1 := @e2; refine XG ?_; clear zf1; ((try (repeat' with_reducible refine And.intro ?_ ?_)); (try any_goals (first | refine zm ?_ | exact CL | fail))))
      ((first | apply pr_psv | apply prD_psv | apply pr_qrunv | apply prD_qrunv) <;> (first | exact hG | (have zf1 := @e2; refine XG ?_; clear zf1; first | exact rfl | exact True.intro | ((try (repeat' with_reducible refine And.intro ?_ ?_)); (try any_goals (first | refine zm ?_ | exact CL | fail))))))
      ((first | apply pr_psv | apply prD_psv | apply pr_qrunv | apply prD_qrunv) <;> (first | exact hK | (refine XG ?_; first | exact rfl | exact True.intro | ((try (repeat' with_reducible refine And.intro ?_ ?_)); (try any_goals (first | refine zm ?_ | exact CL | fail))))))
      (refine xw_ifp (fun h1 => ?_) (fun h1 => ?_) <;> try exact h1.elim)
      · (have zf1 := @e2; have zf2 := @putT.eq_1; have zf3 := @Mp.enc.eq_1; have zf4 := @mp0.eq_1; refine XG ?_; clear zf1 zf2 zf3 zf4; ((try (repeat' with_reducible refine And.intro ?_ ?_)); (try any_goals (first | refine zm ?_ | exact CL | fail))))
      · exfalso
        simp at hk; omega
  · have hgd : goodB t = false := by simpa using hgd
    rw [hgd] at hG
    (have zf1 := @e2; refine XG ?_; clear zf1; ((try (repeat' with_reducible refine And.intro ?_ ?_)); (try any_goals (first | refine zm ?_ | exact CL | fail))))
    ((first | apply pr_psv | apply prD_psv | apply pr_qrunv | apply prD_qrunv) <;> (first | exact hG | (have zf1 := @e2; refine XG ?_; clear zf1; first | exact rfl | exact True.intro | ((try (repeat' with_reducible refine And.intro ?_ ?_)); (try any_goals (first | refine zm ?_ | exact CL | fail))))))
    ((first | apply pr_skip | apply prD_skip) <;> (refine XG ?_; first | exact rfl | exact True.intro | ((try (repeat' with_reducible refine And.intro ?_ ?_)); (try any_goals (first | refine zm ?_ | exact CL | fail)))))
    (refine xw_ifp (fun h1 => ?_) (fun h1 => ?_) <;> try exact h1.elim)
    (have zf1 := @e2; have zf2 := @putT.eq_1; have zf3 := @Mp.enc.eq_1; have zf4 := @mp0.eq_1; refine XG ?_; clear zf1 zf2 zf3 zf4; ((try (repeat' with_reducible refine And.intro ?_ ?_)); (try any_goals (first | refine zm ?_ | exact CL | fail))))
set_option maxHeartbeats 16000000 in
set_option maxRecDepth 20000 in
theorem rOpen_in (gl : Nat → AV) (t : Tb) (ht : t.ok) (hh : Hid (∀ s, s < 8 → -9223372036854775808 ≤ t.hom s ∧ t.hom s ≤ 9223372036854775807)) (hgt : goodT t) (proto : Int) (S : Nat) (inn draw : Int) (hkn : knownB proto S inn = true) (R : AV) (hnm : nmOk 0 R)
    (H1 : Hid (∀ m, t.maps.find? (isFwd proto S inn) = some m → R = putT t m false 0))
    (H2 : Hid (t.maps.find? (isFwd proto S inn) = none → 12 ≤ manyOf t.maps S → R = putT t mp0 false 6))
    (H3 : Hid (t.maps.find? (isFwd proto S inn) = none → ¬ 12 ≤ manyOf t.maps S → (∀ port, firstFree t proto (t.hom S - 1) (ownL t S) = some port → R = putT (t.add ⟨proto, S, inn, t.hom S - 1, port⟩) ⟨proto, S, inn, t.hom S - 1, port⟩ false 0) ∧
      (firstFree t proto (t.hom S - 1) (ownL t S) = none → (2 ≤ (ownL t S).length → R = putT t mp0 false 6) ∧ (¬ 2 ≤ (ownL t S).length → (1 ≤ t.hom S → R = opnT (t.tk proto S inn (t.hom S - 1) draw)) ∧
        (¬ 1 ≤ t.hom S → ((t.pool.pick draw).2 ≠ 0 → R = putT t mp0 false (t.pool.pick draw).2) ∧ ((t.pool.pick draw).2 = 0 → R = opnT (t.tk proto S inn (t.pool.pick draw).1 draw))))))) :
    PS Try.prog gl 24 [.agg t.enc, .int .i64 proto, .int .i64 S, .int .i64 inn, .int .i64 draw] R := by
  refine ft_rOpen.ps (of_decide_eq_true rfl) hnm fun c hN hg => ?_
  unfold T_rOpen
  have e2 := Tb.enc_len ht.wf
  have e3 := Tb.enc_maps ht.wf
  have hG := rGoodTable_ps c.gl t ht hh
  rw [goodB_t hgt] at hG
  have hK := risProto_ps c.gl proto
  have hkr : knownB proto S inn = (protoB proto && decide ((0 : Int) ≤ S) && decide ((S : Int) < 8) && decide (0 ≤ inn) && decide (inn ≤ 65535)) := rfl
  have hpk : protoB proto = true := by rw [hkr] at hkn; simp only [Bool.and_eq_true] at hkn; exact hkn.1.1.1.1
  rw [hpk] at hK
  have hF := rFind_ps c.gl t ht.wf ht.len proto S inn
  have hel := mps_len t.maps
  obtain ⟨_, ⟨_, hS8⟩, hi0, hi1⟩ := known_bd hkn
  have hS8 : S < 8 := by omega
  have hhb := Tb.hom_bd hgt ht.wf hS8
  have hml := maps_le hgt
  have eh := Tb.enc_home ht.wf hS8
  have hGT := goodT_GT.1 hgt
  have hm12 := hGT.many S hS8
  have hcnt := cnt_own (hGT.homeOk S) ht.wf
  have hc2 := hGT.two S hS8
  rw [hcnt] at hc2
  cases hfd : t.maps.find? (isFwd proto S inn) with
  | some m =>
    have hR := H1.out m hfd
    rw [hfd] at hF
    unfold mpT Mp.enc at hF
    subst hR
    (have zf1 := @e2; refine XG ?_; clear zf1; ((try (repeat' with_reducible refine And.intro ?_ ?_)); (try any_goals (first | refine zm ?_ | exact CL | fail))))
    ((first | apply pr_psv | apply prD_psv | apply pr_qrunv | apply prD_qrunv) <;> (first | exact hG | (have zf1 := @e2; refine XG ?_; clear zf1; first | exact rfl | exact True.intro | ((try (repeat' with_reducible refine And.intro ?_ ?_)); (try any_goals (first | refine zm ?_ | exact CL | fail))))))
    ((first | apply pr_psv | apply prD_psv | apply pr_qrunv | apply prD_qrunv) <;> (first | exact hK | (refine XG ?_; first | exact rfl | exact True.intro | ((try (repeat' with_reducible refine And.intro ?_ ?_)); (try any_goals (first | refine zm ?_ | exact CL | fail))))))
    (refine xw_ifp (fun h1 => ?_) (fun h1 => ?_) <;> try exact h1.elim)
    · omega
    (have zf1 := @e2; refine XG ?_; clear zf1; ((try (repeat' with_reducible refine And.intro ?_ ?_)); (try any_goals (first | refine zm ?_ | exact CL | fail))))
    ((first | apply pr_psv | apply prD_psv | apply pr_qrunv | apply prD_qrunv) <;> (first | exact hF | (have zf1 := @e2; refine XG ?_; clear zf1; first | exact rfl | exact True.intro | ((try (repeat' with_reducible refine And.intro ?_ ?_)); (try any_goals (first | refine zm ?_ | exact CL | fail))))))
    (refine xw_ifp (fun h2 => ?_) (fun h2 => ?_) <;> try exact h2.elim)
    (have zf1 := @e2; have zf2 := @putT.eq_1; have zf3 := @Mp.enc.eq_1; refine XG ?_; clear zf1 zf2 zf3; ((try (repeat' with_reducible refine And.intro ?_ ?_)); (try any_goals (first | refine zm ?_ | exact CL | fail))))
  | none =>
    rw [hfd] at hF
    unfold mpT mp0 Mp.enc at hF
    dsimp only at hF
    (have zf1 := @e2; refine XG ?_; clear zf1; ((try (repeat' with_reducible refine And.intro ?_ ?_)); (try any_goals (first | refine zm ?_ | exact CL | fail))))
    ((first | apply pr_psv | apply prD_psv | apply pr_qrunv | apply prD_qrunv) <;> (first | exact hG | (have zf1 := @e2; refine XG ?_; clear zf1; first | exact rfl | exact True.intro | ((try (repeat' with_reducible refine And.intro ?_ ?_)); (try any_goals (first | refine zm ?_ | exact CL | fail))))))
    ((first | apply pr_psv | apply prD_psv | apply pr_qrunv | apply prD_qrunv) <;> (first | exact hK | (refine XG ?_; first | exact rfl | exact True.intro | ((try (repeat' with_reducible refine And.intro ?_ ?_)); (try any_goals (first | refine zm ?_ | exact CL | fail))))))
    (refine xw_ifp (fun h1 => ?_) (fun h1 => ?_) <;> try exact h1.elim)
    · omega
    (have zf1 := @e2; refine XG ?_; clear zf1; ((try (repeat' with_reducible refine And.intro ?_ ?_)); (try any_goals (first | refine zm ?_ | exact CL | fail))))
    ((first | apply pr_psv | apply prD_psv | apply pr_qrunv | apply prD_qrunv) <;> (first | exact hF | (have zf1 := @e2; refine XG ?_; clear zf1; first | exact rfl | exact True.intro | ((try (repeat' with_reducible refine And.intro ?_ ?_)); (try any_goals (first | refine zm ?_ | exact CL | fail))))))
    (refine xw_ifp (fun h2 => ?_) (fun h2 => ?_) <;> try exact h2.elim)
    (have zf1 := @e2; have zf2 := @e3; refine XG ?_; clear zf1 zf2; ((try (repeat' with_reducible refine And.intro ?_ ?_)); (try any_goals (first | refine zm ?_ | exact CL | fail))))
    refine loop_rule (fun k : Nat => k ≤ t.maps.length)
      (fun k => ⟨[(1, .int .i64 proto), (2, .int .i64 S), (3, .int .i64 inn), (4, .int .i64 draw), (5, .ptr 0 0), (10, .ptr 1 0), (11, .ptr 2 0), (14, .ptr 3 0), (17, .int .i64 (manyOf (t.maps.take k) S)), (18, .int .i64 0), (74, .isl t.maps.length (mps t.maps)), (75, .int .i64 t.maps.length), (76, .int .i64 k)], [(0, .cells t.enc), (1, .cells z30n), (2, .cells z5), (3, .cells z5)], 4⟩) (fun k => t.maps.length - k) ft_rOpen.mixed hN
      ⟨0, by omega, [], by (have zf1 := @z30n.eq_1; have zf2 := @z30.eq_1; have zf3 := @z5.eq_1; refine XG ?_; clear zf1 zf2 zf3; ((try (repeat' with_reducible refine And.intro ?_ ?_)); (try any_goals (first | refine zm ?_ | exact CL | fail))))⟩ fun k hk => ?_
    (refine XG ?_; ((try (repeat' with_reducible refine And.intro ?_ ?_)); (try any_goals (first | refine zm ?_ | exact CL | fail))))
    (refine xw_ifp (fun h3 => ?_) (fun h3 => ?_) <;> try exact h3.elim)
    · have hkn : k < t.maps.length := by omega
      have hcut := mps_cut t.maps k hkn
      have hms := many_succ t.maps k hkn S
      have hmle := many_le t.maps k S
      generalize t.maps[k] = m at *
      obtain ⟨mp, ms, mi, ma, mt⟩ := m
      simp only [Mp.enc] at hcut
      dsimp only at hms
      (have zf1 := @hel; have zf2 := @hcut; refine XG ?_; clear zf1 zf2; ((try (repeat' with_reducible refine And.intro ?_ ?_)); (try any_goals (first | refine zm ?_ | exact CL | fail))))
      (refine xw_ifp (fun h4 => ?_) (fun h4 => ?_) <;> try exact h4.elim)
      · rw [if_pos (by omega)] at hms
        (refine XG ?_; ((try (repeat' with_reducible refine And.intro ?_ ?_)); (try any_goals (first | refine zm ?_ | exact CL | fail))))
        refine ⟨k + 1, by omega, ⟨[], ?_⟩, by omega⟩
        (have zf1 := @hms; refine XG ?_; clear zf1; ((try (repeat' with_reducible refine And.intro ?_ ?_)); (try any_goals (first | refine zm ?_ | exact CL | fail))))
      · rw [if_neg (by omega)] at hms
        (refine XG ?_; ((try (repeat' with_reducible refine And.intro ?_ ?_)); (try any_goals (first | refine zm ?_ | exact CL | fail))))
        refine ⟨k + 1, by omega, ⟨[], ?_⟩, by omega⟩
        (have zf1 := @hms; refine XG ?_; clear zf1; ((try (repeat' with_reducible refine And.intro ?_ ?_)); (try any_goals (first | refine zm ?_ | exact CL | fail))))
    · have : k = t.maps.length := by omega
      subst this
      have htl : t.maps.take t.maps.length = t.maps := List.take_length
      rw [htl]
      have HH2 := Lib.hid (H2.out hfd)
      have HH3 := Lib.hid (H3.out hfd)
      clear H1 H2 H3
      generalize manyOf t.maps S = many at *
      (refine XG ?_; ((try (repeat' with_reducible refine And.intro ?_ ?_)); (try any_goals (first | refine zm ?_ | exact CL | fail))))
      (refine xw_ifp (fun h4 => ?_) (fun h4 => ?_) <;> try exact h4.elim)
      · have hR := HH2.out (by omega)
        subst hR
        (have zf1 := @e2; have zf2 := @putT.eq_1; have zf3 := @Mp.enc.eq_1; have zf4 := @mp0.eq_1; have zf5 := @z30n.eq_1; have zf6 := @z30.eq_1; have zf7 := @z5.eq_1; refine XG ?_; clear zf1 zf2 zf3 zf4 zf5 zf6 zf7; ((try (repeat' with_reducible refine And.intro ?_ ?_)); (try any_goals (first | refine zm ?_ | exact CL | fail))))
      have HH4 := Lib.hid (HH3.out (by omega))
      clear HH3 HH2
      have hCp := rCopy_gs c.gl t ht.wf (by omega)
      have hhl := Tb.hd_len ht.wf
      have hgd := fun x => hd_get29 ht.wf x
      (have zf1 := @e2; refine XG ?_; clear zf1; ((try (repeat' with_reducible refine And.intro ?_ ?_)); (try any_goals (first | refine zm ?_ | exact CL | fail))))
      ((first | refine pr_gs (ins := []) hCp ?_ ?_ | refine prD_gs (ins := []) hCp ?_ ?_ | refine pr_gsv (ins := []) hCp ?_ ?_ | refine prD_gsv (ins := []) hCp ?_ ?_) <;> (have zf1 := @e2; have zf2 := @hhl; have zf3 := @eh; refine XG ?_; clear zf1 zf2 zf3; (try first | exact rfl | exact True.intro); ((try (repeat' with_reducible refine And.intro ?_ ?_)); (try any_goals (first | refine zm ?_ | exact CL | fail)))))
      have hfr : firstFree t proto (t.hom S - 1) (ownL t S) = if 1 ≤ t.hom S then (remP t S 0 0).find? (freeP t proto (t.hom S - 1)) else none := by
        unfold firstFree ownL
        split
        · rw [← remB_own, remP_zero t S 0 (by omega)]
        · rfl
      have hown : (ownL t S).length = if 1 ≤ t.hom S then (ownB t S 6).length else 0 := by unfold ownL; split <;> rfl
      refine loop_rule (fun j : Nat => j ≤ 48 ∧ (¬ 1 ≤ t.hom S → j = 0) ∧ (1 ≤ t.hom S → (remP t S (j / 8) (j % 8)).find? (freeP t proto (t.hom S - 1)) = firstFree t proto (t.hom S - 1) (ownL t S)))
        (fun j => ⟨[(1, .int .i64 proto), (2, .int .i64 S), (3, .int .i64 inn), (4, .int .i64 draw), (5, .ptr 0 0), (10, .ptr 1 0), (11, .ptr 2 0), (14, .ptr 3 0), (18, .int .i64 (if 1 ≤ t.hom S then (ownB t S ((j + 7) / 8)).length else 0 : Nat)), (21, .ptr 5 0), (22, .int .i64 (t.hom S - 1)), (23, .int .i64 (1024 + j))], [(0, .cells t.enc), (1, .cells z30n), (2, .cells z5), (3, .cells z5), (4, .cells (mps t.maps)), (5, .cells (t.hd ++ [.sl 5 4 0 t.maps.length t.maps.length]))], 6⟩) (fun j => 48 - j) ft_rOpen.mixed hN
        ⟨0, ⟨by omega, fun _ => rfl, fun h => by rw [hfr, if_pos h]⟩, [], by (refine XG ?_; ((try (repeat' with_reducible refine And.intro ?_ ?_)); (try any_goals (first | refine zm ?_ | exact CL | fail)))) <;> first | omega | (simp [ownB]; done)⟩ fun j hj => ?_
      obtain ⟨hj, hj0, hjf⟩ := hj
      by_cases hh1 : 1 ≤ t.hom S
      rotate_left
      · -- no home
        have := hj0 hh1
        subst this
        rw [if_neg hh1] at hown
        rw [if_neg hh1]
        have HH5 := Lib.hid (HH4.out.2 (by rw [hfr, if_neg hh1]))
        (refine XG ?_; ((try (repeat' with_reducible refine And.intro ?_ ?_)); (try any_goals (first | refine zm ?_ | exact CL | fail))))
        (refine xw_ifp (fun h5 => ?_) (fun h5 => ?_) <;> try exact h5.elim)
        · omega
        (refine XG ?_; ((try (repeat' with_reducible refine And.intro ?_ ?_)); (try any_goals (first | refine zm ?_ | exact CL | fail))))
        (refine xw_ifp (fun h6 => ?_) (fun h6 => ?_) <;> try exact h6.elim)
        (refine XG ?_; ((try (repeat' with_reducible refine And.intro ?_ ?_)); (try any_goals (first | refine zm ?_ | exact CL | fail))))
        (refine xw_ifp (fun h7 => ?_) (fun h7 => ?_) <;> try exact h7.elim)
        rotate_left
        · omega
        have HH6 := (HH5.out.2 (by omega)).2 hh1
        have HPN := Lib.hid HH6.1
        have HPY := Lib.hid HH6.2
        clear HH4 HH5 HH6
        have e4 := Tb.enc_pool ht.wf
        have hP := rPick_ps c.gl t.pool ht.wf.pool draw
        have hpkd := picked t.pool draw
        generalize t.pool.pick draw = pk at *
        obtain ⟨pa, pe⟩ := pk
        dsimp only at HPN HPY hP
        (have zf1 := @e2; have zf2 := @e4; refine XG ?_; clear zf1 zf2; ((try (repeat' with_reducible refine And.intro ?_ ?_)); (try any_goals (first | refine zm ?_ | exact CL | fail))))
        ((first | apply pr_psv | apply prD_psv | apply pr_qrunv | apply prD_qrunv) <;> (first | exact hP | (have zf1 := @e2; refine XG ?_; clear zf1; first | exact rfl | exact True.intro | ((try (repeat' with_reducible refine And.intro ?_ ?_)); (try any_goals (first | refine zm ?_ | exact CL | fail))))))
        (refine xw_ifp (fun h8 => ?_) (fun h8 => ?_) <;> try exact h8.elim)
        · have hR := HPN.out h8
          subst hR
          (have zf1 := @e2; have zf2 := @putT.eq_1; have zf3 := @Mp.enc.eq_1; have zf4 := @mp0.eq_1; have zf5 := @z30n.eq_1; have zf6 := @z30.eq_1; have zf7 := @z5.eq_1; refine XG ?_; clear zf1 zf2 zf3 zf4 zf5 zf6 zf7; ((try (repeat' with_reducible refine And.intro ?_ ?_)); (try any_goals (first | refine zm ?_ | exact CL | fail))))
        have hpe : pe = 0 := by simpa using h8
        subst hpe
        have HTK := Lib.hid (HPY.out rfl)
        have hpa : 0 ≤ pa ∧ pa < 3 := by
          cases hpkd with
          | no e he => exact (he rfl).elim
          | yes b hb3 _ _ _ => omega
        clear h8 hpkd HPN HPY
        (refine XG ?_; ((try (repeat' with_reducible refine And.intro ?_ ?_)); (try any_goals (first | refine zm ?_ | exact CL | fail))))
        have hT := rTake_ps c.gl t.pool ht.wf.pool S pa draw
        have htkn := taken t.pool ht.wf.pool S pa draw
        have htw := Pool.take_wf t.pool ht.wf.pool S pa draw
        generalize hx : t.pool.take S pa draw = x at *
        obtain ⟨tp, tk, te⟩ := x
        unfold takeT at hT
        dsimp only at hT htw
        have etl := Pool.enc_len htw
        (have zf1 := @e2; have zf2 := @e4; refine XG ?_; clear zf1 zf2; ((try (repeat' with_reducible refine And.intro ?_ ?_)); (try any_goals (first | refine zm ?_ | exact CL | fail))))
        ((first | apply pr_psv | apply prD_psv | apply pr_qrunv | apply prD_qrunv) <;> (first | exact hT | (have zf1 := @e2; have zf2 := @etl; refine XG ?_; clear zf1 zf2; first | exact rfl | exact True.intro | ((try (repeat' with_reducible refine And.intro ?_ ?_)); (try any_goals (first | refine zm ?_ | exact CL | fail))))))
        (refine xw_ifp (fun h9 => ?_) (fun h9 => ?_) <;> try exact h9.elim)
        · have hR := HTK.out.trans (show opnT (t.tk proto S inn pa draw) = putT t mp0 false te by unfold Tb.tk opnT; rw [hx]; simp [h9])
          subst hR
          (have zf1 := @e2; have zf2 := @putT.eq_1; have zf3 := @Mp.enc.eq_1; have zf4 := @mp0.eq_1; have zf5 := @z30n.eq_1; have zf6 := @z30.eq_1; have zf7 := @z5.eq_1; refine XG ?_; clear zf1 zf2 zf3 zf4 zf5 zf6 zf7; ((try (repeat' with_reducible refine And.intro ?_ ?_)); (try any_goals (first | refine zm ?_ | exact CL | fail))))
        have hte : te = 0 := by simpa using h9
        subst hte
        cases htkn with
        | no _ he => exact (he rfl).elim
        | yes b kk hab hb3 hk6 _ _ hgo _ _ _ =>
        have hR := HTK.out.trans (show opnT (t.tk proto S inn pa draw) = putT (Tb.add ⟨t.pool.put b kk (S + 1), t.home.set S (pa + 1), t.maps⟩ ⟨proto, S, inn, pa, 1024 + (kk : Int) * 8⟩) ⟨proto, S, inn, pa, 1024 + (kk : Int) * 8⟩ true 0 by unfold Tb.tk opnT; rw [hx]; rfl)
        subst hR
        clear HTK
        have hps := fun x => hd_pool_set ht.wf htw x
        have hw1 : (⟨t.pool.put b kk (S + 1), t.home, t.maps⟩ : Tb).wf := ⟨htw, ht.wf.home⟩
        have hhs := fun x => hd_home_set hw1 hS8 (pa + 1) x
        have hw2 : (⟨t.pool.put b kk (S + 1), t.home.set S (pa + 1), t.maps⟩ : Tb).wf := ⟨htw, by rw [List.length_set]; exact ht.wf.home⟩
        have hl1 := Tb.hd_len hw1
        have hl2 := Tb.hd_len hw2
        have hg2 := fun x => hd_get29 hw2 x
        have hs2 := fun x y => hd_set29 hw2 x y
        dsimp only at hhs
        have hmul : (8 : Int) * (kk : Int) = (kk : Int) * 8 := Int.mul_comm _ _
        have hq : putT (Tb.add ⟨t.pool.put b kk (S + 1), t.home.set S (pa + 1), t.maps⟩ ⟨proto, S, inn, pa, 1024 + (kk : Int) * 8⟩) ⟨proto, S, inn, pa, 1024 + (kk : Int) * 8⟩ true 0 = .tup [.agg ((⟨t.pool.put b kk (S + 1), t.home.set S (pa + 1), t.maps⟩ : Tb).hd ++ [.isl (t.maps.length + 1) (mps t.maps ++ [.int .i64 proto, .int .i64 S, .int .i64 inn, .int .i64 pa, .int .i64 (1024 + (kk : Int) * 8)])]), .agg [.int .i64 proto, .int .i64 S, .int .i64 inn, .int .i64 pa, .int .i64 (1024 + (kk : Int) * 8)], .bool true, .int .i64 0] := by
          have := mps_snoc t.maps ⟨proto, S, inn, pa, 1024 + (kk : Int) * 8⟩
          dsimp only at this
          rw [this]
          simp [putT, Tb.add, Tb.enc, Tb.hd, Mp.enc]
        have htk : (mps t.maps ++ [AV.int .i64 proto, .int .i64 S, .int .i64 inn, .int .i64 pa, .int .i64 (1024 + (kk : Int) * 8)]).take ((t.maps.length + 1) * 5) = mps t.maps ++ [.int .i64 proto, .int .i64 S, .int .i64 inn, .int .i64 pa, .int .i64 (1024 + (kk : Int) * 8)] := List.take_of_length_le (by simp [mps_len]; omega)
        have hfull : (mps t.maps).take (t.maps.length * 5) = mps t.maps := List.take_of_length_le (by omega)
        rw [hq]
        generalize (⟨t.pool.put b kk (S + 1), t.home.set S (pa + 1), t.maps⟩ : Tb) = T2 at *
        generalize (⟨t.pool.put b kk (S + 1), t.home, t.maps⟩ : Tb) = T1 at *
        (have zf1 := @hhl; have zf2 := @hps; have zf3 := @hhs; have zf4 := @etl; have zf5 := @hl1; have zf6 := @hl2; have zf7 := @hg2; have zf8 := @hmul; refine XG ?_; clear zf1 zf2 zf3 zf4 zf5 zf6 zf7 zf8; ((try (repeat' with_reducible refine And.intro ?_ ?_)); (try any_goals (first | refine zm ?_ | exact CL | fail))))
        ((first | apply pr_app | apply prD_app | apply pr_bsl | apply prD_bsl | apply pr_s2b | apply prD_s2b); (have zf1 := @hl2; have zf2 := @hg2; refine XG ?_; clear zf1 zf2; ((try (repeat' with_reducible refine And.intro ?_ ?_)); (try any_goals (first | refine zm ?_ | exact CL | fail)))))
        ((first | apply pr_app | apply prD_app | apply pr_bsl | apply prD_bsl | apply pr_s2b | apply prD_s2b); (have zf1 := @hel; have zf2 := @hfull; have zf3 := @hl2; have zf4 := @hs2; have zf5 := @List.map_append.{0,0}; have zf6 := @htk; have zf7 := @z30n.eq_1; have zf8 := @z30.eq_1; have zf9 := @z5.eq_1; refine XG ?_; clear zf1 zf2 zf3 zf4 zf5 zf6 zf7 zf8 zf9; ((try (repeat' with_reducible refine And.intro ?_ ?_)); (try any_goals (first | refine zm ?_ | exact CL | fail)))))
      · rw [if_pos hh1] at hown
        rw [if_pos hh1]
        have hjf := hjf hh1
        obtain ⟨a, ha⟩ := Int.eq_ofNat_of_zero_le (show 0 ≤ t.hom S - 1 by omega)
        have ha3 : a < 3 := by omega
        have hat : (t.hom S - 1).toNat = a := by omega
        rw [ha] at hjf hfr
        rw [ha]
        have HH4' := HH4.out
        rw [ha] at HH4'
        have HH4 := Lib.hid HH4'
        clear HH4'
        by_cases hj48 : j < 48
        · have hk6 : j / 8 < 6 := by omega
          have hport := blk_port (i := j % 8) hk6 (by omega)
          rw [show (1024 + ((j / 8 : Nat) : Int) * 8 + ((j % 8 : Nat) : Int)) = 1024 + (j : Int) by omega] at hport
          have hBo := rBlockOf_ps c.gl (1024 + (j : Int)) (by omega)
          unfold blkT at hBo
          rw [hport.1, hport.2] at hBo
          simp only [if_true] at hBo
          have hm8 : (1024 + (j : Int) - 1024) % 8 = ((j % 8 : Nat) : Int) := by omega
          rw [hm8] at hBo
          have eo := Tb.enc_ow ht.wf ha3 hk6
          have hsucc := ownB_succ t S (j / 8)
          rw [hat] at hsucc
          have hrem : remP t S (j / 8) (j % 8) = (if t.pool.ow a (j / 8) = (S : Int) + 1 ∧ j / 8 < 6 then (blkPorts (j / 8)).drop (j % 8) else []) ++ (remB t S (j / 8 + 1)).flatMap blkPorts := by unfold remP; rw [hat]
          have hnext : remP t S ((j + 1) / 8) ((j + 1) % 8) = (if t.pool.ow a (j / 8) = (S : Int) + 1 ∧ j / 8 < 6 then (blkPorts (j / 8)).drop (j % 8 + 1) else []) ++ (remB t S (j / 8 + 1)).flatMap blkPorts := by
            by_cases h8 : j % 8 = 7
            · rw [show (j + 1) / 8 = j / 8 + 1 by omega, show (j + 1) % 8 = 0 by omega]
              by_cases h5 : j / 8 + 1 < 6
              · rw [← remP_zero t S _ h5]
                rw [h8]
                split <;> simp [blkPorts]
              · have : j / 8 = 5 := by omega
                rw [h8, this]
                unfold remP
                rw [if_neg (by omega)]
                split <;> simp [blkPorts, remB]
            · rw [show (j + 1) / 8 = j / 8 by omega, show (j + 1) % 8 = j % 8 + 1 by omega]
              unfold remP; rw [hat]
          have hown7 : j % 8 = 0 → ownB t S ((j + 1 + 7) / 8) = ownB t S ((j + 7) / 8) ++ (if t.pool.ow a (j / 8) = (S : Int) + 1 then [j / 8] else []) := fun h => by
            rw [show (j + 1 + 7) / 8 = j / 8 + 1 by omega, show (j + 7) / 8 = j / 8 by omega]; exact hsucc
          have hown8 : j % 8 ≠ 0 → (j + 1 + 7) / 8 = (j + 7) / 8 := fun h => by omega
          have hnle := ownB_le t S ((j + 7) / 8)
          (refine XG ?_; ((try (repeat' with_reducible refine And.intro ?_ ?_)); (try any_goals (first | refine zm ?_ | exact CL | fail))))
          (refine xw_ifp (fun h5 => ?_) (fun h5 => ?_) <;> try exact h5.elim)
          rotate_left
          · omega
          (refine XG ?_; ((try (repeat' with_reducible refine And.intro ?_ ?_)); (try any_goals (first | refine zm ?_ | exact CL | fail))))
          ((first | apply pr_psv | apply prD_psv | apply pr_qrunv | apply prD_qrunv) <;> (first | exact hBo | (have zf1 := @e2; have zf2 := @eo; refine XG ?_; clear zf1 zf2; first | exact rfl | exact True.intro | ((try (repeat' with_reducible refine And.intro ?_ ?_)); (try any_goals (first | refine zm ?_ | exact CL | fail))))))
          have hif : ∀ x : Nat, (if 1 ≤ t.hom S then x else 0) = x := fun x => if_pos hh1
          have hB := rBack_ps c.gl t ht.wf ht.len proto a (1024 + (j : Int))
          have hbf := fun r => blk_free (j / 8) t proto a r (j % 8) (by omega)
          rw [show (1024 + ((j / 8 : Nat) : Int) * 8 + ((j % 8 : Nat) : Int)) = 1024 + (j : Int) by omega] at hbf
          have hnat : (1024 : Int) + (j : Int) + 1 = 1024 + ((j + 1 : Nat) : Int) := by omega
          generalize t.pool.ow a (j / 8) = ow at *
          (refine xw_ifp (fun h6' => ?_) (fun h6' => ?_) <;> try exact h6'.elim)
          · have hlen7 : (ownB t S ((j + 1 + 7) / 8)).length = (ownB t S ((j + 7) / 8)).length := by
              by_cases h0 : j % 8 = 0
              · rw [hown7 h0, if_neg h6', List.append_nil]
              · rw [hown8 h0]
            (refine XG ?_; ((try (repeat' with_reducible refine And.intro ?_ ?_)); (try any_goals (first | refine zm ?_ | exact CL | fail))))
            refine ⟨j + 1, ⟨by omega, fun h => (h hh1).elim, fun _ => ?_⟩, ⟨[], ?_⟩, by omega⟩
            · rw [hnext, if_neg fun h => h6' h.1, ← hjf, hrem, if_neg fun h => h6' h.1]
            · (have zf1 := @hif; have zf2 := @hlen7; have zf3 := @hnat; refine XG ?_; clear zf1 zf2 zf3; ((try (repeat' with_reducible refine And.intro ?_ ?_)); (try any_goals (first | refine zm ?_ | exact CL | fail))))
          · have h6' : ow = (S : Int) + 1 := by simpa using h6'
            (refine XG ?_; ((try (repeat' with_reducible refine And.intro ?_ ?_)); (try any_goals (first | refine zm ?_ | exact CL | fail))))
            (refine xw_ifp (fun h7 => ?_) (fun h7 => ?_) <;> try exact h7.elim)
            · have h70 : j % 8 = 0 := by omega
              have hlen7 : (ownB t S ((j + 1 + 7) / 8)).length = (ownB t S ((j + 7) / 8)).length + 1 := by
                rw [hown7 h70, if_pos h6', List.length_append]; rfl
              (refine XG ?_; ((try (repeat' with_reducible refine And.intro ?_ ?_)); (try any_goals (first | refine zm ?_ | exact CL | fail))))
              cases hfb : t.maps.find? (isBack proto a (1024 + (j : Int))) with
              | some m =>
                rw [hfb] at hB
                unfold mpT Mp.enc at hB
                (have zf1 := @e2; refine XG ?_; clear zf1; ((try (repeat' with_reducible refine And.intro ?_ ?_)); (try any_goals (first | refine zm ?_ | exact CL | fail))))
                ((first | apply pr_psv | apply prD_psv | apply pr_qrunv | apply prD_qrunv) <;> (first | exact hB | (have zf1 := @e2; refine XG ?_; clear zf1; first | exact rfl | exact True.intro | ((try (repeat' with_reducible refine And.intro ?_ ?_)); (try any_goals (first | refine zm ?_ | exact CL | fail))))))
                (refine xw_ifp (fun h8 => ?_) (fun h8 => ?_) <;> try exact h8.elim)
                (refine XG ?_; ((try (repeat' with_reducible refine And.intro ?_ ?_)); (try any_goals (first | refine zm ?_ | exact CL | fail))))
                refine ⟨j + 1, ⟨by omega, fun h => (h hh1).elim, fun _ => ?_⟩, ⟨[], ?_⟩, by omega⟩
                · rw [hnext, if_pos ⟨h6', hk6⟩, ← hjf, hrem, if_pos ⟨h6', hk6⟩, hbf]
                  have : freeP t proto a (1024 + (j : Int)) = false := by unfold freeP; rw [hfb]; rfl
                  rw [this, if_neg (by simp)]
                · (have zf1 := @hif; have zf2 := @hlen7; have zf3 := @hnat; refine XG ?_; clear zf1 zf2 zf3; ((try (repeat' with_reducible refine And.intro ?_ ?_)); (try any_goals (first | refine zm ?_ | exact CL | fail))))
              | none =>
                rw [hfb] at hB
                unfold mpT mp0 Mp.enc at hB
                dsimp only at hB
                have hF : firstFree t proto a (ownL t S) = some (1024 + (j : Int)) := by
                  rw [← hjf, hrem, if_pos ⟨h6', hk6⟩, hbf]
                  have : freeP t proto a (1024 + (j : Int)) = true := by unfold freeP; rw [hfb]; rfl
                  rw [if_pos this]
                have hR := HH4.out.1 _ hF
                have hq : putT (t.add ⟨proto, S, inn, a, 1024 + (j : Int)⟩) ⟨proto, S, inn, a, 1024 + (j : Int)⟩ false 0 = .tup [.agg (t.hd ++ [.isl (t.maps.length + 1) (mps t.maps ++ [.int .i64 proto, .int .i64 S, .int .i64 inn, .int .i64 a, .int .i64 (1024 + (j : Int))])]), .agg [.int .i64 proto, .int .i64 S, .int .i64 inn, .int .i64 a, .int .i64 (1024 + (j : Int))], .bool false, .int .i64 0] := by
                  have := mps_snoc t.maps ⟨proto, S, inn, a, 1024 + (j : Int)⟩
                  dsimp only at this
                  rw [this]
                  simp [putT, Tb.add, Tb.enc, Tb.hd, Mp.enc]
                have htk : (mps t.maps ++ [AV.int .i64 proto, .int .i64 S, .int .i64 inn, .int .i64 a, .int .i64 (1024 + (j : Int))]).take ((t.maps.length + 1) * 5) = mps t.maps ++ [.int .i64 proto, .int .i64 S, .int .i64 inn, .int .i64 a, .int .i64 (1024 + (j : Int))] := List.take_of_length_le (by simp [mps_len]; omega)
                have hfull : (mps t.maps).take (t.maps.length * 5) = mps t.maps := List.take_of_length_le (by omega)
                have hs29 := fun x y => hd_set29 ht.wf x y
                rw [hq] at hR
                subst hR
                (have zf1 := @e2; refine XG ?_; clear zf1; ((try (repeat' with_reducible refine And.intro ?_ ?_)); (try any_goals (first | refine zm ?_ | exact CL | fail))))
                ((first | apply pr_psv | apply prD_psv | apply pr_qrunv | apply prD_qrunv) <;> (first | exact hB | (have zf1 := @e2; refine XG ?_; clear zf1; first | exact rfl | exact True.intro | ((try (repeat' with_reducible refine And.intro ?_ ?_)); (try any_goals (first | refine zm ?_ | exact CL | fail))))))
                (refine xw_ifp (fun h8 => ?_) (fun h8 => ?_) <;> try exact h8.elim)
                (have zf1 := @hgd; have zf2 := @hhl; refine XG ?_; clear zf1 zf2; ((try (repeat' with_reducible refine And.intro ?_ ?_)); (try any_goals (first | refine zm ?_ | exact CL | fail))))
                ((first | apply pr_app | apply prD_app | apply pr_bsl | apply prD_bsl | apply pr_s2b | apply prD_s2b); (have zf1 := @hgd; have zf2 := @hhl; refine XG ?_; clear zf1 zf2; ((try (repeat' with_reducible refine And.intro ?_ ?_)); (try any_goals (first | refine zm ?_ | exact CL | fail)))))
                ((first | apply pr_app | apply prD_app | apply pr_bsl | apply prD_bsl | apply pr_s2b | apply prD_s2b); (have zf1 := @hel; have zf2 := @hfull; have zf3 := @hhl; have zf4 := @hs29; have zf5 := @List.map_append.{0,0}; have zf6 := @htk; have zf7 := @z30n.eq_1; have zf8 := @z30.eq_1; have zf9 := @z5.eq_1; refine XG ?_; clear zf1 zf2 zf3 zf4 zf5 zf6 zf7 zf8 zf9; ((try (repeat' with_reducible refine And.intro ?_ ?_)); (try any_goals (first | refine zm ?_ | exact CL | fail)))))
            · have h70 : j % 8 ≠ 0 := by omega
              have hlen7 : (ownB t S ((j + 1 + 7) / 8)).length = (ownB t S ((j + 7) / 8)).length := by rw [hown8 h70]
              cases hfb : t.maps.find? (isBack proto a (1024 + (j : Int))) with
              | some m =>
                rw [hfb] at hB
                unfold mpT Mp.enc at hB
                (have zf1 := @e2; refine XG ?_; clear zf1; ((try (repeat' with_reducible refine And.intro ?_ ?_)); (try any_goals (first | refine zm ?_ | exact CL | fail))))
                ((first | apply pr_psv | apply prD_psv | apply pr_qrunv | apply prD_qrunv) <;> (first | exact hB | (have zf1 := @e2; refine XG ?_; clear zf1; first | exact rfl | exact True.intro | ((try (repeat' with_reducible refine And.intro ?_ ?_)); (try any_goals (first | refine zm ?_ | exact CL | fail))))))
                (refine xw_ifp (fun h8 => ?_) (fun h8 => ?_) <;> try exact h8.elim)
                (refine XG ?_; ((try (repeat' with_reducible refine And.intro ?_ ?_)); (try any_goals (first | refine zm ?_ | exact CL | fail))))
                refine ⟨j + 1, ⟨by omega, fun h => (h hh1).elim, fun _ => ?_⟩, ⟨[], ?_⟩, by omega⟩
                · rw [hnext, if_pos ⟨h6', hk6⟩, ← hjf, hrem, if_pos ⟨h6', hk6⟩, hbf]
                  have : freeP t proto a (1024 + (j : Int)) = false := by unfold freeP; rw [hfb]; rfl
                  rw [this, if_neg (by simp)]
                · (have zf1 := @hif; have zf2 := @hlen7; have zf3 := @hnat; refine XG ?_; clear zf1 zf2 zf3; ((try (repeat' with_reducible refine And.intro ?_ ?_)); (try any_goals (first | refine zm ?_ | exact CL | fail))))
              | none =>
                rw [hfb] at hB
                unfold mpT mp0 Mp.enc at hB
                dsimp only at hB
                have hF : firstFree t proto a (ownL t S) = some (1024 + (j : Int)) := by
                  rw [← hjf, hrem, if_pos ⟨h6', hk6⟩, hbf]
                  have : freeP t proto a (1024 + (j : Int)) = true := by unfold freeP; rw [hfb]; rfl
                  rw [if_pos this]
                have hR := HH4.out.1 _ hF
                have hq : putT (t.add ⟨proto, S, inn, a, 1024 + (j : Int)⟩) ⟨proto, S, inn, a, 1024 + (j : Int)⟩ false 0 = .tup [.agg (t.hd ++ [.isl (t.maps.length + 1) (mps t.maps ++ [.int .i64 proto, .int .i64 S, .int .i64 inn, .int .i64 a, .int .i64 (1024 + (j : Int))])]), .agg [.int .i64 proto, .int .i64 S, .int .i64 inn, .int .i64 a, .int .i64 (1024 + (j : Int))], .bool false, .int .i64 0] := by
                  have := mps_snoc t.maps ⟨proto, S, inn, a, 1024 + (j : Int)⟩
                  dsimp only at this
                  rw [this]
                  simp [putT, Tb.add, Tb.enc, Tb.hd, Mp.enc]
                have htk : (mps t.maps ++ [AV.int .i64 proto, .int .i64 S, .int .i64 inn, .int .i64 a, .int .i64 (1024 + (j : Int))]).take ((t.maps.length + 1) * 5) = mps t.maps ++ [.int .i64 proto, .int .i64 S, .int .i64 inn, .int .i64 a, .int .i64 (1024 + (j : Int))] := List.take_of_length_le (by simp [mps_len]; omega)
                have hfull : (mps t.maps).take (t.maps.length * 5) = mps t.maps := List.take_of_length_le (by omega)
                have hs29 := fun x y => hd_set29 ht.wf x y
                rw [hq] at hR
                subst hR
                (have zf1 := @e2; refine XG ?_; clear zf1; ((try (repeat' with_reducible refine And.intro ?_ ?_)); (try any_goals (first | refine zm ?_ | exact CL | fail))))
                ((first | apply pr_psv | apply prD_psv | apply pr_qrunv | apply prD_qrunv) <;> (first | exact hB | (have zf1 := @e2; refine XG ?_; clear zf1; first | exact rfl | exact True.intro | ((try (repeat' with_reducible refine And.intro ?_ ?_)); (try any_goals (first | refine zm ?_ | exact CL | fail))))))
                (refine xw_ifp (fun h8 => ?_) (fun h8 => ?_) <;> try exact h8.elim)
                (have zf1 := @hgd; have zf2 := @hhl; refine XG ?_; clear zf1 zf2; ((try (repeat' with_reducible refine And.intro ?_ ?_)); (try any_goals (first | refine zm ?_ | exact CL | fail))))
                ((first | apply pr_app | apply prD_app | apply pr_bsl | apply prD_bsl | apply pr_s2b | apply prD_s2b); (have zf1 := @hgd; have zf2 := @hhl; refine XG ?_; clear zf1 zf2; ((try (repeat' with_reducible refine And.intro ?_ ?_)); (try any_goals (first | refine zm ?_ | exact CL | fail)))))
                ((first | apply pr_app | apply prD_app | apply pr_bsl | apply prD_bsl | apply pr_s2b | apply prD_s2b); (have zf1 := @hel; have zf2 := @hfull; have zf3 := @hhl; have zf4 := @hs29; have zf5 := @List.map_append.{0,0}; have zf6 := @htk; have zf7 := @z30n.eq_1; have zf8 := @z30.eq_1; have zf9 := @z5.eq_1; refine XG ?_; clear zf1 zf2 zf3 zf4 zf5 zf6 zf7 zf8 zf9; ((try (repeat' with_reducible refine And.intro ?_ ?_)); (try any_goals (first | refine zm ?_ | exact CL | fail)))))
        · have : j = 48 := by omega
          subst this
          have e48 : (48 + 7) / 8 = 6 := rfl
          rw [e48, ← hown] at *
          have hnone : firstFree t proto a (ownL t S) = none := by
            rw [← hjf]
            show (remP t S 6 0).find? _ = none
            unfold remP
            rw [if_neg (by omega)]
            rfl
          have HH5 := Lib.hid (HH4.out.2 hnone)
          have HPN := Lib.hid HH5.out.1
          have HPY := Lib.hid HH5.out.2
          clear HH4 HH5
          (refine XG ?_; ((try (repeat' with_reducible refine And.intro ?_ ?_)); (try any_goals (first | refine zm ?_ | exact CL | fail))))
          (refine xw_ifp (fun h5 => ?_) (fun h5 => ?_) <;> try exact h5.elim)
          · omega
          (refine XG ?_; ((try (repeat' with_reducible refine And.intro ?_ ?_)); (try any_goals (first | refine zm ?_ | exact CL | fail))))
          (refine xw_ifp (fun h6 => ?_) (fun h6 => ?_) <;> try exact h6.elim)
          · have hR := HPN.out (by omega)
            subst hR
            (have zf1 := @e2; have zf2 := @putT.eq_1; have zf3 := @Mp.enc.eq_1; have zf4 := @mp0.eq_1; have zf5 := @z30n.eq_1; have zf6 := @z30.eq_1; have zf7 := @z5.eq_1; refine XG ?_; clear zf1 zf2 zf3 zf4 zf5 zf6 zf7; ((try (repeat' with_reducible refine And.intro ?_ ?_)); (try any_goals (first | refine zm ?_ | exact CL | fail))))
          have HTK := Lib.hid ((HPY.out (by omega)).1 hh1)
          clear HPN HPY
          have e4 := Tb.enc_pool ht.wf
          (refine XG ?_; ((try (repeat' with_reducible refine And.intro ?_ ?_)); (try any_goals (first | refine zm ?_ | exact CL | fail))))
          (refine xw_ifp (fun h7 => ?_) (fun h7 => ?_) <;> try exact h7.elim)
          · omega
          (refine XG ?_; ((try (repeat' with_reducible refine And.intro ?_ ?_)); (try any_goals (first | refine zm ?_ | exact CL | fail))))
          have hT := rTake_ps c.gl t.pool ht.wf.pool S a draw
          have htkn := taken t.pool ht.wf.pool S a draw
          have htw := Pool.take_wf t.pool ht.wf.pool S a draw
          generalize hx : t.pool.take S a draw = x at *
          obtain ⟨tp, tk, te⟩ := x
          unfold takeT at hT
          dsimp only at hT htw
          have etl := Pool.enc_len htw
          (have zf1 := @e2; have zf2 := @e4; refine XG ?_; clear zf1 zf2; ((try (repeat' with_reducible refine And.intro ?_ ?_)); (try any_goals (first | refine zm ?_ | exact CL | fail))))
          ((first | apply pr_psv | apply prD_psv | apply pr_qrunv | apply prD_qrunv) <;> (first | exact hT | (have zf1 := @e2; have zf2 := @etl; refine XG ?_; clear zf1 zf2; first | exact rfl | exact True.intro | ((try (repeat' with_reducible refine And.intro ?_ ?_)); (try any_goals (first | refine zm ?_ | exact CL | fail))))))
          (refine xw_ifp (fun h9 => ?_) (fun h9 => ?_) <;> try exact h9.elim)
          · have hR := HTK.out.trans (show opnT (t.tk proto S inn a draw) = putT t mp0 false te by unfold Tb.tk opnT; rw [hx]; simp [h9])
            subst hR
            (have zf1 := @e2; have zf2 := @putT.eq_1; have zf3 := @Mp.enc.eq_1; have zf4 := @mp0.eq_1; have zf5 := @z30n.eq_1; have zf6 := @z30.eq_1; have zf7 := @z5.eq_1; refine XG ?_; clear zf1 zf2 zf3 zf4 zf5 zf6 zf7; ((try (repeat' with_reducible refine And.intro ?_ ?_)); (try any_goals (first | refine zm ?_ | exact CL | fail))))
          have hte : te = 0 := by simpa using h9
          subst hte
          cases htkn with
          | no _ he => exact (he rfl).elim
          | yes b kk hab hb3 hk6 _ _ hgo _ _ _ =>
          have hR := HTK.out.trans (show opnT (t.tk proto S inn a draw) = putT (Tb.add ⟨t.pool.put b kk (S + 1), t.home.set S (a + 1), t.maps⟩ ⟨proto, S, inn, a, 1024 + (kk : Int) * 8⟩) ⟨proto, S, inn, a, 1024 + (kk : Int) * 8⟩ true 0 by unfold Tb.tk opnT; rw [hx]; rfl)
          subst hR
          clear HTK
          have hps := fun x => hd_pool_set ht.wf htw x
          have hw1 : (⟨t.pool.put b kk (S + 1), t.home, t.maps⟩ : Tb).wf := ⟨htw, ht.wf.home⟩
          have hhs := fun x => hd_home_set hw1 hS8 ((a : Int) + 1) x
          have hw2 : (⟨t.pool.put b kk (S + 1), t.home.set S (a + 1), t.maps⟩ : Tb).wf := ⟨htw, by rw [List.length_set]; exact ht.wf.home⟩
          have hl1 := Tb.hd_len hw1
          have hl2 := Tb.hd_len hw2
          have hg2 := fun x => hd_get29 hw2 x
          have hs2 := fun x y => hd_set29 hw2 x y
          dsimp only at hhs
          have hmul : (8 : Int) * (kk : Int) = (kk : Int) * 8 := Int.mul_comm _ _
          have hq : putT (Tb.add ⟨t.pool.put b kk (S + 1), t.home.set S (a + 1), t.maps⟩ ⟨proto, S, inn, a, 1024 + (kk : Int) * 8⟩) ⟨proto, S, inn, a, 1024 + (kk : Int) * 8⟩ true 0 = .tup [.agg ((⟨t.pool.put b kk (S + 1), t.home.set S (a + 1), t.maps⟩ : Tb).hd ++ [.isl (t.maps.length + 1) (mps t.maps ++ [.int .i64 proto, .int .i64 S, .int .i64 inn, .int .i64 a, .int .i64 (1024 + (kk : Int) * 8)])]), .agg [.int .i64 proto, .int .i64 S, .int .i64 inn, .int .i64 a, .int .i64 (1024 + (kk : Int) * 8)], .bool true, .int .i64 0] := by
            have := mps_snoc t.maps ⟨proto, S, inn, a, 1024 + (kk : Int) * 8⟩
            dsimp only at this
            rw [this]
            simp [putT, Tb.add, Tb.enc, Tb.hd, Mp.enc]
          have htk : (mps t.maps ++ [AV.int .i64 proto, .int .i64 S, .int .i64 inn, .int .i64 a, .int .i64 (1024 + (kk : Int) * 8)]).take ((t.maps.length + 1) * 5) = mps t.maps ++ [.int .i64 proto, .int .i64 S, .int .i64 inn, .int .i64 a, .int .i64 (1024 + (kk : Int) * 8)] := List.take_of_length_le (by simp [mps_len]; omega)
          have hfull : (mps t.maps).take (t.maps.length * 5) = mps t.maps := List.take_of_length_le (by omega)
          rw [hq]
          generalize (⟨t.pool.put b kk (S + 1), t.home.set S (a + 1), t.maps⟩ : Tb) = T2 at *
          generalize (⟨t.pool.put b kk (S + 1), t.home, t.maps⟩ : Tb) = T1 at *
          (have zf1 := @hhl; have zf2 := @hps; have zf3 := @hhs; have zf4 := @etl; have zf5 := @hl1; have zf6 := @hl2; have zf7 := @hg2; have zf8 := @hmul; refine XG ?_; clear zf1 zf2 zf3 zf4 zf5 zf6 zf7 zf8; ((try (repeat' with_reducible refine And.intro ?_ ?_)); (try any_goals (first | refine zm ?_ | exact CL | fail))))
          ((first | apply pr_app | apply prD_app | apply pr_bsl | apply prD_bsl | apply pr_s2b | apply prD_s2b); (have zf1 := @hl2; have zf2 := @hg2; refine XG ?_; clear zf1 zf2; ((try (repeat' with_reducible refine And.intro ?_ ?_)); (try any_goals (first | refine zm ?_ | exact CL | fail)))))
          ((first | apply pr_app | apply prD_app | apply pr_bsl | apply prD_bsl | apply pr_s2b | apply prD_s2b); (have zf1 := @hel; have zf2 := @hfull; have zf3 := @hl2; have zf4 := @hs2; have zf5 := @List.map_append.{0,0}; have zf6 := @htk; have zf7 := @z30n.eq_1; have zf8 := @z30.eq_1; have zf9 := @z5.eq_1; refine XG ?_; clear zf1 zf2 zf3 zf4 zf5 zf6 zf7 zf8 zf9; ((try (repeat' with_reducible refine And.intro ?_ ?_)); (try any_goals (first | refine zm ?_ | exact CL | fail)))))
end Go.Proofs.Ytphaicaobepimaa
