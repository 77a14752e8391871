/- Two steps tell what one step tells. No conditions but the ones that stand in each. -/
import Derived.Test.YtphaicaobepimaaVt
import Derived.Test.YtphaicaobepimaaVo
namespace Go.Proofs.Ytphaicaobepimaa
set_option linter.all false
set_option linter.unusedSimpArgs false
open Go.RowKit

theorem srt_cut (D : List Tm) {c n : Nat} (h : c ≤ n) : srt (D.filter fun t => decide (t.due < n)) = srt (D.filter fun t => decide (t.due < c)) ++ srt ((D.filter fun t => decide (c ≤ t.due)).filter fun t => decide (t.due < n)) := by
  have hp : (srt (D.filter fun t => decide (t.due < n))).Perm (srt (D.filter fun t => decide (t.due < c)) ++ srt ((D.filter fun t => decide (c ≤ t.due)).filter fun t => decide (t.due < n))) := by
    refine (srt_perm _).trans (List.Perm.trans ?_ ((srt_perm _).symm.append (srt_perm _).symm))
    have := List.filter_append_perm (fun t : Tm => decide (t.due < c)) (D.filter fun t => decide (t.due < n))
    refine this.symm.trans (List.Perm.of_eq ?_)
    rw [List.filter_filter, List.filter_filter, List.filter_filter]
    congr 1 <;> refine List.filter_congr fun t _ => ?_ <;> rw [Bool.eq_iff_iff] <;> simp <;> omega
  refine srt_uniq (hp.symm.trans (srt_perm _)) ?_
  · rw [List.pairwise_append]
    refine ⟨srt_ord _, srt_ord _, fun a ha b hb => ?_⟩
    have h1 := (srt_perm _).mem_iff.1 ha
    have h2 := (srt_perm _).mem_iff.1 hb
    simp only [List.mem_filter, decide_eq_true_eq] at h1 h2
    rw [leT_iff]; omega
theorem outT_cut (D : List Tm) {c n : Nat} (h : c ≤ n) : outT D (n + 1) = outT D (c + 1) ++ outT (D.filter fun t => decide (c < t.due)) (n + 1) := by
  have := srt_cut D (c := c + 1) (n := n + 1) (by omega)
  unfold outT
  rw [← List.map_append]
  exact congrArg _ this
theorem renH_lt {h : List (Nat × Bk)} {σ : Nat → Nat} {m n : Nat} (H : HL h m) (hn : ∀ b, b < m → σ b < n) : ∀ q ∈ renH σ h, q.1 < n := fun q hq => by
  obtain ⟨q', hq', rfl⟩ := List.mem_map.1 hq
  exact hn _ (H.mem q' hq').1
theorem ints_cut (L : List Int) (k : Nat) (h : k < L.length) : ((ints L).drop k).take 1 = [.int .i64 L[k]] := by
  unfold ints
  rw [← List.map_drop, List.drop_eq_getElem_cons h]; rfl
structure StI (l : List Int) (i : Nat) (Ta Tb : WT) (τ σ : Nat → Nat) (n : Nat) : Prop where
  il : i ≤ l.length
  i6 : i ≤ 60
  wa : WI Ta 0 (dlist 0 8192 l i)
  wb : WI Tb 0 (dlist 0 8192 l i)
  fm : Fm [] τ Ta.hb 67 σ Tb.hb 67 n
  t0 : τ 0 = 0
  s0 : σ 0 = 67
theorem in01 {b : Nat} (h : b ∈ [0, 1]) : b < 67 := by simp at h; omega
set_option maxHeartbeats 4000000 in
set_option maxRecDepth 20000 in
theorem WheelSteps_ps (gl : Nat → AV) (l : List Int) (zn zc : Int) (hl : ∀ x ∈ l, inI x) (hzn : inI zn) (hzc : inI zc) (hll : l.length ≤ 140737488351232) : PS Try.prog gl 10 [.isl l.length (ints l), .int .i64 zn, .int .i64 zc] (.bool true) := by
  refine ft_wSteps.ps (of_decide_eq_true rfl) (by simp [nmOk]) fun c hN hg => ?_
  unfold T_wSteps
  obtain ⟨hp1, hp2⟩ := pickN_eq zn (n := 8192) (by omega)
  have hpk := kpick_ps c.gl zn 8192 hzn (by omega)
  rw [hp1] at hpk
  generalize pickN zn 8192 = N at *
  obtain ⟨hq1, hq2⟩ := pickN_eq zc (n := (N : Int) + 1) (by omega)
  have hpc := kpick_ps c.gl zc ((N : Int) + 1) hzc (by omega)
  rw [hq1] at hpc
  generalize pickN zc ((N : Int) + 1) = C at *
  have hnew := wNewW_gs c.gl 0 (by omega)
  have hw0 := emptyT_WI 0 (by omega)
  have hwf0 := hw0.wf
  have hHL0 := WT.HLb hwf0
  have hll2 := ints_len l
  (refine XG ?_; ((try (repeat' with_reducible refine And.intro ?_ ?_)); (try any_goals (first | refine zm ?_ | exact CL | fail))))
  ((first | apply pr_psv | apply prD_psv | apply pr_qrunv | apply prD_qrunv) <;> (first | exact hpk | (refine XG ?_; first | exact rfl | exact True.intro | ((try (repeat' with_reducible refine And.intro ?_ ?_)); (try any_goals (first | refine zm ?_ | exact CL | fail))))))
  (refine XG ?_; ((try (repeat' with_reducible refine And.intro ?_ ?_)); (try any_goals (first | refine zm ?_ | exact CL | fail))))
  ((first | apply pr_psv | apply prD_psv | apply pr_qrunv | apply prD_qrunv) <;> (first | exact hpc | (refine XG ?_; first | exact rfl | exact True.intro | ((try (repeat' with_reducible refine And.intro ?_ ?_)); (try any_goals (first | refine zm ?_ | exact CL | fail))))))
  (refine XG ?_; ((try (repeat' with_reducible refine And.intro ?_ ?_)); (try any_goals (first | refine zm ?_ | exact CL | fail))))
  refine pr_gnew hnew hHL0 ?_ (by simp) ?_
  · (refine XG ?_; ((try (repeat' with_reducible refine And.intro ?_ ?_)); (try any_goals (first | refine zm ?_ | exact CL | fail))))
  dsimp only [List.nil_append]
  generalize emptyT 0 (.mapb [] true) = T0 at *
  (refine XG ?_; ((try (repeat' with_reducible refine And.intro ?_ ?_)); (try any_goals (first | refine zm ?_ | exact CL | fail))))
  refine pr_gnew hnew hHL0 ?_ (renH_lt hHL0 (fun b hb => hb)) ?_
  · (refine XG ?_; ((try (repeat' with_reducible refine And.intro ?_ ?_)); (try any_goals (first | refine zm ?_ | exact CL | fail))))
  (refine XG ?_; ((try (repeat' with_reducible refine And.intro ?_ ?_)); (try any_goals (first | refine zm ?_ | exact CL | fail))))
  ((first | apply pr_psv | apply prD_psv | apply pr_qrunv | apply prD_qrunv) <;> (first | exact (kturns_ps c.gl) | (refine XG ?_; first | exact rfl | exact True.intro | ((try (repeat' with_reducible refine And.intro ?_ ?_)); (try any_goals (first | refine zm ?_ | exact CL | fail))))))
  (refine xw_ifp (fun h1 => ?_) (fun h1 => ?_) <;> try exact h1.elim)
  (refine XG ?_; ((try (repeat' with_reducible refine And.intro ?_ ?_)); (try any_goals (first | refine zm ?_ | exact CL | fail))))
  have hF0 : Fm [] (fun b => b) T0.hb 67 (fun b => 67 + b) T0.hb 67 134 := ⟨fun b b' _ _ e => by omega, fun b hb => by omega, hHL0, fun b b' _ _ e => by omega, fun b hb => by omega, hHL0, fun b hb b' hb' e => by omega, fun q hq => by cases hq⟩
  refine loop_ruleS (fun y : Nat × WT × WT × (Nat → Nat) × (Nat → Nat) × Nat => StI l y.1 y.2.1 y.2.2.1 y.2.2.2.1 y.2.2.2.2.1 y.2.2.2.2.2)
    (fun y => ⟨[(0, .isl l.length (ints l)), (1, .int .i64 N), (2, .int .i64 C), (7, .ptr 0 0), (9, .ptr 67 0), (11, .int .i64 y.1)], renH y.2.2.2.1 y.2.1.hb ++ renH y.2.2.2.2.1 y.2.2.1.hb, y.2.2.2.2.2⟩) (fun y => 60 - y.1) ft_wSteps.mixed [] (by rw [hN]; simp)
    ⟨(0, T0, T0, fun b => b, fun b => 67 + b, 134), ⟨by simp, by simp, hw0, hw0, hF0, rfl, rfl⟩, To.sel (by (refine XG ?_; ((try (repeat' with_reducible refine And.intro ?_ ?_)); (try any_goals (first | refine zm ?_ | exact CL | fail))))) fun b => rfl⟩ fun y hy => ?_
  obtain ⟨i, Ta, Tb, τ, σ, n⟩ := y
  obtain ⟨hil, hi6, hwa, hwb, hF, ht0, hs0⟩ := hy
  dsimp only at hil hi6 hwa hwb hF ht0 hs0 ⊢
  (refine XG ?_; ((try (repeat' with_reducible refine And.intro ?_ ?_)); (try any_goals (first | refine zm ?_ | exact CL | fail))))
  (refine xw_ifp (fun h2 => ?_) (fun h2 => ?_) <;> try exact h2.elim)
  · have hin : i < l.length := by omega
    have hlx := hl l[i] (List.getElem_mem _)
    have hgd : l.getD i 0 = l[i] := by simp [List.getD, hin]
    have hcut : ((ints l).drop i).take 1 = [.int .i64 l[i]] := by
      unfold ints
      rw [← List.map_drop, List.drop_eq_getElem_cons hin]; rfl
    have hds := dlist_succ 0 8192 l i
    rw [hgd, Nat.zero_add] at hds
    have hgi := ints_getL l i hin
    obtain ⟨q1, q2⟩ := pickN_eq l[i] (n := 8192) (by omega)
    have hpk := kpick_ps c.gl l[i] 8192 hlx (by omega)
    rw [q1] at hpk
    have hne := dlist_ne 0 8192 l i
    generalize l[i] = x at *
    generalize pickN x 8192 = d at *
    have hdl := dlist_len 0 8192 l i
    obtain ⟨Ta2, hwa2, harma⟩ := hwa.arm_gd c.gl i (d : Nat)
    obtain ⟨Tb2, hwb2, harmb⟩ := hwb.arm_gd c.gl i (d : Nat)
    have hr : armR 0 (dlist 0 8192 l i) i ((d : Nat) : Int) = (0, dlist 0 8192 l (i + 1)) := by
      unfold armR
      rw [if_neg (by omega), if_neg (by rw [hdl]; omega), armD_new hne, hds, show max ((d : Nat) : Int).toNat 0 = d by omega]
    rw [hr] at hwa2 harma hwb2 harmb
    dsimp only at hwa2 harma hwb2 harmb
    have hFa := hF.stepL [0, 1] (WT.HLb hwa2.wf)
    have hFb := hFa.stepR [0, 1] (WT.HLb hwb2.wf)
    have ht1 : sgx τ [0, 1] n 0 = 0 := by rw [sgx_in (by simp), ht0]
    have hs1 : sgx σ [0, 1] (n + 67) 0 = 67 := by rw [sgx_in (by simp), hs0]
    (have zf1 := @hcut; have zf2 := @hgi; have zf3 := @hll2; refine XG ?_; clear zf1 zf2 zf3; ((try (repeat' with_reducible refine And.intro ?_ ?_)); (try any_goals (first | refine zm ?_ | exact CL | fail))))
    ((first | apply pr_psv | apply prD_psv | apply pr_qrunv | apply prD_qrunv) <;> (first | exact hpk | (refine XG ?_; first | exact rfl | exact True.intro | ((try (repeat' with_reducible refine And.intro ?_ ?_)); (try any_goals (first | refine zm ?_ | exact CL | fail))))))
    (refine XG ?_; ((try (repeat' with_reducible refine And.intro ?_ ?_)); (try any_goals (first | refine zm ?_ | exact CL | fail))))
    refine pr_gdL (v := false) (ex := []) harma hF (fun b => in01) ?_ rfl (WT.HLb hwa2.wf) (by simp [nmOk]) ?_
    · (have zf1 := @cArgs_f; have zf2 := @ht0; refine XG ?_; clear zf1 zf2; ((try (repeat' with_reducible refine And.intro ?_ ?_)); (try any_goals (first | refine zm ?_ | exact CL | fail))))
    unfold gxL
    (refine XG ?_; ((try (repeat' with_reducible refine And.intro ?_ ?_)); (try any_goals (first | refine zm ?_ | exact CL | fail))))
    ((refine pr_on ?_ ?_ ?_); (focus (refine XG ?_; try first | exact rfl | exact True.intro)); (focus (refine XG ?_; try trivial)))
    refine pr_gdR (v := false) (ex := []) harmb hFa (fun b => in01) ?_ rfl (WT.HLb hwb2.wf) (by simp [nmOk]) ?_
    · (have zf1 := @cArgs_f; have zf2 := @hs0; refine XG ?_; clear zf1 zf2; ((try (repeat' with_reducible refine And.intro ?_ ?_)); (try any_goals (first | refine zm ?_ | exact CL | fail))))
    unfold gxSt
    (refine XG ?_; ((try (repeat' with_reducible refine And.intro ?_ ?_)); (try any_goals (first | refine zm ?_ | exact CL | fail))))
    (refine xw_ifp (fun h3 => ?_) (fun h3 => ?_) <;> try exact h3.elim)
    (refine XG ?_; ((try (repeat' with_reducible refine And.intro ?_ ?_)); (try any_goals (first | refine zm ?_ | exact CL | fail))))
    exact ⟨(i + 1, Ta2, Tb2, sgx τ [0, 1] n, sgx σ [0, 1] (n + 67), n + 67 + 67), ⟨by dsimp only; omega, by dsimp only; omega, hwa2, hwb2, hFb, ht1, hs1⟩, To.sel (by (refine XG ?_; ((try (repeat' with_reducible refine And.intro ?_ ?_)); (try any_goals (first | refine zm ?_ | exact CL | fail))))) fun b => rfl, by dsimp only; omega⟩
  · generalize dlist 0 8192 l i = D at *
    obtain ⟨Ta2, hwa2, hada⟩ := hwa.adv_gd c.gl (N : Nat)
    obtain ⟨Tb2, hwb2, hadb⟩ := hwb.adv_gd c.gl (C : Nat)
    have hra : advR 0 D ((N : Nat) : Int) = (0, outT D (N + 1), N, D.filter fun t => decide (N < t.due)) := by
      unfold advR
      rw [if_neg (by omega), show ((N : Nat) : Int).toNat = N by omega]
    have hrb : advR 0 D ((C : Nat) : Int) = (0, outT D (C + 1), C, D.filter fun t => decide (C < t.due)) := by
      unfold advR
      rw [if_neg (by omega), show ((C : Nat) : Int).toNat = C by omega]
    rw [hra] at hwa2 hada
    rw [hrb] at hwb2 hadb
    dsimp only at hwa2 hada hwb2 hadb
    obtain ⟨Tb3, hwb3, hadc⟩ := hwb2.adv_gd c.gl (N : Nat)
    have hrc : advR C (D.filter fun t => decide (C < t.due)) ((N : Nat) : Int) = (0, outT (D.filter fun t => decide (C < t.due)) (N + 1), N, (D.filter fun t => decide (C < t.due)).filter fun t => decide (N < t.due)) := by
      unfold advR
      rw [if_neg (by omega), show ((N : Nat) : Int).toNat = N by omega]
    rw [hrc] at hwb3 hadc
    dsimp only at hwb3 hadc
    rw [show ((D.filter fun t => decide (C < t.due)).filter fun t => decide (N < t.due)) = D.filter fun t => decide (N < t.due) by
      rw [List.filter_filter]
      refine List.filter_congr fun t _ => ?_
      rw [Bool.eq_iff_iff]; simp; omega] at hwb3
    have hout := outT_cut D (c := C) (n := N) (by omega)
    have hXl : (outT D (C + 1)).length ≤ 400 := by unfold outT; rw [List.length_map, (srt_perm _).length_eq]; exact Nat.le_trans (List.length_filter_le _ _) hwa.cap
    have hYl : (outT (D.filter fun t => decide (C < t.due)) (N + 1)).length ≤ 400 := by unfold outT; rw [List.length_map, (srt_perm _).length_eq]; exact Nat.le_trans (List.length_filter_le _ _) hwb2.cap
    rw [hout] at hada
    generalize outT D (C + 1) = X at *
    generalize outT (D.filter fun t => decide (C < t.due)) (N + 1) = Y at *
    have hXX := ints_len X
    have hYY := ints_len Y
    have hXY := ints_len (X ++ Y)
    have hap : (X ++ Y).length = X.length + Y.length := List.length_append
    have hma := hwa2.many_gd c.gl
    have hmb := hwb3.many_gd c.gl
    have hcap := hwa2.cap
    have hFa := hF.stepL [0, 1] (WT.HLb hwa2.wf)
    have hFb := hFa.stepR [0, 1] (WT.HLb hwb2.wf)
    have hFc := hFb.stepR [0, 1] (WT.HLb hwb3.wf)
    have hFd := hFc.stepL (List.range 67) (WT.HLb hwa2.wf)
    have ht1 : sgx τ [0, 1] n 0 = 0 := by rw [sgx_in (by simp), ht0]
    have hs1 : sgx σ [0, 1] (n + 67) 0 = 67 := by rw [sgx_in (by simp), hs0]
    have hs2 : sgx (sgx σ [0, 1] (n + 67)) [0, 1] (n + 67 + 67) 0 = 67 := by rw [sgx_in (by simp), hs1]
    (refine XG ?_; ((try (repeat' with_reducible refine And.intro ?_ ?_)); (try any_goals (first | refine zm ?_ | exact CL | fail))))
    refine pr_gdL (v := false) (ex := []) hada hF (fun b => in01) ?_ rfl (WT.HLb hwa2.wf) (by simp [nmOk, nmAll, ints_nm]) ?_
    · (have zf1 := @cArgs_f; have zf2 := @ht0; refine XG ?_; clear zf1 zf2; ((try (repeat' with_reducible refine And.intro ?_ ?_)); (try any_goals (first | refine zm ?_ | exact CL | fail))))
    unfold gxL
    rw [ren_flat (by simp [nmOk, nmAll, ints_nm])]
    (refine XG ?_; ((try (repeat' with_reducible refine And.intro ?_ ?_)); (try any_goals (first | refine zm ?_ | exact CL | fail))))
    refine pr_gdR (v := false) (ex := []) hadb hFa (fun b => in01) ?_ rfl (WT.HLb hwb2.wf) (by simp [nmOk, nmAll, ints_nm]) ?_
    · (have zf1 := @cArgs_f; have zf2 := @hs0; refine XG ?_; clear zf1 zf2; ((try (repeat' with_reducible refine And.intro ?_ ?_)); (try any_goals (first | refine zm ?_ | exact CL | fail))))
    unfold gxSt
    rw [ren_flat (by simp [nmOk, nmAll, ints_nm])]
    (refine XG ?_; ((try (repeat' with_reducible refine And.intro ?_ ?_)); (try any_goals (first | refine zm ?_ | exact CL | fail))))
    refine pr_gdR (v := false) (ex := []) hadc hFb (fun b => in01) ?_ rfl (WT.HLb hwb3.wf) (by simp [nmOk, nmAll, ints_nm]) ?_
    · (have zf1 := @cArgs_f; have zf2 := @hs1; refine XG ?_; clear zf1 zf2; ((try (repeat' with_reducible refine And.intro ?_ ?_)); (try any_goals (first | refine zm ?_ | exact CL | fail))))
    unfold gxSt
    rw [ren_flat (by simp [nmOk, nmAll, ints_nm])]
    clear hada hadb hadc hF hFa hFb
    generalize sgx (sgx σ [0, 1] (n + 67)) [0, 1] (n + 67 + 67) = σ' at *
    generalize sgx τ [0, 1] n = τ' at *
    generalize n + 67 + 67 + 67 = n' at *
    (refine XG ?_; ((try (repeat' with_reducible refine And.intro ?_ ?_)); (try any_goals (first | refine zm ?_ | exact CL | fail))))
    (refine xw_ifp (fun h3 => ?_) (fun h3 => ?_) <;> try exact h3.elim)
    · omega
    (refine XG ?_; ((try (repeat' with_reducible refine And.intro ?_ ?_)); (try any_goals (first | refine zm ?_ | exact CL | fail))))
    refine loop_ruleS (fun k : Nat => k ≤ (X ++ Y).length) (fun k => ⟨[(7, .ptr 0 0), (9, .ptr 67 0), (15, .isl X.length (ints X)), (17, .isl Y.length (ints Y)), (106, .isl (X ++ Y).length (ints (X ++ Y))), (107, .int .i64 (X ++ Y).length), (108, .int .i64 k)], renH τ' Ta2.hb ++ renH σ' Tb3.hb, n'⟩) (fun k => (X ++ Y).length - k) ft_wSteps.mixed [] (by rw [hN]; simp)
      ⟨0, by omega, To.sel (by (refine XG ?_; ((try (repeat' with_reducible refine And.intro ?_ ?_)); (try any_goals (first | refine zm ?_ | exact CL | fail))))) fun b => rfl⟩ fun k hk => ?_
    (refine XG ?_; ((try (repeat' with_reducible refine And.intro ?_ ?_)); (try any_goals (first | refine zm ?_ | exact CL | fail))))
    (refine xw_ifp (fun h4 => ?_) (fun h4 => ?_) <;> try exact h4.elim)
    · have hkl : k < (X ++ Y).length := by omega
      obtain ⟨v, hv⟩ : ∃ v, v = (X ++ Y)[k] := ⟨_, rfl⟩
      have hcutk := ints_cut (X ++ Y) k hkl
      have hgk := ints_getL (X ++ Y) k hkl
      rw [← hv] at hcutk hgk
      by_cases hkx : k < X.length
      · have hcx := ints_cut X k hkx
        have hgx := ints_getL X k hkx
        rw [List.getElem_append_left hkx] at hv
        rw [← hv] at hcx hgx
        have f1 : decide ((k : Int) < (X.length : Int)) = true := decide_eq_true (by omega)
        have f2 : decide ((X.length : Int) ≤ (k : Int)) = false := decide_eq_false (by omega)
        (have zf1 := @hcutk; have zf2 := @hXY; have zf3 := @hgk; have zf4 := @hcx; have zf5 := @hXX; have zf6 := @hgx; have zf7 := @f1; have zf8 := @f2; refine XG ?_; clear zf1 zf2 zf3 zf4 zf5 zf6 zf7 zf8; ((try (repeat' with_reducible refine And.intro ?_ ?_)); (try any_goals (first | refine zm ?_ | exact CL | fail))))
        (refine xw_ifp (fun h5 => ?_) (fun h5 => ?_) <;> try exact h5.elim)
        (refine XG ?_; ((try (repeat' with_reducible refine And.intro ?_ ?_)); (try any_goals (first | refine zm ?_ | exact CL | fail))))
        exact ⟨k + 1, by omega, To.sel (by (refine XG ?_; ((try (repeat' with_reducible refine And.intro ?_ ?_)); (try any_goals (first | refine zm ?_ | exact CL | fail))))) fun b => rfl, by omega⟩
      · have hky : k - X.length < Y.length := by omega
        rw [List.getElem_append_right (by omega)] at hv
        have hcy := ints_cut Y (k - X.length) hky
        have hgy := ints_getL Y (k - X.length) hky
        rw [← hv, show k - X.length = ((k : Int) - (X.length : Int)).toNat by omega] at hcy hgy
        have f1 : decide ((k : Int) < (X.length : Int)) = false := decide_eq_false (by omega)
        have f2 : decide ((X.length : Int) ≤ (k : Int)) = true := decide_eq_true (by omega)
        (have zf1 := @hcutk; have zf2 := @hXY; have zf3 := @hgk; have zf4 := @hcy; have zf5 := @hYY; have zf6 := @hgy; have zf7 := @f1; have zf8 := @f2; refine XG ?_; clear zf1 zf2 zf3 zf4 zf5 zf6 zf7 zf8; ((try (repeat' with_reducible refine And.intro ?_ ?_)); (try any_goals (first | refine zm ?_ | exact CL | fail))))
        (refine xw_ifp (fun h5 => ?_) (fun h5 => ?_) <;> try exact h5.elim)
        (refine XG ?_; ((try (repeat' with_reducible refine And.intro ?_ ?_)); (try any_goals (first | refine zm ?_ | exact CL | fail))))
        exact ⟨k + 1, by omega, To.sel (by (refine XG ?_; ((try (repeat' with_reducible refine And.intro ?_ ?_)); (try any_goals (first | refine zm ?_ | exact CL | fail))))) fun b => rfl, by omega⟩
    · (refine XG ?_; ((try (repeat' with_reducible refine And.intro ?_ ?_)); (try any_goals (first | refine zm ?_ | exact CL | fail))))
      refine pr_gdL (v := false) (ex := []) hma hFc (fun b hb => List.mem_range.1 hb) ?_ rfl (WT.HLb hwa2.wf) (by simp [nmOk]) ?_
      · (have zf1 := @cArgs_f; have zf2 := @ht1; refine XG ?_; clear zf1 zf2; ((try (repeat' with_reducible refine And.intro ?_ ?_)); (try any_goals (first | refine zm ?_ | exact CL | fail))))
      unfold gxL
      (refine XG ?_; ((try (repeat' with_reducible refine And.intro ?_ ?_)); (try any_goals (first | refine zm ?_ | exact CL | fail))))
      refine pr_gdR (v := false) (ex := []) hmb hFd (fun b hb => List.mem_range.1 hb) ?_ rfl (WT.HLb hwb3.wf) (by simp [nmOk]) ?_
      · (have zf1 := @cArgs_f; have zf2 := @hs2; refine XG ?_; clear zf1 zf2; ((try (repeat' with_reducible refine And.intro ?_ ?_)); (try any_goals (first | refine zm ?_ | exact CL | fail))))
      unfold gxSt
      (refine XG ?_; ((try (repeat' with_reducible refine And.intro ?_ ?_)); (try any_goals (first | refine zm ?_ | exact CL | fail))))
end Go.Proofs.Ytphaicaobepimaa
