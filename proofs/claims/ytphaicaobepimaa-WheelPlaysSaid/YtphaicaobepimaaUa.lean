/- WheelPlays: the walk. No conditions but the ones that stand in each. -/
import Derived.Test.YtphaicaobepimaaVz
namespace Go.Proofs.Ytphaicaobepimaa
set_option linter.all false
set_option linter.unusedSimpArgs false
open Go.RowKit

set_option maxHeartbeats 4000000 in
set_option maxRecDepth 20000 in
theorem WheelPlays_ps (gl : Nat → AV) (z : Int) (cnt : Nat) (L : List Int) (hz : inI z) (hL : ∀ x ∈ L, inI x) (hcl : L.length = cnt * 3) (hcn : cnt ≤ 140737488351232) : PS Try.prog gl 12 [.int .i64 z, .isl cnt (ints L)] (.bool true) := by
  refine ft_wPlays.ps (of_decide_eq_true rfl) (by simp [nmOk]) fun c hN hg => ?_
  unfold T_wPlays
  by_cases hbad : z < 0 ∨ 1099511627776 < z
  · (refine XG ?_; ((try (repeat' with_reducible refine And.intro ?_ ?_)); (try any_goals (first | refine zm ?_ | exact CL | fail))))
    ((first | apply pr_psv | apply prD_psv | apply pr_qrunv | apply prD_qrunv) <;> (first | exact (wNew_bad c.gl z hbad) | (refine XG ?_; first | exact rfl | exact True.intro | ((try (repeat' with_reducible refine And.intro ?_ ?_)); (try any_goals (first | refine zm ?_ | exact CL | fail))))))
    (refine XG ?_; ((try (repeat' with_reducible refine And.intro ?_ ?_)); (try any_goals (first | refine zm ?_ | exact CL | fail))))
    (refine xw_ifp (fun h1 => ?_) (fun h1 => ?_) <;> try exact h1.elim)
    · (refine XG ?_; ((try (repeat' with_reducible refine And.intro ?_ ?_)); (try any_goals (first | refine zm ?_ | exact CL | fail))))
      ((first | apply pr_psv | apply prD_psv | apply pr_qrunv | apply prD_qrunv) <;> (first | exact (lturns_ps c.gl) | (refine XG ?_; first | exact rfl | exact True.intro | ((try (repeat' with_reducible refine And.intro ?_ ?_)); (try any_goals (first | refine zm ?_ | exact CL | fail))))))
    · omega
  obtain ⟨a, rfl⟩ : ∃ k : Nat, z = k := ⟨z.toNat, by omega⟩
  have hnew := wNewW_gs c.gl a (by omega)
  have hw0 := emptyT_WI a (by omega)
  have hwf0 := hw0.wf
  have hHL0 := WT.HLb hwf0
  have hLl := ints_len L
  (refine XG ?_; ((try (repeat' with_reducible refine And.intro ?_ ?_)); (try any_goals (first | refine zm ?_ | exact CL | fail))))
  refine pr_gnew hnew hHL0 ?_ (by simp) ?_
  · (refine XG ?_; ((try (repeat' with_reducible refine And.intro ?_ ?_)); (try any_goals (first | refine zm ?_ | exact CL | fail))))
  dsimp only [List.nil_append]
  generalize emptyT a (.mapb [] true) = T0 at *
  have hH0 := whHi hwf0 (σ := fun b => b) (m := 67) fun b hb => hb
  (refine XG ?_; ((try (repeat' with_reducible refine And.intro ?_ ?_)); (try any_goals (first | refine zm ?_ | exact CL | fail))))
  (refine xw_ifp (fun h1 => ?_) (fun h1 => ?_) <;> try exact h1.elim)
  · omega
  (refine XG ?_; ((try (repeat' with_reducible refine And.intro ?_ ?_)); (try any_goals (first | refine zm ?_ | exact CL | fail))))
  (refine xw_ifp (fun h2 => ?_) (fun h2 => ?_) <;> try exact h2.elim)
  (have zf1 := @hH0; refine XG ?_; clear zf1; ((try (repeat' with_reducible refine And.intro ?_ ?_)); (try any_goals (first | refine zm ?_ | exact CL | fail))))
  have hF0 : Fm [] (fun b => 67 + b) (rwH a []) 2 (fun b => b) T0.hb 67 69 := ⟨fun b b' _ _ e => e, fun b hb => by omega, hHL0, fun b b' _ _ e => by omega, fun b hb => by omega, rwH_HL a [], fun b hb b' hb' e => by omega, fun q hq => by cases hq⟩
  refine loop_ruleS (fun y : Nat × PlW => PlK y.2 ∧ y.1 ≤ cnt ∧ y.1 ≤ 120 ∧ y.2.t = [(1, .isl cnt (ints L)), (5, .ptr 0 0), (7, .ptr 67 0), (8, .int .i64 y.1)])
    (fun y => y.2.st) (fun y => 120 - y.1) ft_wPlays.mixed [] (by rw [hN]; simp)
    ⟨(0, ⟨[(1, .isl cnt (ints L)), (5, .ptr 0 0), (7, .ptr 67 0), (8, .int .i64 (0 : Nat))], [], fun b => 67 + b, fun b => b, T0, a, [], 69⟩), ⟨⟨hw0, hF0, rfl, rfl⟩, by simp, by simp, rfl⟩, ?_⟩ fun y hy => ?_
  · refine To.trans (To.nilB (b := 67) (j := 1) (es := 2) rfl rfl (by (have zf1 := @hH0; refine XG ?_; clear zf1; ((try (repeat' with_reducible refine And.intro ?_ ?_)); (try any_goals (first | refine zm ?_ | exact CL | fail)))))) (To.sel (by (refine XG ?_; ((try (repeat' with_reducible refine And.intro ?_ ?_)); (try any_goals (first | refine zm ?_ | exact CL | fail))))) fun b => ?_)
    rw [renH_rw]
    show lookb ((67 + 0, _) :: (67 + 1, _) :: renH (fun b => b) T0.hb) 69 b = lookb ((67, _) :: (68, _) :: (67, _) :: renH (fun b => b) T0.hb) 69 b
    simp only [lookb_cons]
    (repeat' split) <;> first | rfl | omega
  obtain ⟨i, y⟩ := y
  obtain ⟨hk, hic, hi1, hyt⟩ := hy
  dsimp only at hk hic hi1 hyt ⊢
  obtain ⟨t, ex, τ, σ, T, a1, D, n⟩ := y
  dsimp only at hyt
  subst hyt
  unfold PlW.st
  dsimp only
  have hF := hk.fm
  dsimp only at hF
  have hn67 : 67 < n := by have := hF.l2 0 (by decide); have h := hk.t0; dsimp only at h; omega
  (refine XG ?_; ((try (repeat' with_reducible refine And.intro ?_ ?_)); (try any_goals (first | refine zm ?_ | exact CL | fail))))
  (refine xw_ifp (fun h3 => ?_) (fun h3 => ?_) <;> try exact h3.elim)
  · have hin : i < cnt := by omega
    obtain ⟨K, id, N, hcut, hKi, hidi, hNi⟩ := ints_cut3 L i (by omega)
    replace hKi := hL _ hKi
    replace hidi := hL _ hidi
    replace hNi := hL _ hNi
    unfold inI at hKi hidi hNi
    have hfr := hF.fresh
    have hcut2 : ints ((L.drop (i * 3)).take 3) = [.int .i64 K, .int .i64 id, .int .i64 N] := by
      rw [← hcut]; unfold ints; rw [List.map_take, List.map_drop]
    (have zf1 := @hcut2; have zf2 := @hLl; have zf3 := @hcl; have zf4 := @hfr; refine XG ?_; clear zf1 zf2 zf3 zf4; ((try (repeat' with_reducible refine And.intro ?_ ?_)); (try any_goals (first | refine zm ?_ | exact CL | fail))))
    have hF1 : Fm ((n, .cells [.int .i64 K, .int .i64 id, .int .i64 N]) :: (n, .cells [.int .i64 0, .int .i64 0, .int .i64 0]) :: ex) τ (rwH a1 D) 2 σ T.hb 67 (n + 1) :=
      ⟨hF.i1, fun b hb => by have := hF.l1 b hb; omega, hF.hl1, hF.i2, fun b hb => by have := hF.l2 b hb; omega, hF.hl2, hF.dis, fun q hq => by
        have hnew : n < n + 1 ∧ offS σ 67 n ∧ offS τ 2 n := ⟨by omega, fun b hb e => by have := hF.l1 b hb; omega, fun b hb e => by have := hF.l2 b hb; omega⟩
        rcases List.mem_cons.1 hq with rfl | hq
        · exact hnew
        rcases List.mem_cons.1 hq with rfl | hq
        · exact hnew
        · have := hF.ex q hq; exact ⟨by omega, this.2⟩⟩
    refine cut3 (fun y => PlX cnt i L n K id N y) PlW.st (fun y hx => ?_) fun Q' hQ' => ?_
    · clear hF1 hF hk hfr hwf0 hHL0 hw0 hnew hF0 hH0 hcut hcut2
      obtain ⟨t, ex1, τ, σ, T, a1, D, n⟩ := y
      obtain ⟨⟨hwi, hF, ht0, hs0⟩, g1, g5, g7, g8, g9, hxm, hX⟩ := hx
      unfold PlW.st
      dsimp only at *
      have hdue := hwi.due_gd c.gl id
      have hdue' := rwDue_gd c.gl a1 D (Nat.le_trans hwi.cap (by decide)) id
      have hnow := hwi.now_gd c.gl
      have hmany := hwi.many_gd c.gl
      have hHL1 := WT.HLb hwi.wf
      have hHL2 := rwH_HL a1 D
      have hFa := hF.stepR (List.range 67) hHL1
      have hs1 : sgx σ (List.range 67) n 0 = 0 := by rw [sgx_in (by simp)]; exact hs0
      have in2 : ∀ b ∈ [0, 1], b < 2 := by decide
      (have zf1 := @g5; have zf2 := @g9; have zf3 := @hX; refine XG ?_; clear zf1 zf2 zf3; ((try (repeat' with_reducible refine And.intro ?_ ?_)); (try any_goals (first | refine zm ?_ | exact CL | fail))))
      refine pr_gdR (v := false) (ex := ex1) hdue hF (fun b hb => List.mem_range.1 hb) ?_ rfl hHL1 (by simp [nmOk, nmAll]) ?_
      · (have zf1 := @cArgs_f; have zf2 := @hs0; refine XG ?_; clear zf1 zf2; ((try (repeat' with_reducible refine And.intro ?_ ?_)); (try any_goals (first | refine zm ?_ | exact CL | fail))))
      unfold gxSt
      rw [ren_flat (by simp [nmOk, nmAll])]
      generalize sgx σ (List.range 67) n = σ1 at *
      have hFb := hFa.stepL [0, 1] hHL2
      (have zf1 := @g7; have zf2 := @g9; have zf3 := @hX; refine XG ?_; clear zf1 zf2 zf3; ((try (repeat' with_reducible refine And.intro ?_ ?_)); (try any_goals (first | refine zm ?_ | exact CL | fail))))
      refine pr_gdL (v := false) (ex := ex1) hdue' hFa in2 ?_ rfl hHL2 (by simp [nmOk, nmAll]) ?_
      · (have zf1 := @cArgs_f; have zf2 := @ht0; refine XG ?_; clear zf1 zf2; ((try (repeat' with_reducible refine And.intro ?_ ?_)); (try any_goals (first | refine zm ?_ | exact CL | fail))))
      unfold gxL
      rw [ren_flat (by simp [nmOk, nmAll])]
      have ht1 : sgx τ [0, 1] (n + 67) 0 = 67 := by rw [sgx_in (by simp)]; exact ht0
      have hn1 : 67 < n + 67 + 2 := by omega
      clear hFa hF hdue hdue'
      generalize sgx τ [0, 1] (n + 67) = τ1 at *
      generalize n + 67 + 2 = n1 at *
      have hlk := look_rw hFb ht1
      have hFc := hFb.stepR (List.range 67) hHL1
      have hs2 : sgx σ1 (List.range 67) n1 0 = 0 := by rw [sgx_in (by simp)]; exact hs1
      have hr1 : offS σ1 67 67 := fun b hb e => hFb.dis b hb 0 (by decide) (by rw [ht1]; exact e)
      (have zf1 := @g5; have zf2 := @g7; refine XG ?_; clear zf1 zf2; ((try (repeat' with_reducible refine And.intro ?_ ?_)); (try any_goals (first | refine zm ?_ | exact CL | fail))))
      refine prD_gdRG (v := false) (ex := ex1) hnow hFb (fun b hb => List.mem_range.1 hb) ?_ ?_ rfl hHL1 (by simp [nmOk]) ?_
      · (refine XG ?_; ((try (repeat' with_reducible refine And.intro ?_ ?_)); (try any_goals (first | refine zm ?_ | exact CL | fail))))
      · (have zf1 := @cArgs_f; have zf2 := @hs1; refine XG ?_; clear zf1 zf2; ((try (repeat' with_reducible refine And.intro ?_ ?_)); (try any_goals (first | refine zm ?_ | exact CL | fail))))
      unfold gxSt
      rw [ren_flat (by simp [nmOk])]
      generalize sgx σ1 (List.range 67) n1 = σ2 at *
      (have zf1 := @g5; have zf2 := @g7; have zf3 := @hlk; refine XG ?_; clear zf1 zf2 zf3; ((try (repeat' with_reducible refine And.intro ?_ ?_)); (try any_goals (first | refine zm ?_ | exact CL | fail))))
      refine prD_gdRG (v := false) (ex := ex1) hmany hFc (fun b hb => List.mem_range.1 hb) ?_ ?_ rfl hHL1 (by simp [nmOk]) ?_
      · (refine XG ?_; ((try (repeat' with_reducible refine And.intro ?_ ?_)); (try any_goals (first | refine zm ?_ | exact CL | fail))))
      · (have zf1 := @cArgs_f; have zf2 := @hs2; refine XG ?_; clear zf1 zf2; ((try (repeat' with_reducible refine And.intro ?_ ?_)); (try any_goals (first | refine zm ?_ | exact CL | fail))))
      unfold gxSt
      rw [ren_flat (by simp [nmOk])]
      have hFd := hFc.stepR (List.range 67) hHL1
      have hs3 : sgx σ2 (List.range 67) (n1 + 67) 0 = 0 := by rw [sgx_in (by simp)]; exact hs2
      generalize sgx σ2 (List.range 67) (n1 + 67) = σ3 at *
      have hr2 : offS σ2 67 67 := fun b hb e => hFc.dis b hb 0 (by decide) (by rw [ht1]; exact e)
      (have zf1 := @g5; have zf2 := @g7; have zf3 := @hlk; refine XG ?_; clear zf1 zf2 zf3; ((try (repeat' with_reducible refine And.intro ?_ ?_)); (try any_goals (first | refine zm ?_ | exact CL | fail))))
      · have hg1 := gxN_ne hr1 hn1
        have hg2 := gxN_ne (n := n1 + 67) hr2 (by omega)
        have hq : offS σ1 67 (τ1 1) := fun b hb e => hFb.dis b hb 1 (by decide) e
        have hq2 : offS σ2 67 (τ1 1) := fun b hb e => hFc.dis b hb 1 (by decide) e
        have hql := hFb.l2 1 (by decide)
        have hg3 := gxN_ne hq hql
        have hg4 := gxN_ne (n := n1 + 67) hq2 (by omega)
        generalize gxN σ1 67 n1 = G1 at *
        generalize gxN σ2 67 (n1 + 67) = G2 at *
        simp [drawOk, clashAll, clash]
        (repeat' refine And.intro ?_ ?_) <;> first | decide | exact hg1 | exact hg2 | exact hg3 | exact hg4 | exact Or.inl hg1 | exact Or.inl hg2 | exact Or.inl hg3 | exact Or.inl hg4 | (right; decide)
      (refine xw_ifp (fun h4 => ?_) (fun h4 => ?_) <;> try exact h4.elim)
      (have zf1 := @g8; refine XG ?_; clear zf1; ((try (repeat' with_reducible refine And.intro ?_ ?_)); (try any_goals (first | refine zm ?_ | exact CL | fail))))
      refine ⟨(i + 1, ⟨[(1, .isl cnt (ints L)), (5, .ptr 0 0), (7, .ptr 67 0), (8, .int .i64 (i + 1 : Nat))], ex1, τ1, σ3, T, a1, D, n1 + 67 + 67⟩), ⟨⟨hwi, hFd, ht1, hs3⟩, by dsimp only; omega, by dsimp only; omega, rfl⟩, To.sel (by (have zf1 := @g1; have zf2 := @g5; have zf3 := @g7; have zf4 := @g8; refine XG ?_; clear zf1 zf2 zf3 zf4; ((try (repeat' with_reducible refine And.intro ?_ ?_)); (try any_goals (first | refine zm ?_ | exact CL | fail))))) fun b => rfl, by dsimp only; omega⟩
    have hX : ∀ A B n', lookb (((n, Bk.cells [.int .i64 K, .int .i64 id, .int .i64 N]) :: (n, .cells [.int .i64 0, .int .i64 0, .int .i64 0]) :: ex) ++ A ++ B) n' n = .cells [.int .i64 K, .int .i64 id, .int .i64 N] := fun A B n' => by
      show lookb ((n, _) :: _) n' n = _
      rw [lookb_cons, if_pos rfl]
    have hxm : ∃ q ∈ ((n, Bk.cells [.int .i64 K, .int .i64 id, .int .i64 N]) :: (n, .cells [.int .i64 0, .int .i64 0, .int .i64 0]) :: ex), q.1 = n := ⟨_, List.mem_cons_self, rfl⟩
    show xw _ _ _ _ (⟨_, (((n, Bk.cells [.int .i64 K, .int .i64 id, .int .i64 N]) :: (n, .cells [.int .i64 0, .int .i64 0, .int .i64 0]) :: ex) ++ renH τ (rwH a1 D)) ++ renH σ T.hb, n + 1⟩ : St)
    generalize ((n, Bk.cells [.int .i64 K, .int .i64 id, .int .i64 N]) :: (n, .cells [.int .i64 0, .int .i64 0, .int .i64 0]) :: ex) = ex1 at *
    have ht0 := hk.t0
    have hs0 := hk.s0
    have hwi := hk.wi
    dsimp only at ht0 hs0 hwi
    clear hF hk hH0 hHL0 hwf0 hw0 hnew hF0
    have hoX : offS σ 67 n ∧ offS τ 2 n ∧ n < n + 1 := by
      obtain ⟨q0, hq0, e⟩ := hxm
      have := hF1.ex q0 hq0
      rw [e] at this
      exact ⟨this.2.1, this.2.2, this.1⟩
    have hr67 : offS σ 67 67 := fun b hb e => hF1.dis b hb 0 (by decide) (by rw [ht0]; exact e)
    replace hn67 : 67 < n + 1 := by omega
    generalize hn1 : n + 1 = n1 at *
    generalize n = kx at *
    obtain ⟨hoX1, hoX2, hoX3⟩ := hoX
    (refine xw_ifp (fun h4 => ?_) (fun h4 => ?_) <;> try exact h4.elim)
    · obtain ⟨T2, hw2, harm⟩ := hwi.arm_gd c.gl id N
      have harm' := rwArm_gd c.gl a1 D hwi.cap id N hwi.hi
      generalize armR a1 D id N = R at *
      obtain ⟨e, D2⟩ := R
      dsimp only at hw2 harm harm'
      have hFa := hF1.stepR [0, 1] (WT.HLb hw2.wf)
      have hFb := hFa.stepL [0] (rwH_HL a1 D2)
      (have zf1 := @hX; refine XG ?_; clear zf1; ((try (repeat' with_reducible refine And.intro ?_ ?_)); (try any_goals (first | refine zm ?_ | exact CL | fail))))
      refine prD_gdR (v := false) (ex := ex1) harm hF1 (fun b => in01) ?_ rfl (WT.HLb hw2.wf) (by simp [nmOk]) ?_
      · (have zf1 := @cArgs_f; have zf2 := @hs0; refine XG ?_; clear zf1 zf2; ((try (repeat' with_reducible refine And.intro ?_ ?_)); (try any_goals (first | refine zm ?_ | exact CL | fail))))
      unfold gxSt
      rw [ren_flat (by simp [nmOk])]
      (have zf1 := @hX; refine XG ?_; clear zf1; ((try (repeat' with_reducible refine And.intro ?_ ?_)); (try any_goals (first | refine zm ?_ | exact CL | fail))))
      refine prD_gdL (v := false) (ex := ex1) harm' hFa (by simp) ?_ rfl (rwH_HL a1 D2) (by simp [nmOk]) ?_
      · (have zf1 := @cArgs_f; have zf2 := @ht0; refine XG ?_; clear zf1 zf2; ((try (repeat' with_reducible refine And.intro ?_ ?_)); (try any_goals (first | refine zm ?_ | exact CL | fail))))
      unfold gxL
      rw [ren_flat (by simp [nmOk])]
      (refine XG ?_; ((try (repeat' with_reducible refine And.intro ?_ ?_)); (try any_goals (first | refine zm ?_ | exact CL | fail))))
      · have hg1 := gxN_ne hoX1 hoX3
        have hg2 := gxN_ne (n := n1 + 67) hoX2 (by omega)
        have hg3 := gxN_ne hr67 hn67
        generalize gxN σ 67 n1 = G1 at *
        generalize gxN τ 2 (n1 + 67) = G2 at *
        simp [drawOk, clashAll, clash]
        (repeat' refine And.intro ?_ ?_) <;> first | decide | exact hg1 | exact hg2 | exact hg3 | exact Or.inl hg1 | exact Or.inl hg2 | exact Or.inl hg3 | (right; decide)
      (refine xw_ifp (fun h5 => ?_) (fun h5 => ?_) <;> try exact h5.elim)
      (refine XG ?_; ((try (repeat' with_reducible refine And.intro ?_ ?_)); (try any_goals (first | refine zm ?_ | exact CL | fail))))
      exact hQ' ⟨_, ex1, sgx τ [0] (n1 + 67), sgx σ [0, 1] n1, T2, a1, D2, n1 + 67 + 2⟩ ⟨⟨hw2, hFb, by dsimp only; rw [sgx_in (by simp)]; exact ht0, by dsimp only; rw [sgx_in (by simp)]; exact hs0⟩, rfl, rfl, rfl, rfl, rfl, hxm, hX⟩
    (refine XG ?_; ((try (repeat' with_reducible refine And.intro ?_ ?_)); (try any_goals (first | refine zm ?_ | exact CL | fail))))
    (refine xw_ifp (fun h5 => ?_) (fun h5 => ?_) <;> try exact h5.elim)
    · obtain ⟨T2, hw2, harm⟩ := hwi.cancel_gd c.gl id
      have harm' := rwCancel_gd c.gl a1 D (Nat.le_trans hwi.cap (by decide)) id
      generalize cnlE D id = e at *
      generalize offT id D = D2 at *
      have hFa := hF1.stepR [0, 1] (WT.HLb hw2.wf)
      have hFb := hFa.stepL [0] (rwH_HL a1 D2)
      (have zf1 := @hX; refine XG ?_; clear zf1; ((try (repeat' with_reducible refine And.intro ?_ ?_)); (try any_goals (first | refine zm ?_ | exact CL | fail))))
      refine prD_gdR (v := false) (ex := ex1) harm hF1 (fun b => in01) ?_ rfl (WT.HLb hw2.wf) (by simp [nmOk]) ?_
      · (have zf1 := @cArgs_f; have zf2 := @hs0; refine XG ?_; clear zf1 zf2; ((try (repeat' with_reducible refine And.intro ?_ ?_)); (try any_goals (first | refine zm ?_ | exact CL | fail))))
      unfold gxSt
      rw [ren_flat (by simp [nmOk])]
      (have zf1 := @hX; refine XG ?_; clear zf1; ((try (repeat' with_reducible refine And.intro ?_ ?_)); (try any_goals (first | refine zm ?_ | exact CL | fail))))
      refine prD_gdL (v := false) (ex := ex1) harm' hFa (by simp) ?_ rfl (rwH_HL a1 D2) (by simp [nmOk]) ?_
      · (have zf1 := @cArgs_f; have zf2 := @ht0; refine XG ?_; clear zf1 zf2; ((try (repeat' with_reducible refine And.intro ?_ ?_)); (try any_goals (first | refine zm ?_ | exact CL | fail))))
      unfold gxL
      rw [ren_flat (by simp [nmOk])]
      (refine XG ?_; ((try (repeat' with_reducible refine And.intro ?_ ?_)); (try any_goals (first | refine zm ?_ | exact CL | fail))))
      · have hg1 := gxN_ne hoX1 hoX3
        have hg2 := gxN_ne (n := n1 + 67) hoX2 (by omega)
        have hg3 := gxN_ne hr67 hn67
        generalize gxN σ 67 n1 = G1 at *
        generalize gxN τ 2 (n1 + 67) = G2 at *
        simp [drawOk, clashAll, clash]
        (repeat' refine And.intro ?_ ?_) <;> first | decide | exact hg1 | exact hg2 | exact hg3 | exact Or.inl hg1 | exact Or.inl hg2 | exact Or.inl hg3 | (right; decide)
      (refine xw_ifp (fun h6 => ?_) (fun h6 => ?_) <;> try exact h6.elim)
      (refine XG ?_; ((try (repeat' with_reducible refine And.intro ?_ ?_)); (try any_goals (first | refine zm ?_ | exact CL | fail))))
      exact hQ' ⟨_, ex1, sgx τ [0] (n1 + 67), sgx σ [0, 1] n1, T2, a1, D2, n1 + 67 + 2⟩ ⟨⟨hw2, hFb, by dsimp only; rw [sgx_in (by simp)]; exact ht0, by dsimp only; rw [sgx_in (by simp)]; exact hs0⟩, rfl, rfl, rfl, rfl, rfl, hxm, hX⟩
    have hlk := look_rw hF1 ht0
    (have zf1 := @hX; refine XG ?_; clear zf1; ((try (repeat' with_reducible refine And.intro ?_ ?_)); (try any_goals (first | refine zm ?_ | exact CL | fail))))
    refine cut3 (fun y : List (Nat × AV) × Int => look y.1 1 = .isl cnt (ints L) ∧ look y.1 5 = .ptr 0 0 ∧ look y.1 7 = .ptr 67 0 ∧ look y.1 8 = .int .i64 i ∧ look y.1 9 = .ptr kx 0 ∧ look y.1 10 = .int .i64 y.2)
      (fun y => ⟨y.1, (ex1 ++ renH τ (rwH a1 D)) ++ renH σ T.hb, n1⟩) (fun y hy => ?_) fun Q2 hQ2 => ?_
    · obtain ⟨t, to⟩ := y
      obtain ⟨g1, g5, g7, g8, g9, g10⟩ := hy
      dsimp only at g1 g5 g7 g8 g9 g10 ⊢
      obtain ⟨T2, hw2, hadv⟩ := hwi.adv_gd c.gl to
      have hadv' := rwAdv_gd c.gl a1 D hwi.cap hwi.hi to
      have hlen : (advR a1 D to).2.1.length ≤ D.length := advR_len
      have hcap := hwi.cap
      generalize advR a1 D to = R at *
      obtain ⟨e, O, a2, D2⟩ := R
      dsimp only at hw2 hadv hadv' hlen
      have hFa := hF1.stepR [0, 1] (WT.HLb hw2.wf)
      have hFb := hFa.stepL [0] (rwH_HL a2 D2)
      have ht1 : sgx τ [0] (n1 + 67) 0 = 67 := by rw [sgx_in (by simp)]; exact ht0
      have hs1 : sgx σ [0, 1] n1 0 = 0 := by rw [sgx_in (by simp)]; exact hs0
      have hOl := ints_len O
      (have zf1 := @g5; have zf2 := @g10; refine XG ?_; clear zf1 zf2; ((try (repeat' with_reducible refine And.intro ?_ ?_)); (try any_goals (first | refine zm ?_ | exact CL | fail))))
      refine pr_gdR (v := false) (ex := ex1) hadv hF1 (fun b => in01) ?_ rfl (WT.HLb hw2.wf) (by simp [nmOk, nmAll, ints_nm]) ?_
      · (have zf1 := @cArgs_f; have zf2 := @hs0; refine XG ?_; clear zf1 zf2; ((try (repeat' with_reducible refine And.intro ?_ ?_)); (try any_goals (first | refine zm ?_ | exact CL | fail))))
      unfold gxSt
      rw [ren_flat (by simp [nmOk, nmAll, ints_nm])]
      (have zf1 := @g7; have zf2 := @g10; refine XG ?_; clear zf1 zf2; ((try (repeat' with_reducible refine And.intro ?_ ?_)); (try any_goals (first | refine zm ?_ | exact CL | fail))))
      refine pr_gdL (v := false) (ex := ex1) hadv' hFa (by simp) ?_ rfl (rwH_HL a2 D2) (by simp [nmOk, nmAll, ints_nm]) ?_
      · (have zf1 := @cArgs_f; have zf2 := @ht0; refine XG ?_; clear zf1 zf2; ((try (repeat' with_reducible refine And.intro ?_ ?_)); (try any_goals (first | refine zm ?_ | exact CL | fail))))
      unfold gxL
      rw [ren_flat (by simp [nmOk, nmAll, ints_nm])]
      (refine XG ?_; ((try (repeat' with_reducible refine And.intro ?_ ?_)); (try any_goals (first | refine zm ?_ | exact CL | fail))))
      (refine xw_ifp (fun h6 => ?_) (fun h6 => ?_) <;> try exact h6.elim)
      generalize sgx τ [0] (n1 + 67) = τ' at *
      generalize sgx σ [0, 1] n1 = σ' at *
      generalize n1 + 67 + 2 = n2 at *
      (have zf1 := @hOl; refine XG ?_; clear zf1; ((try (repeat' with_reducible refine And.intro ?_ ?_)); (try any_goals (first | refine zm ?_ | exact CL | fail))))
      refine loop_ruleS (fun k : Nat => k ≤ O.length) (fun k => ⟨[(1, .isl cnt (ints L)), (5, .ptr 0 0), (7, .ptr 67 0), (8, .int .i64 i), (9, .ptr kx 0), (11, .isl O.length (ints O)), (13, .isl O.length (ints O)), (112, .int .i64 O.length), (113, .int .i64 k)], (ex1 ++ renH τ' (rwH a2 D2)) ++ renH σ' T2.hb, n2⟩) (fun k => O.length - k) ft_wPlays.mixed [] (by rw [hN]; simp)
        ⟨0, by omega, To.sel (by (have zf1 := @g1; have zf2 := @g5; have zf3 := @g7; have zf4 := @g8; have zf5 := @g9; refine XG ?_; clear zf1 zf2 zf3 zf4 zf5; ((try (repeat' with_reducible refine And.intro ?_ ?_)); (try any_goals (first | refine zm ?_ | exact CL | fail))))) fun b => rfl⟩ fun k hk => ?_
      (refine XG ?_; ((try (repeat' with_reducible refine And.intro ?_ ?_)); (try any_goals (first | refine zm ?_ | exact CL | fail))))
      (refine xw_ifp (fun h7 => ?_) (fun h7 => ?_) <;> try exact h7.elim)
      · have hkl : k < O.length := by omega
        have hcutk := ints_cut O k hkl
        have hgk := ints_getL O k hkl
        (have zf1 := @hcutk; have zf2 := @hgk; have zf3 := @hOl; refine XG ?_; clear zf1 zf2 zf3; ((try (repeat' with_reducible refine And.intro ?_ ?_)); (try any_goals (first | refine zm ?_ | exact CL | fail))))
        (refine xw_ifp (fun h8 => ?_) (fun h8 => ?_) <;> try exact h8.elim)
        (refine XG ?_; ((try (repeat' with_reducible refine And.intro ?_ ?_)); (try any_goals (first | refine zm ?_ | exact CL | fail))))
        exact ⟨k + 1, by omega, To.sel (by (refine XG ?_; ((try (repeat' with_reducible refine And.intro ?_ ?_)); (try any_goals (first | refine zm ?_ | exact CL | fail))))) fun b => rfl, by omega⟩
      · (refine XG ?_; ((try (repeat' with_reducible refine And.intro ?_ ?_)); (try any_goals (first | refine zm ?_ | exact CL | fail))))
        exact hQ' ⟨_, ex1, τ', σ', T2, a2, D2, n2⟩ ⟨⟨hw2, hFb, ht1, hs1⟩, rfl, rfl, rfl, rfl, rfl, hxm, hX⟩
    · (refine xw_ifp (fun h6 => ?_) (fun h6 => ?_) <;> try exact h6.elim)
      · have hhi := hwi.hi
        (have zf1 := @hX; have zf2 := @hlk; refine XG ?_; clear zf1 zf2; ((try (repeat' with_reducible refine And.intro ?_ ?_)); (try any_goals (first | refine zm ?_ | exact CL | fail))))
        · simp [drawOk, clashAll, clash]; decide
        refine hQ2 ⟨_, (a1 : Int) + N⟩ ⟨rfl, rfl, rfl, rfl, rfl, ?_⟩
        (refine XG ?_; ((try (repeat' with_reducible refine And.intro ?_ ?_)); (try any_goals (first | refine zm ?_ | exact CL | fail))))
      · (refine XG ?_; ((try (repeat' with_reducible refine And.intro ?_ ?_)); (try any_goals (first | refine zm ?_ | exact CL | fail))))
        exact hQ2 ⟨_, N⟩ ⟨rfl, rfl, rfl, rfl, rfl, rfl⟩
  · (refine XG ?_; ((try (repeat' with_reducible refine And.intro ?_ ?_)); (try any_goals (first | refine zm ?_ | exact CL | fail))))
    ((first | apply pr_psv | apply prD_psv | apply pr_qrunv | apply prD_qrunv) <;> (first | exact (lturns_ps c.gl) | (refine XG ?_; first | exact rfl | exact True.intro | ((try (repeat' with_reducible refine And.intro ?_ ?_)); (try any_goals (first | refine zm ?_ | exact CL | fail))))))
end Go.Proofs.Ytphaicaobepimaa
