/- What the reference's ReadLog reads. No conditions but the ones that stand in each. -/
import Derived.Test.YtglkiaiipkdkbaaDoorRo
namespace Go.Proofs.YtglkiaiipkdkbaaDoor
set_option linter.all false
set_option linter.unusedSimpArgs false
open Go.RowKit

theorem numR2 (gl : Nat → AV) (s : List UInt8) (k : Nat) : PS Tryd.prog gl 28 [.str ((s.drop k).take 2)] (.int .i64 (n2 s k)) := numberOf_ps gl _ (by rw [List.length_take]; omega)
theorem numR4 (gl : Nat → AV) (s : List UInt8) (k : Nat) : PS Tryd.prog gl 28 [.str ((s.drop k).take 4)] (.int .i64 (n4 s k)) := numberOf_ps gl _ (by rw [List.length_take]; omega)
theorem n2_take (s : List UInt8) (N k : Nat) (h : k + 2 ≤ N) : n2 (s.take N) k = n2 s k := by
  unfold n2; rw [List.drop_take, List.take_take, Nat.min_eq_left (by omega)]
theorem n4_take (s : List UInt8) (N k : Nat) (h : k + 4 ≤ N) : n4 (s.take N) k = n4 s k := by
  unfold n4; rw [List.drop_take, List.take_take, Nat.min_eq_left (by omega)]
theorem drop_0 (s : List UInt8) : s.drop 0 = s := rfl
set_option maxHeartbeats 4000000 in
set_option maxRecDepth 20000 in
theorem ReadLog_ps (gl : Nat → AV) (s0 : List UInt8) (hl : s0.length ≤ 140737488355328) : PS Tryd.prog gl 19 [.str s0] (rdAV (rdLog s0)) := by
  refine ft_ReadLog.ps (of_decide_eq_true rfl) (rdAV_nm _ _) fun c hN hg => ?_
  unfold T_ReadLog
  generalize hR : rdLog s0 = R
  (refine XG ?_; ((try (repeat' with_reducible refine And.intro ?_ ?_)); (try any_goals (first | refine zm ?_ | exact CL | fail))))
  refine loop_nil 4 5 rfl rfl ?_
  refine loop_rule (fun x : RdI => rdLogF x.f x.l x.k x.s = R ∧ x.s.length ≤ x.f ∧ x.l.length * 21 + x.s.length ≤ s0.length) (fun x => ⟨[(0, .str x.s), (4, .sl 5 0 0 x.l.length x.l.length), (5, .bool x.k)], [(0, .cells (evs5 x.l))], 1⟩) (fun x => x.s.length) ft_ReadLog.mixed hN
    ⟨⟨s0.length, [], false, s0⟩, ⟨hR, Nat.le_refl _, by simp⟩, [], by (have zf1 := @St.named.eq_1; refine XG ?_; clear zf1; ((try (repeat' with_reducible refine And.intro ?_ ?_)); (try any_goals (first | refine zm ?_ | exact CL | fail)))); exact rfl⟩ fun ⟨f, l, k, s⟩ hI => ?_
  obtain ⟨he, hf, hb⟩ := id hI
  clear hI
  dsimp only at he hf hb
  have hel := evs5_len l
  (refine XG ?_; ((try (repeat' with_reducible refine And.intro ?_ ?_)); (try any_goals (first | refine zm ?_ | exact CL | fail))))
  (refine xw_ifp (fun h1 => ?_) (fun h1 => ?_) <;> try exact h1.elim)
  rotate_left
  · have : s = [] := List.eq_nil_of_length_eq_zero (by omega)
    subst this
    rw [rf_nil] at he
    subst he
    (have zf1 := @hel; refine XG ?_; clear zf1; ((try (repeat' with_reducible refine And.intro ?_ ?_)); (try any_goals (first | refine zm ?_ | exact CL | fail))))
    rfl
  have h1 : ¬ s = [] := fun e => by subst e; exact absurd h1 (by decide)
  have hsp : 0 < s.length := List.length_pos_iff.2 h1
  obtain ⟨f, rfl⟩ : ∃ j, f = j + 1 := ⟨f - 1, by omega⟩
  by_cases h16 : s.length < 16
  · rw [rf1 h1 fun h => by have := h.1; omega] at he
    subst he
    have d1 : decide ((s.length : Int) < 16) = true := by simp; omega
    (have zf1 := @d1; refine XG ?_; clear zf1; ((try (repeat' with_reducible refine And.intro ?_ ?_)); (try any_goals (first | refine zm ?_ | exact CL | fail))))
    ((first | apply pr_skip | apply prD_skip) <;> (have zf1 := @d1; refine XG ?_; clear zf1; first | exact rfl | exact True.intro | ((try (repeat' with_reducible refine And.intro ?_ ?_)); (try any_goals (first | refine zm ?_ | exact CL | fail)))))
    ((first | apply pr_skip | apply prD_skip) <;> (have zf1 := @d1; refine XG ?_; clear zf1; first | exact rfl | exact True.intro | ((try (repeat' with_reducible refine And.intro ?_ ?_)); (try any_goals (first | refine zm ?_ | exact CL | fail)))))
    ((first | apply pr_skip | apply prD_skip) <;> (have zf1 := @d1; refine XG ?_; clear zf1; first | exact rfl | exact True.intro | ((try (repeat' with_reducible refine And.intro ?_ ?_)); (try any_goals (first | refine zm ?_ | exact CL | fail)))))
    ((first | apply pr_skip | apply prD_skip) <;> (have zf1 := @d1; refine XG ?_; clear zf1; first | exact rfl | exact True.intro | ((try (repeat' with_reducible refine And.intro ?_ ?_)); (try any_goals (first | refine zm ?_ | exact CL | fail)))))
    (refine xw_ifp (fun g1 => ?_) (fun g1 => ?_) <;> try exact g1.elim)
    (refine XG ?_; ((try (repeat' with_reducible refine And.intro ?_ ?_)); (try any_goals (first | refine zm ?_ | exact CL | fail))))
    rfl
  have hN0 := n2_bd s 2 (by omega)
  have hNv : n2 s 2 = ((msgN s : Nat) : Int) := by unfold msgN; omega
  have hq4 := n4_bd s 4 (by omega)
  have hq8 := n4_bd s 8 (by omega)
  have d1 : decide ((s.length : Int) < 16) = false := by simp; omega
  have r2 := numR2 c.gl s 2
  rw [hNv] at r2
  (have zf1 := @d1; refine XG ?_; clear zf1; ((try (repeat' with_reducible refine And.intro ?_ ?_)); (try any_goals (first | refine zm ?_ | exact CL | fail))))
  ((first | apply pr_psv | apply prD_psv | apply pr_qrunv | apply prD_qrunv) <;> (first | exact (numR2 c.gl s 0) | (have zf1 := @d1; have zf2 := @drop_0; refine XG ?_; clear zf1 zf2; first | exact rfl | exact True.intro | ((try (repeat' with_reducible refine And.intro ?_ ?_)); (try any_goals (first | refine zm ?_ | exact CL | fail))))))
  ((first | apply pr_psv | apply prD_psv | apply pr_qrunv | apply prD_qrunv) <;> (first | exact r2 | (have zf1 := @d1; have zf2 := @drop_0; refine XG ?_; clear zf1 zf2; first | exact rfl | exact True.intro | ((try (repeat' with_reducible refine And.intro ?_ ?_)); (try any_goals (first | refine zm ?_ | exact CL | fail))))))
  ((first | apply pr_psv | apply prD_psv | apply pr_qrunv | apply prD_qrunv) <;> (first | exact r2 | (have zf1 := @d1; have zf2 := @drop_0; refine XG ?_; clear zf1 zf2; first | exact rfl | exact True.intro | ((try (repeat' with_reducible refine And.intro ?_ ?_)); (try any_goals (first | refine zm ?_ | exact CL | fail))))))
  ((first | apply pr_psv | apply prD_psv | apply pr_qrunv | apply prD_qrunv) <;> (first | exact (numR4 c.gl s 12) | (have zf1 := @d1; have zf2 := @drop_0; refine XG ?_; clear zf1 zf2; first | exact rfl | exact True.intro | ((try (repeat' with_reducible refine And.intro ?_ ?_)); (try any_goals (first | refine zm ?_ | exact CL | fail))))))
  (refine xw_ifp (fun h2 => ?_) (fun h2 => ?_) <;> try exact h2.elim)
  · rw [rf1 h1 fun h => by obtain ⟨_, a2, a3, a4, a5⟩ := h; omega] at he
    subst he
    (refine XG ?_; ((try (repeat' with_reducible refine And.intro ?_ ?_)); (try any_goals (first | refine zm ?_ | exact CL | fail))))
    rfl
  have hd : hdOk s := ⟨by omega, by omega, by omega, by omega, by omega⟩
  have hs2 := n2_bd s 16 (by omega)
  have hs3 := n2_bd s 18 (by omega)
  have m16 := n2_take s (msgN s) 16 (by omega)
  have m18 := n2_take s (msgN s) 18 (by omega)
  have m8 := n4_take s (msgN s) 8 (by omega)
  have m4 := n4_take s (msgN s) 4 (by omega)
  have hml : (s.take (msgN s)).length = msgN s := by rw [List.length_take]; omega
  have x5 := fun hs => @rf5 f l k s h1 hd hs
  have x4 := fun hs => @rf4 f l k s h1 hd hs
  have x8 := fun hs => @rf8 f l k s h1 hd hs
  generalize hm : s.take (msgN s) = m at *
  have X5 := Lib.hid x5
  have X4 := Lib.hid x4
  have X8 := Lib.hid x8
  clear x5 x4 x8
  have q16 := numR2 c.gl m 16
  have q18 := numR2 c.gl m 18
  have q8 := numR4 c.gl m 8
  have q4 := numR4 c.gl m 4
  rw [m16] at q16
  rw [m18] at q18
  rw [m8] at q8
  rw [m4] at q4
  (refine XG ?_; ((try (repeat' with_reducible refine And.intro ?_ ?_)); (try any_goals (first | refine zm ?_ | exact CL | fail))))
  ((first | apply pr_psv | apply prD_psv | apply pr_qrunv | apply prD_qrunv) <;> (first | exact r2 | (have zf1 := @hm; have zf2 := @Nat.sub_zero; refine XG ?_; clear zf1 zf2; first | exact rfl | exact True.intro | ((try (repeat' with_reducible refine And.intro ?_ ?_)); (try any_goals (first | refine zm ?_ | exact CL | fail))))))
  ((first | apply pr_psv | apply prD_psv | apply pr_qrunv | apply prD_qrunv) <;> (first | exact q16 | (have zf1 := @hm; have zf2 := @hml; refine XG ?_; clear zf1 zf2; first | exact rfl | exact True.intro | ((try (repeat' with_reducible refine And.intro ?_ ?_)); (try any_goals (first | refine zm ?_ | exact CL | fail))))))
  ((first | apply pr_psv | apply prD_psv | apply pr_qrunv | apply prD_qrunv) <;> (first | exact q18 | (have zf1 := @hm; have zf2 := @hml; refine XG ?_; clear zf1 zf2; first | exact rfl | exact True.intro | ((try (repeat' with_reducible refine And.intro ?_ ?_)); (try any_goals (first | refine zm ?_ | exact CL | fail))))))
  (refine xw_ifp (fun h3 => ?_) (fun h3 => ?_) <;> try exact h3.elim)
  · rw [rf2 h1 hd fun h => by obtain ⟨a2, a3⟩ := h; omega] at he
    subst he
    (refine XG ?_; ((try (repeat' with_reducible refine And.intro ?_ ?_)); (try any_goals (first | refine zm ?_ | exact CL | fail))))
    rfl
  have hs : setOk s := ⟨by omega, by omega⟩
  (have zf1 := @hml; refine XG ?_; clear zf1; ((try (repeat' with_reducible refine And.intro ?_ ?_)); (try any_goals (first | refine zm ?_ | exact CL | fail))))
  ((first | apply pr_psv | apply prD_psv | apply pr_qrunv | apply prD_qrunv) <;> (first | exact q8 | (have zf1 := @hel; have zf2 := @hml; refine XG ?_; clear zf1 zf2; first | exact rfl | exact True.intro | ((try (repeat' with_reducible refine And.intro ?_ ?_)); (try any_goals (first | refine zm ?_ | exact CL | fail))))))
  (refine xw_ifp (fun h4 => ?_) (fun h4 => ?_) <;> try exact h4.elim)
  · rw [rf3 h1 hd hs h4] at he
    subst he
    (refine XG ?_; ((try (repeat' with_reducible refine And.intro ?_ ?_)); (try any_goals (first | refine zm ?_ | exact CL | fail))))
    rfl
  (refine XG ?_; ((try (repeat' with_reducible refine And.intro ?_ ?_)); (try any_goals (first | refine zm ?_ | exact CL | fail))))
  (refine xw_ifp (fun h5 => ?_) (fun h5 => ?_) <;> try exact h5.elim)
  · have ht := TemplateR_ps c.gl l.length
    have e4 : msgT l.length 0 2 (tmpl 6) = .tup [.str (msgB l.length 0 2 (tmpl 6)), .int .i64 0] := if_pos (by omega)
    rw [e4] at ht
    (refine XG ?_; ((try (repeat' with_reducible refine And.intro ?_ ?_)); (try any_goals (first | refine zm ?_ | exact CL | fail))))
    ((first | apply pr_psv | apply prD_psv | apply pr_qrunv | apply prD_qrunv) <;> (first | exact ht | (refine XG ?_; first | exact rfl | exact True.intro | ((try (repeat' with_reducible refine And.intro ?_ ?_)); (try any_goals (first | refine zm ?_ | exact CL | fail))))))
    (refine xw_ifp (fun h6 => ?_) (fun h6 => ?_) <;> try exact h6.elim)
    · rw [X4.out hs h4 h5 fun e => h6 e.symm] at he
      subst he
      (refine XG ?_; ((try (repeat' with_reducible refine And.intro ?_ ?_)); (try any_goals (first | refine zm ?_ | exact CL | fail))))
      rfl
    · rw [X5.out hs h4 h5 h6.symm] at he
      (refine XG ?_; ((try (repeat' with_reducible refine And.intro ?_ ?_)); (try any_goals (first | refine zm ?_ | exact CL | fail))))
      refine ⟨⟨f, l, true, s.drop (msgN s)⟩, ⟨he, ?_, ?_⟩, ⟨[], ?_⟩, ?_⟩
      · dsimp only; rw [List.length_drop]; omega
      · dsimp only; rw [List.length_drop]; omega
      · (refine XG ?_; ((try (repeat' with_reducible refine And.intro ?_ ?_)); (try any_goals (first | refine zm ?_ | exact CL | fail))))
      · dsimp only; rw [List.length_drop]; omega
  (refine XG ?_; ((try (repeat' with_reducible refine And.intro ?_ ?_)); (try any_goals (first | refine zm ?_ | exact CL | fail))))
  (refine xw_ifp (fun h7 => ?_) (fun h7 => ?_) <;> try exact h7.elim)
  · rw [rf6 h1 hd hs h4 h5 h7] at he
    subst he
    (refine XG ?_; ((try (repeat' with_reducible refine And.intro ?_ ?_)); (try any_goals (first | refine zm ?_ | exact CL | fail))))
    rfl
  have h7 : k = true := by simpa using h7
  have etm := tmod_n (msgN s) (by omega)
  (refine XG ?_; ((try (repeat' with_reducible refine And.intro ?_ ?_)); (try any_goals (first | refine zm ?_ | exact CL | fail))))
  have h20 : 20 ≤ msgN s := by omega
  have hsl : msgN s ≤ s.length := by omega
  by_cases h8 : msgN s = 20 ∨ (msgN s - 20) % 21 ≠ 0
  · rw [rf7 h1 hd hs h4 h5 h7 h8] at he
    subst he
    (refine xw_ifp (fun h9 => ?_) (fun h9 => ?_) <;> try exact h9.elim)
    · (refine XG ?_; ((try (repeat' with_reducible refine And.intro ?_ ?_)); (try any_goals (first | refine zm ?_ | exact CL | fail))))
      rfl
    · rw [etm] at h9
      omega
  rw [X8.out hs h4 h5 h7 h8] at he
  clear X8 X5 X4
  (refine xw_ifp (fun h9 => ?_) (fun h9 => ?_) <;> try exact h9.elim)
  · rw [etm] at h9
    omega
  (refine XG ?_; ((try (repeat' with_reducible refine And.intro ?_ ?_)); (try any_goals (first | refine zm ?_ | exact CL | fail))))
  have hbl : (m.drop 20).length = 21 * ((msgN s - 20) / 21) := by rw [List.length_drop]; omega
  generalize hM : (msgN s - 20) / 21 = M at *
  generalize hV : rdEvs (n4 s 4) M l (m.drop 20) = V at *
  refine loop_rule (fun x : EvI => rdEvs (n4 s 4) x.m x.l x.b = V ∧ x.b.length = 21 * x.m ∧ x.l.length + x.m ≤ l.length + M ∧ x.b = m.drop (msgN s - x.b.length)) (fun x => ⟨[(0, .str (s.drop (msgN s))), (4, .sl 5 0 0 x.l.length x.l.length), (5, .bool true), (6, .int .i64 (msgN s)), (7, .str m), (11, .int .i64 ((msgN s - x.b.length : Nat) : Int))], [(0, .cells (evs5 x.l))], 1⟩) (fun x => x.m) ft_ReadLog.mixed hN
    ⟨⟨M, l, m.drop 20⟩, ⟨hV, hbl, Nat.le_refl _, ?_⟩, [], ?_⟩ fun ⟨m', l', b⟩ hJ => ?_
  · dsimp only
    rw [List.length_drop, hml, show msgN s - (msgN s - 20) = 20 by omega]
  · have e20 : ((msgN s - (m.drop 20).length : Nat) : Int) = 20 := by rw [List.length_drop]; omega
    (have zf1 := @hel; have zf2 := @h7; have zf3 := @e20; refine XG ?_; clear zf1 zf2 zf3; ((try (repeat' with_reducible refine And.intro ?_ ?_)); (try any_goals (first | refine zm ?_ | exact CL | fail))))
  obtain ⟨hv, hbm, hll, hbe⟩ := id hJ
  clear hJ
  dsimp only at hv hbm hll hbe
  have hel' := evs5_len l'
  (refine XG ?_; ((try (repeat' with_reducible refine And.intro ?_ ?_)); (try any_goals (first | refine zm ?_ | exact CL | fail))))
  (refine xw_ifp (fun h10 => ?_) (fun h10 => ?_) <;> try exact h10.elim)
  · have hbp : 0 < b.length := by omega
    obtain ⟨m', rfl⟩ : ∃ j, m' = j + 1 := ⟨m' - 1, by omega⟩
    have hcut : ((m.drop (msgN s - b.length)).take 21) = b.take 21 := by rw [← hbe]
    have hre := readEvent_ps c.gl (b.take 21) (by rw [List.length_take]; omega)
    rw [rdEv_take b (by omega)] at hre
    rw [rdEvs] at hv
    clear hV etm
    generalize hA : msgN s - b.length = A at *
    have hbl2 : b.length = msgN s - A := by
      have := congrArg List.length hbe
      rwa [List.length_drop, hml] at this
    have eA : ((A : Int) + 21).toNat = A + 21 := by omega
    have eB : A + 21 - A = 21 := by omega
    cases hrd : rdEv b with
    | none =>
      rw [hrd] at hre hv
      dsimp only at hv
      subst hv
      dsimp only at he
      subst he
      unfold evTupB evZ at hre
      (refine XG ?_; ((try (repeat' with_reducible refine And.intro ?_ ?_)); (try any_goals (first | refine zm ?_ | exact CL | fail))))
      ((first | apply pr_psv | apply prD_psv | apply pr_qrunv | apply prD_qrunv) <;> (first | exact hre | (have zf1 := @eA; have zf2 := @eB; have zf3 := @hcut; refine XG ?_; clear zf1 zf2 zf3; first | exact rfl | exact True.intro | ((try (repeat' with_reducible refine And.intro ?_ ?_)); (try any_goals (first | refine zm ?_ | exact CL | fail))))))
      ((first | apply pr_skip | apply prD_skip) <;> (refine XG ?_; first | exact rfl | exact True.intro | ((try (repeat' with_reducible refine And.intro ?_ ?_)); (try any_goals (first | refine zm ?_ | exact CL | fail)))))
      (refine xw_ifp (fun g1 => ?_) (fun g1 => ?_) <;> try exact g1.elim)
      (refine XG ?_; ((try (repeat' with_reducible refine And.intro ?_ ?_)); (try any_goals (first | refine zm ?_ | exact CL | fail))))
      rfl
    | some e =>
      rw [hrd] at hre hv
      have hgd := rdEv_good hrd
      obtain ⟨t, sb, a, bk, fr⟩ := e
      obtain ⟨t0, t1, s0', s1, a0, a1, k0, k1⟩ := hgd
      dsimp only at hv t0 t1 s0' s1 a0 a1 k0 k1
      unfold evTupB Ev.enc at hre
      dsimp only at hre
      have etm2 : t.tmod 4294967296 = t % 4294967296 := Int.tmod_eq_emod_of_nonneg t0
      (refine XG ?_; ((try (repeat' with_reducible refine And.intro ?_ ?_)); (try any_goals (first | refine zm ?_ | exact CL | fail))))
      ((first | apply pr_psv | apply prD_psv | apply pr_qrunv | apply prD_qrunv) <;> (first | exact hre | (have zf1 := @eA; have zf2 := @eB; have zf3 := @hcut; have zf4 := @etm2; have zf5 := @hml; refine XG ?_; clear zf1 zf2 zf3 zf4 zf5; first | exact rfl | exact True.intro | ((try (repeat' with_reducible refine And.intro ?_ ?_)); (try any_goals (first | refine zm ?_ | exact CL | fail))))))
      by_cases hl0 : l' = []
      · have e6 : decide (0 < (l'.length : Int)) = false := by subst hl0; rfl
        ((first | apply pr_psv | apply prD_psv | apply pr_qrunv | apply prD_qrunv) <;> (first | exact q4 | (have zf1 := @etm2; have zf2 := @e6; refine XG ?_; clear zf1 zf2; first | exact rfl | exact True.intro | ((try (repeat' with_reducible refine And.intro ?_ ?_)); (try any_goals (first | refine zm ?_ | exact CL | fail))))))
        (refine xw_ifp (fun g2 => ?_) (fun g2 => ?_) <;> try exact g2.elim)
        · have hcnd : ¬ (t % 4294967296 = n4 s 4 ∧ (l' = [] ∨ lastT l' ≤ t)) := fun h => by
            have := h.1; omega
          rw [if_neg hcnd] at hv
          subst hv
          dsimp only at he
          subst he
          (refine XG ?_; ((try (repeat' with_reducible refine And.intro ?_ ?_)); (try any_goals (first | refine zm ?_ | exact CL | fail))))
          rfl
        · have hcnd : (t % 4294967296 = n4 s 4 ∧ (l' = [] ∨ lastT l' ≤ t)) := ⟨by omega, .inl hl0⟩
          rw [if_pos hcnd] at hv
          (refine XG ?_; ((try (repeat' with_reducible refine And.intro ?_ ?_)); (try any_goals (first | refine zm ?_ | exact CL | fail))))
          ((first | apply pr_app | apply prD_app | apply pr_bsl | apply prD_bsl | apply pr_s2b | apply prD_s2b); (refine XG ?_; ((try (repeat' with_reducible refine And.intro ?_ ?_)); (try any_goals (first | refine zm ?_ | exact CL | fail)))))
          ((first | apply pr_app | apply prD_app | apply pr_bsl | apply prD_bsl | apply pr_s2b | apply prD_s2b); (have zf1 := @hel'; refine XG ?_; clear zf1; ((try (repeat' with_reducible refine And.intro ?_ ?_)); (try any_goals (first | refine zm ?_ | exact CL | fail)))))
          have hbd : (b.drop 21).length = b.length - 21 := List.length_drop
          have hA2 : msgN s - (b.length - 21) = A + 21 := by omega
          refine ⟨⟨m', l' ++ [(⟨t, sb, a, bk, fr⟩ : Ev)], b.drop 21⟩, ⟨hv, ?_, ?_, ?_⟩, ⟨[(0, 3)], ?_⟩, ?_⟩
          · dsimp only; omega
          · dsimp only; rw [List.length_append]; simp only [List.length_cons, List.length_nil]; omega
          · dsimp only
            rw [hbd, hA2, ← List.drop_drop, ← hbe]
          · have hsn := evs5_snoc l' t sb a bk fr
            have hln : (l' ++ [(⟨t, sb, a, bk, fr⟩ : Ev)]).length = l'.length + 1 := by simp
            have hA3 : ((A + 21 : Nat) : Int) = (A : Int) + 21 := by omega
            (have zf1 := @hsn; have zf2 := @hln; have zf3 := @hbd; have zf4 := @hA2; have zf5 := @hA3; refine XG ?_; clear zf1 zf2 zf3 zf4 zf5; ((try (repeat' with_reducible refine And.intro ?_ ?_)); (try any_goals (first | refine zm ?_ | exact CL | fail))))
          · dsimp only; omega
      · have hlast := evs5_last l' hl0
        have hlp : 0 < l'.length := List.length_pos_iff.2 hl0
        have e5 : ((l'.length : Int) - 1).toNat = l'.length - 1 := by omega
        have e6 : decide (0 < (l'.length : Int)) = true := by simp; omega
        ((first | apply pr_psv | apply prD_psv | apply pr_qrunv | apply prD_qrunv) <;> (first | exact q4 | (have zf1 := @etm2; have zf2 := @hlast; have zf3 := @e5; have zf4 := @e6; refine XG ?_; clear zf1 zf2 zf3 zf4; first | exact rfl | exact True.intro | ((try (repeat' with_reducible refine And.intro ?_ ?_)); (try any_goals (first | refine zm ?_ | exact CL | fail))))))
        (refine xw_ifp (fun g2 => ?_) (fun g2 => ?_) <;> try exact g2.elim)
        · have hcnd : ¬ (t % 4294967296 = n4 s 4 ∧ (l' = [] ∨ lastT l' ≤ t)) := fun h => by
            rcases h with ⟨q1, q2 | q2⟩
            · exact hl0 q2
            · omega
          rw [if_neg hcnd] at hv
          subst hv
          dsimp only at he
          subst he
          (refine XG ?_; ((try (repeat' with_reducible refine And.intro ?_ ?_)); (try any_goals (first | refine zm ?_ | exact CL | fail))))
          rfl
        · have hcnd : (t % 4294967296 = n4 s 4 ∧ (l' = [] ∨ lastT l' ≤ t)) := ⟨by omega, .inr (by omega)⟩
          rw [if_pos hcnd] at hv
          (refine XG ?_; ((try (repeat' with_reducible refine And.intro ?_ ?_)); (try any_goals (first | refine zm ?_ | exact CL | fail))))
          ((first | apply pr_app | apply prD_app | apply pr_bsl | apply prD_bsl | apply pr_s2b | apply prD_s2b); (refine XG ?_; ((try (repeat' with_reducible refine And.intro ?_ ?_)); (try any_goals (first | refine zm ?_ | exact CL | fail)))))
          ((first | apply pr_app | apply prD_app | apply pr_bsl | apply prD_bsl | apply pr_s2b | apply prD_s2b); (have zf1 := @hel'; refine XG ?_; clear zf1; ((try (repeat' with_reducible refine And.intro ?_ ?_)); (try any_goals (first | refine zm ?_ | exact CL | fail)))))
          have hbd : (b.drop 21).length = b.length - 21 := List.length_drop
          have hA2 : msgN s - (b.length - 21) = A + 21 := by omega
          refine ⟨⟨m', l' ++ [(⟨t, sb, a, bk, fr⟩ : Ev)], b.drop 21⟩, ⟨hv, ?_, ?_, ?_⟩, ⟨[(0, 3)], ?_⟩, ?_⟩
          · dsimp only; omega
          · dsimp only; rw [List.length_append]; simp only [List.length_cons, List.length_nil]; omega
          · dsimp only
            rw [hbd, hA2, ← List.drop_drop, ← hbe]
          · have hsn := evs5_snoc l' t sb a bk fr
            have hln : (l' ++ [(⟨t, sb, a, bk, fr⟩ : Ev)]).length = l'.length + 1 := by simp
            have hA3 : ((A + 21 : Nat) : Int) = (A : Int) + 21 := by omega
            (have zf1 := @hsn; have zf2 := @hln; have zf3 := @hbd; have zf4 := @hA2; have zf5 := @hA3; refine XG ?_; clear zf1 zf2 zf3 zf4 zf5; ((try (repeat' with_reducible refine And.intro ?_ ?_)); (try any_goals (first | refine zm ?_ | exact CL | fail))))
          · dsimp only; omega
  · have hb0 : b.length = 0 := by omega
    have hm0 : m' = 0 := by omega
    subst hm0
    rw [rdEvs] at hv
    subst hv
    dsimp only at he
    (refine XG ?_; ((try (repeat' with_reducible refine And.intro ?_ ?_)); (try any_goals (first | refine zm ?_ | exact CL | fail))))
    refine ⟨⟨f, l', k, s.drop (msgN s)⟩, ⟨he, ?_, ?_⟩, ⟨[], ?_⟩, ?_⟩
    · dsimp only; rw [List.length_drop]; omega
    · dsimp only; rw [List.length_drop]; omega
    · (have zf1 := @h7; refine XG ?_; clear zf1; ((try (repeat' with_reducible refine And.intro ?_ ?_)); (try any_goals (first | refine zm ?_ | exact CL | fail))))
    · dsimp only; rw [List.length_drop]; omega
end Go.Proofs.YtglkiaiipkdkbaaDoor
