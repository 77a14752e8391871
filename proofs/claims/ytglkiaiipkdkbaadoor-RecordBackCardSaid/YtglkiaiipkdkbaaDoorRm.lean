/- What record.Read reads. No conditions but the ones that stand in each. -/
import Derived.Test.YtglkiaiipkdkbaaDoorRj
import Derived.Test.YtglkiaiipkdkbaaDoorRl
import Derived.Test.YtglkiaiipkdkbaaDoorE5
namespace Go.Proofs.YtglkiaiipkdkbaaDoor
set_option linter.all false
set_option linter.unusedSimpArgs false
open Go.RowKit

theorem number_any (gl : Nat → AV) (l : List UInt8) (bad : Bool) (n : Nat) (h8 : n ≤ 1000) : ∃ (v : Int) (l' : List UInt8) (b' : Bool), l'.length = l.length - n ∧ (l.length < n ∨ bad = true → b' = true) ∧
    GS Tryd.prog gl 26 [.ptr 0 0, .int .i64 n] [(0, .cells [.str l, .bool bad])] 1 (.int .i64 v) [(0, .cells [.str l', .bool b'])] 1 := by
  by_cases h : l.length < n
  · exact ⟨_, _, _, by simp; omega, fun _ => rfl, number_bad gl l bad n h h8⟩
  · exact ⟨_, _, _, by rw [List.length_drop], fun h2 => h2.elim (fun h3 => (h h3).elim) id, number_ok gl l bad n (by omega) h8⟩
theorem rdEv_good {x : List UInt8} {e : Ev} (h : rdEv x = some e) : e.good := by
  unfold rdEv at h
  split at h
  · rename_i hok
    cases h
    exact (good_iff _).1 hok.2.2.2.2.2
  · cases h
theorem evs5_last (l : List Ev) (h : l ≠ []) : (evs5 l).getD ((l.length - 1) * 5) .any = .int .i64 (lastT l) := by
  have hp : 0 < l.length := List.length_pos_iff.2 h
  have := evs5_get l (l.length - 1) (by omega) 0 (by omega)
  rw [Nat.add_zero] at this
  rw [this]
  unfold lastT
  simp [Ev.enc, List.getD, show l.length - 1 < l.length by omega]
theorem tmod_n (N : Nat) (h : 20 ≤ N) : ((N : Int) - 20).tmod 21 = (((N - 20) % 21 : Nat) : Int) := by
  rw [Int.tmod_eq_emod_of_nonneg (by omega)]; omega
theorem evs5_snoc (l : List Ev) (t s a b : Int) (f : Bool) : evs5 l ++ [.int .i64 t, .int .i64 s, .int .i64 a, .int .i64 b, .bool f] = evs5 (l ++ [⟨t, s, a, b, f⟩]) := by
  simp [evs5, Ev.enc]
structure RdI where
  f : Nat
  l : List Ev
  k : Bool
  s : List UInt8
structure EvI where
  m : Nat
  l : List Ev
  b : List UInt8
set_option maxHeartbeats 4000000 in
set_option maxRecDepth 20000 in
theorem Read_ps (gl : Nat → AV) (h0 : gl 0 = .xp (ints fieldsL) 0) (s0 : List UInt8) (hl : s0.length ≤ 140737488355328) : PS Tryd.prog gl 18 [.str s0] (rdAV (rdLog s0)) := by
  refine ft_Read.ps (of_decide_eq_true rfl) (rdAV_nm _ _) fun c hN hg => ?_
  unfold T_Read
  have htm := fun q => Template_ps c.gl (by rw [hg]; exact h0) q
  generalize hR : rdLog s0 = R
  (refine XG ?_; ((try (repeat' with_reducible refine And.intro ?_ ?_)); (try any_goals (first | refine zm ?_ | exact CL | fail))))
  refine loop_nil 4 5 rfl rfl ?_
  refine loop_rule (fun x : RdI => rdLogF x.f x.l x.k x.s = R ∧ x.s.length ≤ x.f ∧ x.l.length * 21 + x.s.length ≤ s0.length) (fun x => ⟨[(0, .str x.s), (4, .sl 5 0 0 x.l.length x.l.length), (5, .bool x.k)], [(0, .cells (evs5 x.l))], 1⟩) (fun x => x.s.length) ft_Read.mixed hN
    ⟨⟨s0.length, [], false, s0⟩, ⟨hR, Nat.le_refl _, by simp⟩, [], by (have zf1 := @St.named.eq_1; refine XG ?_; clear zf1; ((try (repeat' with_reducible refine And.intro ?_ ?_)); (try any_goals (first | refine zm ?_ | exact CL | fail)))); exact rfl⟩ fun ⟨f, l, k, s⟩ ⟨he, hf, hb⟩ => ?_
  dsimp only at he hf hb
  have hel := evs5_len l
  (refine XG ?_; ((try (repeat' with_reducible refine And.intro ?_ ?_)); (try any_goals (first | refine zm ?_ | exact CL | fail))))
  (refine xw_ifp (fun h1 => ?_) (fun h1 => ?_) <;> try exact h1.elim)
  rotate_left
  · subst h1
    rw [rf_nil] at he
    subst he
    (have zf1 := @hel; refine XG ?_; clear zf1; ((try (repeat' with_reducible refine And.intro ?_ ?_)); (try any_goals (first | refine zm ?_ | exact CL | fail))))
    rfl
  have hsp : 0 < s.length := List.length_pos_iff.2 h1
  obtain ⟨f, rfl⟩ : ∃ j, f = j + 1 := ⟨f - 1, by omega⟩
  by_cases h16 : s.length < 16
  · rw [rf1 h1 fun h => by have := h.1; omega] at he
    subst he
    obtain ⟨v1, l1, b1, L1, q1, G1⟩ := number_any c.gl s false 2 (by decide)
    obtain ⟨v2, l2, b2, L2, q2, G2⟩ := number_any c.gl l1 b1 2 (by decide)
    obtain ⟨v3, l3, b3, L3, q3, G3⟩ := number_any c.gl l2 b2 4 (by decide)
    obtain ⟨v4, l4, b4, L4, q4, G4⟩ := number_any c.gl l3 b3 4 (by decide)
    obtain ⟨v5, l5, b5, L5, q5, G5⟩ := number_any c.gl l4 b4 4 (by decide)
    have hb5 : b5 = true := by
      rcases (show s.length < 2 ∨ l1.length < 2 ∨ l2.length < 4 ∨ l3.length < 4 ∨ l4.length < 4 by omega) with h | h | h | h | h
      · exact q5 (.inr (q4 (.inr (q3 (.inr (q2 (.inr (q1 (.inl h)))))))))
      · exact q5 (.inr (q4 (.inr (q3 (.inr (q2 (.inl h)))))))
      · exact q5 (.inr (q4 (.inr (q3 (.inl h)))))
      · exact q5 (.inr (q4 (.inl h)))
      · exact q5 (.inl h)
    subst hb5
    (refine XG ?_; ((try (repeat' with_reducible refine And.intro ?_ ?_)); (try any_goals (first | refine zm ?_ | exact CL | fail))))
    ((first | refine pr_gs (ins := [1]) G1 ?_ ?_ | refine prD_gs (ins := [1]) G1 ?_ ?_ | refine pr_gsv (ins := [1]) G1 ?_ ?_ | refine prD_gsv (ins := [1]) G1 ?_ ?_) <;> (refine XG ?_; (try first | exact rfl | exact True.intro); ((try (repeat' with_reducible refine And.intro ?_ ?_)); (try any_goals (first | refine zm ?_ | exact CL | fail)))))
    ((first | refine pr_gs (ins := [1]) G2 ?_ ?_ | refine prD_gs (ins := [1]) G2 ?_ ?_ | refine pr_gsv (ins := [1]) G2 ?_ ?_ | refine prD_gsv (ins := [1]) G2 ?_ ?_) <;> (refine XG ?_; (try first | exact rfl | exact True.intro); ((try (repeat' with_reducible refine And.intro ?_ ?_)); (try any_goals (first | refine zm ?_ | exact CL | fail)))))
    ((first | refine pr_gs (ins := [1]) G3 ?_ ?_ | refine prD_gs (ins := [1]) G3 ?_ ?_ | refine pr_gsv (ins := [1]) G3 ?_ ?_ | refine prD_gsv (ins := [1]) G3 ?_ ?_) <;> (refine XG ?_; (try first | exact rfl | exact True.intro); ((try (repeat' with_reducible refine And.intro ?_ ?_)); (try any_goals (first | refine zm ?_ | exact CL | fail)))))
    ((first | refine pr_gs (ins := [1]) G4 ?_ ?_ | refine prD_gs (ins := [1]) G4 ?_ ?_ | refine pr_gsv (ins := [1]) G4 ?_ ?_ | refine prD_gsv (ins := [1]) G4 ?_ ?_) <;> (refine XG ?_; (try first | exact rfl | exact True.intro); ((try (repeat' with_reducible refine And.intro ?_ ?_)); (try any_goals (first | refine zm ?_ | exact CL | fail)))))
    ((first | refine pr_gs (ins := [1]) G5 ?_ ?_ | refine prD_gs (ins := [1]) G5 ?_ ?_ | refine pr_gsv (ins := [1]) G5 ?_ ?_ | refine prD_gsv (ins := [1]) G5 ?_ ?_) <;> (refine XG ?_; (try first | exact rfl | exact True.intro); ((try (repeat' with_reducible refine And.intro ?_ ?_)); (try any_goals (first | refine zm ?_ | exact CL | fail)))))
    (refine xw_ifp (fun g1 => ?_) (fun g1 => ?_) <;> try exact g1.elim)
    (refine XG ?_; ((try (repeat' with_reducible refine And.intro ?_ ?_)); (try any_goals (first | refine zm ?_ | exact CL | fail))))
    rfl
  have hN0 := n2_bd s 2 (by omega)
  have hNv : n2 s 2 = ((msgN s : Nat) : Int) := by unfold msgN; omega
  have hq4 := n4_bd s 4 (by omega)
  have hq8 := n4_bd s 8 (by omega)
  have c1 := number_v c.gl s false 2 (n2 s 0) rfl (by omega) (by decide)
  have c2 := number_v c.gl (s.drop 2) false 2 (n2 s 2) rfl (by rw [List.length_drop]; omega) (by decide)
  have c3 := number_v c.gl (s.drop 4) false 4 (n4 s 4) rfl (by rw [List.length_drop]; omega) (by decide)
  have c4 := number_v c.gl (s.drop 8) false 4 (n4 s 8) rfl (by rw [List.length_drop]; omega) (by decide)
  have c5 := number_v c.gl (s.drop 12) false 4 (n4 s 12) rfl (by rw [List.length_drop]; omega) (by decide)
  rw [hNv] at c2
  (refine XG ?_; ((try (repeat' with_reducible refine And.intro ?_ ?_)); (try any_goals (first | refine zm ?_ | exact CL | fail))))
  ((first | refine pr_gs (ins := [1]) c1 ?_ ?_ | refine prD_gs (ins := [1]) c1 ?_ ?_ | refine pr_gsv (ins := [1]) c1 ?_ ?_ | refine prD_gsv (ins := [1]) c1 ?_ ?_) <;> (have zf1 := @List.drop_drop.{0}; refine XG ?_; clear zf1; (try first | exact rfl | exact True.intro); ((try (repeat' with_reducible refine And.intro ?_ ?_)); (try any_goals (first | refine zm ?_ | exact CL | fail)))))
  ((first | refine pr_gs (ins := [1]) c2 ?_ ?_ | refine prD_gs (ins := [1]) c2 ?_ ?_ | refine pr_gsv (ins := [1]) c2 ?_ ?_ | refine prD_gsv (ins := [1]) c2 ?_ ?_) <;> (have zf1 := @List.drop_drop.{0}; refine XG ?_; clear zf1; (try first | exact rfl | exact True.intro); ((try (repeat' with_reducible refine And.intro ?_ ?_)); (try any_goals (first | refine zm ?_ | exact CL | fail)))))
  ((first | refine pr_gs (ins := [1]) c3 ?_ ?_ | refine prD_gs (ins := [1]) c3 ?_ ?_ | refine pr_gsv (ins := [1]) c3 ?_ ?_ | refine prD_gsv (ins := [1]) c3 ?_ ?_) <;> (have zf1 := @List.drop_drop.{0}; refine XG ?_; clear zf1; (try first | exact rfl | exact True.intro); ((try (repeat' with_reducible refine And.intro ?_ ?_)); (try any_goals (first | refine zm ?_ | exact CL | fail)))))
  ((first | refine pr_gs (ins := [1]) c4 ?_ ?_ | refine prD_gs (ins := [1]) c4 ?_ ?_ | refine pr_gsv (ins := [1]) c4 ?_ ?_ | refine prD_gsv (ins := [1]) c4 ?_ ?_) <;> (have zf1 := @List.drop_drop.{0}; refine XG ?_; clear zf1; (try first | exact rfl | exact True.intro); ((try (repeat' with_reducible refine And.intro ?_ ?_)); (try any_goals (first | refine zm ?_ | exact CL | fail)))))
  ((first | refine pr_gs (ins := [1]) c5 ?_ ?_ | refine prD_gs (ins := [1]) c5 ?_ ?_ | refine pr_gsv (ins := [1]) c5 ?_ ?_ | refine prD_gsv (ins := [1]) c5 ?_ ?_) <;> (have zf1 := @List.drop_drop.{0}; refine XG ?_; clear zf1; (try first | exact rfl | exact True.intro); ((try (repeat' with_reducible refine And.intro ?_ ?_)); (try any_goals (first | refine zm ?_ | exact CL | fail)))))
  clear c1 c2 c3 c4 c5
  (refine xw_ifp (fun h2 => ?_) (fun h2 => ?_) <;> try exact h2.elim)
  · rw [rf1 h1 fun h => by obtain ⟨_, a2, a3, a4, a5⟩ := h; omega] at he
    subst he
    (refine XG ?_; ((try (repeat' with_reducible refine And.intro ?_ ?_)); (try any_goals (first | refine zm ?_ | exact CL | fail))))
    rfl
  have hd : hdOk s := ⟨by omega, by omega, by omega, by omega, by omega⟩
  have hs2 := n2_bd s 16 (by omega)
  have hs3 := n2_bd s 18 (by omega)
  have c6 := number_v c.gl (s.drop 16) false 2 (n2 s 16) rfl (by rw [List.length_drop]; omega) (by decide)
  have c7 := number_v c.gl (s.drop 18) false 2 (n2 s 18) rfl (by rw [List.length_drop]; omega) (by decide)
  (refine XG ?_; ((try (repeat' with_reducible refine And.intro ?_ ?_)); (try any_goals (first | refine zm ?_ | exact CL | fail))))
  ((first | refine pr_gs (ins := [1]) c6 ?_ ?_ | refine prD_gs (ins := [1]) c6 ?_ ?_ | refine pr_gsv (ins := [1]) c6 ?_ ?_ | refine prD_gsv (ins := [1]) c6 ?_ ?_) <;> (have zf1 := @List.drop_drop.{0}; refine XG ?_; clear zf1; (try first | exact rfl | exact True.intro); ((try (repeat' with_reducible refine And.intro ?_ ?_)); (try any_goals (first | refine zm ?_ | exact CL | fail)))))
  ((first | refine pr_gs (ins := [1]) c7 ?_ ?_ | refine prD_gs (ins := [1]) c7 ?_ ?_ | refine pr_gsv (ins := [1]) c7 ?_ ?_ | refine prD_gsv (ins := [1]) c7 ?_ ?_) <;> (have zf1 := @List.drop_drop.{0}; refine XG ?_; clear zf1; (try first | exact rfl | exact True.intro); ((try (repeat' with_reducible refine And.intro ?_ ?_)); (try any_goals (first | refine zm ?_ | exact CL | fail)))))
  clear c6 c7
  (refine xw_ifp (fun h3 => ?_) (fun h3 => ?_) <;> try exact h3.elim)
  · rw [rf2 h1 hd fun h => by obtain ⟨a2, a3⟩ := h; omega] at he
    subst he
    (refine XG ?_; ((try (repeat' with_reducible refine And.intro ?_ ?_)); (try any_goals (first | refine zm ?_ | exact CL | fail))))
    rfl
  have hs : setOk s := ⟨by omega, by omega⟩
  (have zf1 := @hel; refine XG ?_; clear zf1; ((try (repeat' with_reducible refine And.intro ?_ ?_)); (try any_goals (first | refine zm ?_ | exact CL | fail))))
  (refine xw_ifp (fun h4 => ?_) (fun h4 => ?_) <;> try exact h4.elim)
  · rw [rf3 h1 hd hs h4] at he
    subst he
    (refine XG ?_; ((try (repeat' with_reducible refine And.intro ?_ ?_)); (try any_goals (first | refine zm ?_ | exact CL | fail))))
    rfl
  (refine XG ?_; ((try (repeat' with_reducible refine And.intro ?_ ?_)); (try any_goals (first | refine zm ?_ | exact CL | fail))))
  (refine xw_ifp (fun h5 => ?_) (fun h5 => ?_) <;> try exact h5.elim)
  · have ht := htm (n4 s 8)
    have e4 : msgT (n4 s 8) 0 2 (tmpl 6) = .tup [.str (msgB l.length 0 2 (tmpl 6)), .int .i64 0] := by rw [h4]; exact if_pos (by omega)
    rw [e4] at ht
    have hml : (msgB l.length 0 2 (tmpl 6)).length = 48 := by rw [msgB_len, tmpl_len 6 (by omega)]
    (refine XG ?_; ((try (repeat' with_reducible refine And.intro ?_ ?_)); (try any_goals (first | refine zm ?_ | exact CL | fail))))
    ((first | apply pr_psv | apply prD_psv | apply pr_qrunv | apply prD_qrunv) <;> (first | exact ht | (have zf1 := @hml; refine XG ?_; clear zf1; first | exact rfl | exact True.intro | ((try (repeat' with_reducible refine And.intro ?_ ?_)); (try any_goals (first | refine zm ?_ | exact CL | fail))))))
    (refine xw_ifp (fun h6 => ?_) (fun h6 => ?_) <;> try exact h6.elim)
    · rw [rf4 h1 hd hs h4 h5 h6] at he
      subst he
      (refine XG ?_; ((try (repeat' with_reducible refine And.intro ?_ ?_)); (try any_goals (first | refine zm ?_ | exact CL | fail))))
      rfl
    · rw [rf5 h1 hd hs h4 h5 h6] at he
      (refine XG ?_; ((try (repeat' with_reducible refine And.intro ?_ ?_)); (try any_goals (first | refine zm ?_ | exact CL | fail))))
      refine ⟨⟨f, l, true, s.drop (msgN s)⟩, ⟨he, ?_, ?_⟩, ⟨[], ?_⟩, ?_⟩
      · dsimp only; rw [List.length_drop]; omega
      · dsimp only; rw [List.length_drop]; omega
      · (refine XG ?_; ((try (repeat' with_reducible refine And.intro ?_ ?_)); (try any_goals (first | refine zm ?_ | exact CL | fail))))
      · dsimp only; rw [List.length_drop]; omega
  (refine XG ?_; ((try (repeat' with_reducible refine And.intro ?_ ?_)); (try any_goals (first | refine zm ?_ | exact CL | fail))))
  (refine xw_ifp (fun h7 => ?_) (fun h7 => ?_) <;> try exact h7.elim)
  · rw [rf6 h1 hd hs h4 h5 h7] at he
    subst he
    (refine XG ?_; ((try (repeat' with_reducible refine And.intro ?_ ?_)); (try any_goals (first | refine zm ?_ | exact CL | fail))))
    rfl
  have h7 : k = true := by simpa using h7
  have etm := tmod_n (msgN s) (by omega)
  (refine XG ?_; ((try (repeat' with_reducible refine And.intro ?_ ?_)); (try any_goals (first | refine zm ?_ | exact CL | fail))))
  have h20 : 20 ≤ msgN s := by omega
  have hsl : msgN s ≤ s.length := by omega
  by_cases h8 : msgN s = 20 ∨ (msgN s - 20) % 21 ≠ 0
  · rw [rf7 h1 hd hs h4 h5 h7 h8] at he
    subst he
    (refine xw_ifp (fun h9 => ?_) (fun h9 => ?_) <;> try exact h9.elim)
    · (refine XG ?_; ((try (repeat' with_reducible refine And.intro ?_ ?_)); (try any_goals (first | refine zm ?_ | exact CL | fail))))
      rfl
    · rw [etm] at h9
      omega
  rw [rf8 h1 hd hs h4 h5 h7 h8] at he
  (refine xw_ifp (fun h9 => ?_) (fun h9 => ?_) <;> try exact h9.elim)
  · rw [etm] at h9
    omega
  (refine XG ?_; ((try (repeat' with_reducible refine And.intro ?_ ?_)); (try any_goals (first | refine zm ?_ | exact CL | fail))))
  have hbl : ((s.take (msgN s)).drop 20).length = 21 * ((msgN s - 20) / 21) := by rw [List.length_drop, List.length_take]; omega
  rw [List.drop_take] at hbl he
  generalize hB : (s.drop 20).take (msgN s - 20) = B at *
  generalize hM : (msgN s - 20) / 21 = M at *
  generalize hV : rdEvs (n4 s 4) M l B = V at *
  refine loop_rule (fun x : EvI => rdEvs (n4 s 4) x.m x.l x.b = V ∧ x.b.length = 21 * x.m ∧ x.l.length + x.m ≤ l.length + M) (fun x => ⟨[(0, .str s), (4, .sl 5 0 0 x.l.length x.l.length), (5, .bool true), (6, .ptr 1 0), (8, .int .i64 (msgN s)), (9, .int .i64 (n4 s 4))], [(0, .cells (evs5 x.l)), (1, .cells [.str x.b, .bool false])], 2⟩) (fun x => x.m) ft_Read.mixed hN
    ⟨⟨M, l, B⟩, ⟨hV, hbl, Nat.le_refl _⟩, [], by (have zf1 := @hB; have zf2 := @hel; have zf3 := @h7; refine XG ?_; clear zf1 zf2 zf3; ((try (repeat' with_reducible refine And.intro ?_ ?_)); (try any_goals (first | refine zm ?_ | exact CL | fail))))⟩ fun ⟨m, l', b⟩ ⟨hv, hbm, hll⟩ => ?_
  dsimp only at hv hbm hll
  have hel' := evs5_len l'
  (refine XG ?_; ((try (repeat' with_reducible refine And.intro ?_ ?_)); (try any_goals (first | refine zm ?_ | exact CL | fail))))
  (refine xw_ifp (fun h10 => ?_) (fun h10 => ?_) <;> try exact h10.elim)
  · have hbp : 0 < b.length := List.length_pos_iff.2 h10
    obtain ⟨m, rfl⟩ : ∃ j, m = j + 1 := ⟨m - 1, by omega⟩
    have hev := event_gs c.gl b false (by omega)
    rw [rdEvs] at hv
    clear hB hV etm
    cases hrd : rdEv b with
    | none =>
      rw [hrd] at hev hv
      dsimp only at hv
      subst hv
      dsimp only at he
      subst he
      unfold evTup evZ at hev
      (refine XG ?_; ((try (repeat' with_reducible refine And.intro ?_ ?_)); (try any_goals (first | refine zm ?_ | exact CL | fail))))
      ((first | refine pr_gs (ins := [1]) hev ?_ ?_ | refine prD_gs (ins := [1]) hev ?_ ?_ | refine pr_gsv (ins := [1]) hev ?_ ?_ | refine prD_gsv (ins := [1]) hev ?_ ?_) <;> (refine XG ?_; (try first | exact rfl | exact True.intro); ((try (repeat' with_reducible refine And.intro ?_ ?_)); (try any_goals (first | refine zm ?_ | exact CL | fail)))))
      (refine xw_ifp (fun g1 => ?_) (fun g1 => ?_) <;> try exact g1.elim)
      (refine XG ?_; ((try (repeat' with_reducible refine And.intro ?_ ?_)); (try any_goals (first | refine zm ?_ | exact CL | fail))))
      rfl
    | some e =>
      rw [hrd] at hev hv
      have hgd := rdEv_good hrd
      obtain ⟨t, sb, a, bk, fr⟩ := e
      obtain ⟨t0, t1, s0', s1, a0, a1, k0, k1⟩ := hgd
      dsimp only at hv t0 t1 s0' s1 a0 a1 k0 k1
      unfold evTup Ev.enc at hev
      dsimp only at hev
      have etm2 : t.tmod 4294967296 = t % 4294967296 := Int.tmod_eq_emod_of_nonneg t0
      (refine XG ?_; ((try (repeat' with_reducible refine And.intro ?_ ?_)); (try any_goals (first | refine zm ?_ | exact CL | fail))))
      ((first | refine pr_gs (ins := [1]) hev ?_ ?_ | refine prD_gs (ins := [1]) hev ?_ ?_ | refine pr_gsv (ins := [1]) hev ?_ ?_ | refine prD_gsv (ins := [1]) hev ?_ ?_) <;> (refine XG ?_; (try first | exact rfl | exact True.intro); ((try (repeat' with_reducible refine And.intro ?_ ?_)); (try any_goals (first | refine zm ?_ | exact CL | fail)))))
      (refine xw_ifp (fun g1 => ?_) (fun g1 => ?_) <;> try exact g1.elim)
      by_cases hl0 : l' = []
      · have e6 : decide (0 < (l'.length : Int)) = false := by subst hl0; rfl
        (have zf1 := @etm2; have zf2 := @e6; refine XG ?_; clear zf1 zf2; ((try (repeat' with_reducible refine And.intro ?_ ?_)); (try any_goals (first | refine zm ?_ | exact CL | fail))))
        (refine xw_ifp (fun g2 => ?_) (fun g2 => ?_) <;> try exact g2.elim)
        · have hcnd : ¬ (t % 4294967296 = n4 s 4 ∧ (l' = [] ∨ lastT l' ≤ t)) := fun h => by have := h.1; omega
          rw [if_neg hcnd] at hv
          subst hv
          dsimp only at he
          subst he
          (refine XG ?_; ((try (repeat' with_reducible refine And.intro ?_ ?_)); (try any_goals (first | refine zm ?_ | exact CL | fail))))
          rfl
        · have hcnd : (t % 4294967296 = n4 s 4 ∧ (l' = [] ∨ lastT l' ≤ t)) := ⟨by omega, .inl hl0⟩
          rw [if_pos hcnd] at hv
          (refine XG ?_; ((try (repeat' with_reducible refine And.intro ?_ ?_)); (try any_goals (first | refine zm ?_ | exact CL | fail))))
          ((first | apply pr_app | apply prD_app | apply pr_bsl | apply prD_bsl | apply pr_s2b | apply prD_s2b); (refine XG ?_; ((try (repeat' with_reducible refine And.intro ?_ ?_)); (try any_goals (first | refine zm ?_ | exact CL | fail)))))
          ((first | apply pr_app | apply prD_app | apply pr_bsl | apply prD_bsl | apply pr_s2b | apply prD_s2b); (have zf1 := @hel'; refine XG ?_; clear zf1; ((try (repeat' with_reducible refine And.intro ?_ ?_)); (try any_goals (first | refine zm ?_ | exact CL | fail)))))
          refine ⟨⟨m, l' ++ [(⟨t, sb, a, bk, fr⟩ : Ev)], b.drop 21⟩, ⟨hv, ?_, ?_⟩, ⟨[(0, 4)], ?_⟩, ?_⟩
          · dsimp only; rw [List.length_drop]; omega
          · dsimp only; rw [List.length_append]; simp only [List.length_cons, List.length_nil]; omega
          · have hsn := evs5_snoc l' t sb a bk fr
            have hln : (l' ++ [(⟨t, sb, a, bk, fr⟩ : Ev)]).length = l'.length + 1 := by simp
            (have zf1 := @hsn; have zf2 := @hln; refine XG ?_; clear zf1 zf2; ((try (repeat' with_reducible refine And.intro ?_ ?_)); (try any_goals (first | refine zm ?_ | exact CL | fail))))
          · dsimp only; omega
      · have hlast := evs5_last l' hl0
        have hlp : 0 < l'.length := List.length_pos_iff.2 hl0
        have e5 : ((l'.length : Int) - 1).toNat = l'.length - 1 := by omega
        have e6 : decide (0 < (l'.length : Int)) = true := by simp; omega
        (have zf1 := @etm2; have zf2 := @hlast; have zf3 := @e5; have zf4 := @e6; refine XG ?_; clear zf1 zf2 zf3 zf4; ((try (repeat' with_reducible refine And.intro ?_ ?_)); (try any_goals (first | refine zm ?_ | exact CL | fail))))
        (refine xw_ifp (fun g2 => ?_) (fun g2 => ?_) <;> try exact g2.elim)
        · have hcnd : ¬ (t % 4294967296 = n4 s 4 ∧ (l' = [] ∨ lastT l' ≤ t)) := fun h => by
            rcases h with ⟨q1, q2 | q2⟩
            · exact hl0 q2
            · omega
          rw [if_neg hcnd] at hv
          subst hv
          dsimp only at he
          subst he
          (refine XG ?_; ((try (repeat' with_reducible refine And.intro ?_ ?_)); (try any_goals (first | refine zm ?_ | exact CL | fail))))
          rfl
        · have hcnd : (t % 4294967296 = n4 s 4 ∧ (l' = [] ∨ lastT l' ≤ t)) := ⟨by omega, .inr (by omega)⟩
          rw [if_pos hcnd] at hv
          (refine XG ?_; ((try (repeat' with_reducible refine And.intro ?_ ?_)); (try any_goals (first | refine zm ?_ | exact CL | fail))))
          ((first | apply pr_app | apply prD_app | apply pr_bsl | apply prD_bsl | apply pr_s2b | apply prD_s2b); (refine XG ?_; ((try (repeat' with_reducible refine And.intro ?_ ?_)); (try any_goals (first | refine zm ?_ | exact CL | fail)))))
          ((first | apply pr_app | apply prD_app | apply pr_bsl | apply prD_bsl | apply pr_s2b | apply prD_s2b); (have zf1 := @hel'; refine XG ?_; clear zf1; ((try (repeat' with_reducible refine And.intro ?_ ?_)); (try any_goals (first | refine zm ?_ | exact CL | fail)))))
          refine ⟨⟨m, l' ++ [(⟨t, sb, a, bk, fr⟩ : Ev)], b.drop 21⟩, ⟨hv, ?_, ?_⟩, ⟨[(0, 4)], ?_⟩, ?_⟩
          · dsimp only; rw [List.length_drop]; omega
          · dsimp only; rw [List.length_append]; simp only [List.length_cons, List.length_nil]; omega
          · have hsn := evs5_snoc l' t sb a bk fr
            have hln : (l' ++ [(⟨t, sb, a, bk, fr⟩ : Ev)]).length = l'.length + 1 := by simp
            (have zf1 := @hsn; have zf2 := @hln; refine XG ?_; clear zf1 zf2; ((try (repeat' with_reducible refine And.intro ?_ ?_)); (try any_goals (first | refine zm ?_ | exact CL | fail))))
          · dsimp only; omega
  · have hm0 : m = 0 := by rw [List.length_eq_zero_iff.2 (by simpa using h10)] at hbm; omega
    subst hm0
    rw [rdEvs] at hv
    subst hv
    dsimp only at he
    (refine XG ?_; ((try (repeat' with_reducible refine And.intro ?_ ?_)); (try any_goals (first | refine zm ?_ | exact CL | fail))))
    refine ⟨⟨f, l', k, s.drop (msgN s)⟩, ⟨he, ?_, ?_⟩, ⟨[], ?_⟩, ?_⟩
    · dsimp only; rw [List.length_drop]; omega
    · dsimp only; rw [List.length_drop]; omega
    · (have zf1 := @h7; refine XG ?_; clear zf1; ((try (repeat' with_reducible refine And.intro ?_ ?_)); (try any_goals (first | refine zm ?_ | exact CL | fail))))
    · dsimp only; rw [List.length_drop]; omega
end Go.Proofs.YtglkiaiipkdkbaaDoor
