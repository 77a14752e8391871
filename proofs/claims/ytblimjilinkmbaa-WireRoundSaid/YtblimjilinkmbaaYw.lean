/- The walks of the statements WireAnew and WireRound. No conditions but the ones that stand in each. -/
import Derived.Test.YtblimjilinkmbaaWz
namespace Go.Proofs.Ytblimjilinkmbaa
set_option linter.all false
set_option linter.unusedSimpArgs false
open Go.RowKit

theorem turnT_nil (side addr port : Int) : turnT [] side addr port = .tup [.str [], .int .i64 1] := rfl
theorem turnT_err {p : Pk} (h : pkErr p = 0) {side addr port : Int} (ht : turnE p side addr port ≠ 0) : turnT (buildB p) side addr port = .tup [.str [], .int .i64 (turnE p side addr port)] := by
  obtain ⟨h1, h2⟩ := parse_build p h
  unfold turnT
  rw [if_neg (by omega), h2, if_pos ht]
theorem turnT_ok {p : Pk} (h : pkErr p = 0) {side addr port : Int} (ht : turnE p side addr port = 0) : turnT (buildB p) side addr port = .tup [.str (buildB (turned p side addr port)), .int .i64 0] := by
  obtain ⟨h1, h2⟩ := parse_build p h
  unfold turnT
  rw [if_neg (by omega), h2, if_neg (by omega), turn_build p h side addr port ht]
theorem turnE_ok {p : Pk} {side addr port : Int} (ht : turnE p side addr port = 0) : (side = 0 ∨ side = 1) ∧ (0 ≤ addr ∧ addr ≤ 4294967295) ∧ (0 ≤ port ∧ port ≤ 65535) ∧ p.ttl ≠ 1 ∧ ¬ (p.proto = 1 ∧ ¬ (side = 0 ↔ p.flags = 8)) := by
  unfold turnE at ht
  split at ht
  · cases ht
  split at ht
  · cases ht
  split at ht
  · cases ht
  rename_i t1 t2 t3
  exact ⟨by omega, by omega, by omega, t2, t3⟩
set_option maxHeartbeats 2000000 in
theorem WireAnew_ps (gl : Nat → AV) (p : Pk) (side addr port : Int) : PS Try.prog gl 9 [.agg p.enc, .int .i64 side, .int .i64 addr, .int .i64 port] (.bool true) := by
  refine ft_LAnew.ps (of_decide_eq_true rfl) (by simp [nmOk]) fun c hN hg => ?_
  unfold T_LAnew
  by_cases he : pkErr p = 0
  rotate_left
  · have hB := build_err c.gl p he
    have hT := Turn_ps c.gl [] side addr port (by simp)
    rw [turnT_nil] at hT
    generalize pkErr p = E at *
    unfold Pk.enc at hB ⊢
    have heb : (E != 0) = true := by simp [he]
    (refine XG ?_; ((try (repeat' with_reducible refine And.intro ?_ ?_)); (try any_goals (first | refine zm ?_ | exact CL | fail))))
    ((first | apply pr_psv | apply prD_psv | apply pr_qrunv | apply prD_qrunv) <;> (first | exact hB | (refine XG ?_; first | exact rfl | exact True.intro | ((try (repeat' with_reducible refine And.intro ?_ ?_)); (try any_goals (first | refine zm ?_ | exact CL | fail))))))
    ((first | apply pr_psv | apply prD_psv | apply pr_qrunv | apply prD_qrunv) <;> (first | exact hT | (have zf1 := @heb; refine XG ?_; clear zf1; first | exact rfl | exact True.intro | ((try (repeat' with_reducible refine And.intro ?_ ?_)); (try any_goals (first | refine zm ?_ | exact CL | fail))))))
    ((first | apply pr_skip | apply prD_skip) <;> (have zf1 := @heb; refine XG ?_; clear zf1; first | exact rfl | exact True.intro | ((try (repeat' with_reducible refine And.intro ?_ ?_)); (try any_goals (first | refine zm ?_ | exact CL | fail)))))
    (refine xw_ifp (fun g1 => ?_) (fun g1 => ?_) <;> try exact g1.elim)
    (refine XG ?_; ((try (repeat' with_reducible refine And.intro ?_ ?_)); (try any_goals (first | refine zm ?_ | exact CL | fail))))
    ((first | apply pr_psv | apply prD_psv | apply pr_qrunv | apply prD_qrunv) <;> (first | exact (buildsK_ps _) | (refine XG ?_; first | exact rfl | exact True.intro | ((try (repeat' with_reducible refine And.intro ?_ ?_)); (try any_goals (first | refine zm ?_ | exact CL | fail))))))
  have hB := Build_ok c.gl he
  obtain ⟨hp, hr, hl, hf⟩ := pkErr_ok he
  have hb := segN_bd p hp hl
  have hL := buildB_len p
  have hT := Turn_ps c.gl (buildB p) side addr port (by omega)
  by_cases ht : turnE p side addr port = 0
  rotate_left
  · rw [turnT_err he ht] at hT
    generalize turnE p side addr port = E at *
    generalize buildB p = S at *
    unfold Pk.enc at hB ⊢
    have heb : (E != 0) = true := by simp [ht]
    (refine XG ?_; ((try (repeat' with_reducible refine And.intro ?_ ?_)); (try any_goals (first | refine zm ?_ | exact CL | fail))))
    ((first | apply pr_psv | apply prD_psv | apply pr_qrunv | apply prD_qrunv) <;> (first | exact hB | (refine XG ?_; first | exact rfl | exact True.intro | ((try (repeat' with_reducible refine And.intro ?_ ?_)); (try any_goals (first | refine zm ?_ | exact CL | fail))))))
    ((first | apply pr_psv | apply prD_psv | apply pr_qrunv | apply prD_qrunv) <;> (first | exact hT | (have zf1 := @heb; refine XG ?_; clear zf1; first | exact rfl | exact True.intro | ((try (repeat' with_reducible refine And.intro ?_ ?_)); (try any_goals (first | refine zm ?_ | exact CL | fail))))))
    ((first | apply pr_skip | apply prD_skip) <;> (have zf1 := @heb; refine XG ?_; clear zf1; first | exact rfl | exact True.intro | ((try (repeat' with_reducible refine And.intro ?_ ?_)); (try any_goals (first | refine zm ?_ | exact CL | fail)))))
    (refine xw_ifp (fun g1 => ?_) (fun g1 => ?_) <;> try exact g1.elim)
    (refine XG ?_; ((try (repeat' with_reducible refine And.intro ?_ ?_)); (try any_goals (first | refine zm ?_ | exact CL | fail))))
    ((first | apply pr_psv | apply prD_psv | apply pr_qrunv | apply prD_qrunv) <;> (first | exact (buildsK_ps _) | (refine XG ?_; first | exact rfl | exact True.intro | ((try (repeat' with_reducible refine And.intro ?_ ?_)); (try any_goals (first | refine zm ?_ | exact CL | fail))))))
  rw [turnT_ok he ht] at hT
  have hg2 := turned_good p he side addr port ht
  have hB2 := Build_ok c.gl hg2
  obtain ⟨hs, _, _, _, _⟩ := turnE_ok ht
  have ht0 : 1 ≤ p.ttl ∧ p.ttl ≤ 255 := hr.2.2.2.2.2.2.2.2.1
  clear hr hl hf hb hL hg2 he ht hp
  generalize hU : buildB (turned p side addr port) = U at *
  clear hU
  unfold turned at hB2
  generalize buildB p = S at *
  unfold Pk.enc at hB hB2 ⊢
  rcases p with ⟨proto, frm, sport, dst, dport, ttl, id, flags, seq, ack, win, body⟩
  rcases hs with rfl | rfl
  · rw [if_pos rfl] at hB2
    dsimp only at hB hB2 ht0 ⊢
    (refine XG ?_; ((try (repeat' with_reducible refine And.intro ?_ ?_)); (try any_goals (first | refine zm ?_ | exact CL | fail))))
    ((first | apply pr_psv | apply prD_psv | apply pr_qrunv | apply prD_qrunv) <;> (first | exact hB | (refine XG ?_; first | exact rfl | exact True.intro | ((try (repeat' with_reducible refine And.intro ?_ ?_)); (try any_goals (first | refine zm ?_ | exact CL | fail))))))
    ((first | apply pr_psv | apply prD_psv | apply pr_qrunv | apply prD_qrunv) <;> (first | exact hT | (refine XG ?_; first | exact rfl | exact True.intro | ((try (repeat' with_reducible refine And.intro ?_ ?_)); (try any_goals (first | refine zm ?_ | exact CL | fail))))))
    ((first | apply pr_psv | apply prD_psv | apply pr_qrunv | apply prD_qrunv) <;> (first | exact (buildsK_ps _) | (refine XG ?_; first | exact rfl | exact True.intro | ((try (repeat' with_reducible refine And.intro ?_ ?_)); (try any_goals (first | refine zm ?_ | exact CL | fail))))))
    (refine xw_ifp (fun g1 => ?_) (fun g1 => ?_) <;> try exact g1.elim)
    (refine XG ?_; ((try (repeat' with_reducible refine And.intro ?_ ?_)); (try any_goals (first | refine zm ?_ | exact CL | fail))))
    (refine xw_ifp (fun g2 => ?_) (fun g2 => ?_) <;> try exact g2.elim)
    (refine XG ?_; ((try (repeat' with_reducible refine And.intro ?_ ?_)); (try any_goals (first | refine zm ?_ | exact CL | fail))))
    ((first | apply pr_psv | apply prD_psv | apply pr_qrunv | apply prD_qrunv) <;> (first | exact hB2 | (refine XG ?_; first | exact rfl | exact True.intro | ((try (repeat' with_reducible refine And.intro ?_ ?_)); (try any_goals (first | refine zm ?_ | exact CL | fail))))))
  · rw [if_neg (by decide)] at hB2
    dsimp only at hB hB2 ht0 ⊢
    (refine XG ?_; ((try (repeat' with_reducible refine And.intro ?_ ?_)); (try any_goals (first | refine zm ?_ | exact CL | fail))))
    ((first | apply pr_psv | apply prD_psv | apply pr_qrunv | apply prD_qrunv) <;> (first | exact hB | (refine XG ?_; first | exact rfl | exact True.intro | ((try (repeat' with_reducible refine And.intro ?_ ?_)); (try any_goals (first | refine zm ?_ | exact CL | fail))))))
    ((first | apply pr_psv | apply prD_psv | apply pr_qrunv | apply prD_qrunv) <;> (first | exact hT | (refine XG ?_; first | exact rfl | exact True.intro | ((try (repeat' with_reducible refine And.intro ?_ ?_)); (try any_goals (first | refine zm ?_ | exact CL | fail))))))
    ((first | apply pr_psv | apply prD_psv | apply pr_qrunv | apply prD_qrunv) <;> (first | exact (buildsK_ps _) | (refine XG ?_; first | exact rfl | exact True.intro | ((try (repeat' with_reducible refine And.intro ?_ ?_)); (try any_goals (first | refine zm ?_ | exact CL | fail))))))
    (refine xw_ifp (fun g1 => ?_) (fun g1 => ?_) <;> try exact g1.elim)
    (refine XG ?_; ((try (repeat' with_reducible refine And.intro ?_ ?_)); (try any_goals (first | refine zm ?_ | exact CL | fail))))
    (refine xw_ifp (fun g2 => ?_) (fun g2 => ?_) <;> try exact g2.elim)
    (refine XG ?_; ((try (repeat' with_reducible refine And.intro ?_ ?_)); (try any_goals (first | refine zm ?_ | exact CL | fail))))
    ((first | apply pr_psv | apply prD_psv | apply pr_qrunv | apply prD_qrunv) <;> (first | exact hB2 | (refine XG ?_; first | exact rfl | exact True.intro | ((try (repeat' with_reducible refine And.intro ?_ ?_)); (try any_goals (first | refine zm ?_ | exact CL | fail))))))
def fromOf (p : Pk) (side : Int) : Int := if side = 1 then p.dst else p.frm
def wasOf (p : Pk) (side : Int) : Int := if side = 1 then p.dport else p.sport
theorem round_turned (p : Pk) (side addr port : Int) (hs : side = 0 ∨ side = 1) : turned (turned p side addr port) side (fromOf p side) (wasOf p side) = { p with ttl := p.ttl - 2 } := by
  rcases p with ⟨proto, frm, sport, dst, dport, ttl, id, flags, seq, ack, win, body⟩
  have e : ttl - 1 - 1 = ttl - 2 := by omega
  rcases hs with rfl | rfl
  · unfold turned fromOf wasOf
    simp [e]
  · unfold turned fromOf wasOf
    simp [e]
theorem round_err (p : Pk) (h : pkErr p = 0) (side addr port : Int) (ht : turnE p side addr port = 0) : turnE (turned p side addr port) side (fromOf p side) (wasOf p side) = if p.ttl = 2 then 12 else 0 := by
  obtain ⟨hs, _, _, h4, h5⟩ := turnE_ok ht
  obtain ⟨hp, hr, hl, hf⟩ := pkErr_ok h
  obtain ⟨r1, r2, r3, r4, r5, r6, r7, r8, r9, r10⟩ := hr
  rcases p with ⟨proto, frm, sport, dst, dport, ttl, id, flags, seq, ack, win, body⟩
  dsimp only at *
  rcases hs with rfl | rfl
  · unfold turned fromOf wasOf turnE
    simp only [Int.reduceEq, ↓reduceIte]
    rw [if_neg (by omega)]
    by_cases h2 : ttl = 2
    · rw [if_pos (by omega), if_pos h2]
    · simp only [Int.reduceEq] at h5
      rw [if_neg (by omega), if_neg h5, if_neg h2]
  · unfold turned fromOf wasOf turnE
    simp only [Int.reduceEq, ↓reduceIte]
    rw [if_neg (by omega)]
    by_cases h2 : ttl = 2
    · rw [if_pos (by omega), if_pos h2]
    · simp only [Int.reduceEq] at h5
      rw [if_neg (by omega), if_neg h5, if_neg h2]
set_option maxHeartbeats 2000000 in
theorem WireRound_ps (gl : Nat → AV) (p : Pk) (side addr port : Int) : PS Try.prog gl 10 [.agg p.enc, .int .i64 side, .int .i64 addr, .int .i64 port] (.bool true) := by
  refine ft_LRound.ps (of_decide_eq_true rfl) (by simp [nmOk]) fun c hN hg => ?_
  unfold T_LRound
  by_cases he : pkErr p = 0
  rotate_left
  · have hB := build_err c.gl p he
    have hT := Turn_ps c.gl [] side addr port (by simp)
    rw [turnT_nil] at hT
    generalize pkErr p = E at *
    unfold Pk.enc at hB ⊢
    have heb : (E != 0) = true := by simp [he]
    (refine XG ?_; ((try (repeat' with_reducible refine And.intro ?_ ?_)); (try any_goals (first | refine zm ?_ | exact CL | fail))))
    ((first | apply pr_psv | apply prD_psv | apply pr_qrunv | apply prD_qrunv) <;> (first | exact hB | (refine XG ?_; first | exact rfl | exact True.intro | ((try (repeat' with_reducible refine And.intro ?_ ?_)); (try any_goals (first | refine zm ?_ | exact CL | fail))))))
    ((first | apply pr_psv | apply prD_psv | apply pr_qrunv | apply prD_qrunv) <;> (first | exact hT | (have zf1 := @heb; refine XG ?_; clear zf1; first | exact rfl | exact True.intro | ((try (repeat' with_reducible refine And.intro ?_ ?_)); (try any_goals (first | refine zm ?_ | exact CL | fail))))))
    ((first | apply pr_skip | apply prD_skip) <;> (have zf1 := @heb; refine XG ?_; clear zf1; first | exact rfl | exact True.intro | ((try (repeat' with_reducible refine And.intro ?_ ?_)); (try any_goals (first | refine zm ?_ | exact CL | fail)))))
    (refine xw_ifp (fun g1 => ?_) (fun g1 => ?_) <;> try exact g1.elim)
    (refine XG ?_; ((try (repeat' with_reducible refine And.intro ?_ ?_)); (try any_goals (first | refine zm ?_ | exact CL | fail))))
    ((first | apply pr_psv | apply prD_psv | apply pr_qrunv | apply prD_qrunv) <;> (first | exact (buildsK_ps _) | (refine XG ?_; first | exact rfl | exact True.intro | ((try (repeat' with_reducible refine And.intro ?_ ?_)); (try any_goals (first | refine zm ?_ | exact CL | fail))))))
  have hB := Build_ok c.gl he
  obtain ⟨hp, hr, hl, hf⟩ := pkErr_ok he
  have hb := segN_bd p hp hl
  have hL := buildB_len p
  have hT := Turn_ps c.gl (buildB p) side addr port (by omega)
  by_cases ht : turnE p side addr port = 0
  rotate_left
  · rw [turnT_err he ht] at hT
    generalize turnE p side addr port = E at *
    generalize buildB p = S at *
    unfold Pk.enc at hB ⊢
    have heb : (E != 0) = true := by simp [ht]
    (refine XG ?_; ((try (repeat' with_reducible refine And.intro ?_ ?_)); (try any_goals (first | refine zm ?_ | exact CL | fail))))
    ((first | apply pr_psv | apply prD_psv | apply pr_qrunv | apply prD_qrunv) <;> (first | exact hB | (refine XG ?_; first | exact rfl | exact True.intro | ((try (repeat' with_reducible refine And.intro ?_ ?_)); (try any_goals (first | refine zm ?_ | exact CL | fail))))))
    ((first | apply pr_psv | apply prD_psv | apply pr_qrunv | apply prD_qrunv) <;> (first | exact hT | (have zf1 := @heb; refine XG ?_; clear zf1; first | exact rfl | exact True.intro | ((try (repeat' with_reducible refine And.intro ?_ ?_)); (try any_goals (first | refine zm ?_ | exact CL | fail))))))
    ((first | apply pr_skip | apply prD_skip) <;> (have zf1 := @heb; refine XG ?_; clear zf1; first | exact rfl | exact True.intro | ((try (repeat' with_reducible refine And.intro ?_ ?_)); (try any_goals (first | refine zm ?_ | exact CL | fail)))))
    (refine xw_ifp (fun g1 => ?_) (fun g1 => ?_) <;> try exact g1.elim)
    (refine XG ?_; ((try (repeat' with_reducible refine And.intro ?_ ?_)); (try any_goals (first | refine zm ?_ | exact CL | fail))))
    ((first | apply pr_psv | apply prD_psv | apply pr_qrunv | apply prD_qrunv) <;> (first | exact (buildsK_ps _) | (refine XG ?_; first | exact rfl | exact True.intro | ((try (repeat' with_reducible refine And.intro ?_ ?_)); (try any_goals (first | refine zm ?_ | exact CL | fail))))))
  rw [turnT_ok he ht] at hT
  obtain ⟨hs, _, _, h4, _⟩ := turnE_ok ht
  have hg2 := turned_good p he side addr port ht
  have hre := round_err p he side addr port ht
  have hrt := round_turned p side addr port hs
  have hL2 := buildB_len (turned p side addr port)
  obtain ⟨hp2, _, hl2, _⟩ := pkErr_ok hg2
  have hb2 := segN_bd _ hp2 hl2
  have hT2 := Turn_ps c.gl (buildB (turned p side addr port)) side (fromOf p side) (wasOf p side) (by omega)
  have ht0 : 1 ≤ p.ttl ∧ p.ttl ≤ 255 := hr.2.2.2.2.2.2.2.2.1
  have hE := @pk_eq c false p
  have hE0 : rdE [] = 1 := rfl
  have hP0 := Parse_bad c.gl (l := []) (by simp) hE0 (by decide)
  by_cases h2 : p.ttl = 2
  · rw [if_pos h2] at hre
    rw [turnT_err hg2 (by omega), hre] at hT2
    clear hr hl hf hb hL hg2 he ht hp hre hrt hL2 hp2 hl2 hb2
    generalize buildB (turned p side addr port) = U at *
    generalize buildB p = S at *
    unfold Pk.enc at hB hE ⊢
    unfold pk0 Pk.enc at hP0
    rcases p with ⟨proto, frm, sport, dst, dport, ttl, id, flags, seq, ack, win, body⟩
    unfold fromOf wasOf at hT2
    dsimp only at *
    rcases hs with rfl | rfl
    · rw [if_neg (by decide), if_neg (by decide)] at hT2
      (refine XG ?_; ((try (repeat' with_reducible refine And.intro ?_ ?_)); (try any_goals (first | refine zm ?_ | exact CL | fail))))
      ((first | apply pr_psv | apply prD_psv | apply pr_qrunv | apply prD_qrunv) <;> (first | exact hB | (refine XG ?_; first | exact rfl | exact True.intro | ((try (repeat' with_reducible refine And.intro ?_ ?_)); (try any_goals (first | refine zm ?_ | exact CL | fail))))))
      ((first | apply pr_psv | apply prD_psv | apply pr_qrunv | apply prD_qrunv) <;> (first | exact hT | (refine XG ?_; first | exact rfl | exact True.intro | ((try (repeat' with_reducible refine And.intro ?_ ?_)); (try any_goals (first | refine zm ?_ | exact CL | fail))))))
      ((first | apply pr_psv | apply prD_psv | apply pr_qrunv | apply prD_qrunv) <;> (first | exact (buildsK_ps _) | (refine XG ?_; first | exact rfl | exact True.intro | ((try (repeat' with_reducible refine And.intro ?_ ?_)); (try any_goals (first | refine zm ?_ | exact CL | fail))))))
      (refine xw_ifp (fun g1 => ?_) (fun g1 => ?_) <;> try exact g1.elim)
      (refine XG ?_; ((try (repeat' with_reducible refine And.intro ?_ ?_)); (try any_goals (first | refine zm ?_ | exact CL | fail))))
      (refine xw_ifp (fun g2 => ?_) (fun g2 => ?_) <;> try exact g2.elim)
      (refine XG ?_; ((try (repeat' with_reducible refine And.intro ?_ ?_)); (try any_goals (first | refine zm ?_ | exact CL | fail))))
      ((first | apply pr_psv | apply prD_psv | apply pr_qrunv | apply prD_qrunv) <;> (first | exact hT2 | (refine XG ?_; first | exact rfl | exact True.intro | ((try (repeat' with_reducible refine And.intro ?_ ?_)); (try any_goals (first | refine zm ?_ | exact CL | fail))))))
      ((first | apply pr_psv | apply prD_psv | apply pr_qrunv | apply prD_qrunv) <;> (first | exact hP0 | (refine XG ?_; first | exact rfl | exact True.intro | ((try (repeat' with_reducible refine And.intro ?_ ?_)); (try any_goals (first | refine zm ?_ | exact CL | fail))))))
      (refine xw_ifp (fun g3 => ?_) (fun g3 => ?_) <;> try exact g3.elim)
      (refine XG ?_; ((try (repeat' with_reducible refine And.intro ?_ ?_)); (try any_goals (first | refine zm ?_ | exact CL | fail))))
      simp [h2]
    · rw [if_pos rfl, if_pos rfl] at hT2
      (refine XG ?_; ((try (repeat' with_reducible refine And.intro ?_ ?_)); (try any_goals (first | refine zm ?_ | exact CL | fail))))
      ((first | apply pr_psv | apply prD_psv | apply pr_qrunv | apply prD_qrunv) <;> (first | exact hB | (refine XG ?_; first | exact rfl | exact True.intro | ((try (repeat' with_reducible refine And.intro ?_ ?_)); (try any_goals (first | refine zm ?_ | exact CL | fail))))))
      ((first | apply pr_psv | apply prD_psv | apply pr_qrunv | apply prD_qrunv) <;> (first | exact hT | (refine XG ?_; first | exact rfl | exact True.intro | ((try (repeat' with_reducible refine And.intro ?_ ?_)); (try any_goals (first | refine zm ?_ | exact CL | fail))))))
      ((first | apply pr_psv | apply prD_psv | apply pr_qrunv | apply prD_qrunv) <;> (first | exact (buildsK_ps _) | (refine XG ?_; first | exact rfl | exact True.intro | ((try (repeat' with_reducible refine And.intro ?_ ?_)); (try any_goals (first | refine zm ?_ | exact CL | fail))))))
      (refine xw_ifp (fun g1 => ?_) (fun g1 => ?_) <;> try exact g1.elim)
      (refine XG ?_; ((try (repeat' with_reducible refine And.intro ?_ ?_)); (try any_goals (first | refine zm ?_ | exact CL | fail))))
      (refine xw_ifp (fun g2 => ?_) (fun g2 => ?_) <;> try exact g2.elim)
      (refine XG ?_; ((try (repeat' with_reducible refine And.intro ?_ ?_)); (try any_goals (first | refine zm ?_ | exact CL | fail))))
      ((first | apply pr_psv | apply prD_psv | apply pr_qrunv | apply prD_qrunv) <;> (first | exact hT2 | (refine XG ?_; first | exact rfl | exact True.intro | ((try (repeat' with_reducible refine And.intro ?_ ?_)); (try any_goals (first | refine zm ?_ | exact CL | fail))))))
      ((first | apply pr_psv | apply prD_psv | apply pr_qrunv | apply prD_qrunv) <;> (first | exact hP0 | (refine XG ?_; first | exact rfl | exact True.intro | ((try (repeat' with_reducible refine And.intro ?_ ?_)); (try any_goals (first | refine zm ?_ | exact CL | fail))))))
      (refine xw_ifp (fun g3 => ?_) (fun g3 => ?_) <;> try exact g3.elim)
      (refine XG ?_; ((try (repeat' with_reducible refine And.intro ?_ ?_)); (try any_goals (first | refine zm ?_ | exact CL | fail))))
      simp [h2]
  · rw [if_neg h2] at hre
    have hg3 := turned_good _ hg2 side _ _ hre
    rw [turnT_ok hg2 hre, hrt] at hT2
    rw [hrt] at hg3
    have hP3 := Parse_ok c.gl hg3
    have e2 : p.ttl - 2 + 2 = p.ttl := by omega
    clear hr hl hf hb hL hg2 he ht hp hre hrt hL2 hp2 hl2 hb2 hg3 hP0 hE0
    generalize buildB (turned p side addr port) = U at *
    generalize buildB { p with ttl := p.ttl - 2 } = V at *
    generalize buildB p = S at *
    unfold Pk.enc at hB hE hP3 ⊢
    rcases p with ⟨proto, frm, sport, dst, dport, ttl, id, flags, seq, ack, win, body⟩
    unfold fromOf wasOf at hT2
    dsimp only at *
    rcases hs with rfl | rfl
    · rw [if_neg (by decide), if_neg (by decide)] at hT2
      (refine XG ?_; ((try (repeat' with_reducible refine And.intro ?_ ?_)); (try any_goals (first | refine zm ?_ | exact CL | fail))))
      ((first | apply pr_psv | apply prD_psv | apply pr_qrunv | apply prD_qrunv) <;> (first | exact hB | (refine XG ?_; first | exact rfl | exact True.intro | ((try (repeat' with_reducible refine And.intro ?_ ?_)); (try any_goals (first | refine zm ?_ | exact CL | fail))))))
      ((first | apply pr_psv | apply prD_psv | apply pr_qrunv | apply prD_qrunv) <;> (first | exact hT | (refine XG ?_; first | exact rfl | exact True.intro | ((try (repeat' with_reducible refine And.intro ?_ ?_)); (try any_goals (first | refine zm ?_ | exact CL | fail))))))
      ((first | apply pr_psv | apply prD_psv | apply pr_qrunv | apply prD_qrunv) <;> (first | exact (buildsK_ps _) | (refine XG ?_; first | exact rfl | exact True.intro | ((try (repeat' with_reducible refine And.intro ?_ ?_)); (try any_goals (first | refine zm ?_ | exact CL | fail))))))
      (refine xw_ifp (fun g1 => ?_) (fun g1 => ?_) <;> try exact g1.elim)
      (refine XG ?_; ((try (repeat' with_reducible refine And.intro ?_ ?_)); (try any_goals (first | refine zm ?_ | exact CL | fail))))
      (refine xw_ifp (fun g2 => ?_) (fun g2 => ?_) <;> try exact g2.elim)
      (refine XG ?_; ((try (repeat' with_reducible refine And.intro ?_ ?_)); (try any_goals (first | refine zm ?_ | exact CL | fail))))
      ((first | apply pr_psv | apply prD_psv | apply pr_qrunv | apply prD_qrunv) <;> (first | exact hT2 | (refine XG ?_; first | exact rfl | exact True.intro | ((try (repeat' with_reducible refine And.intro ?_ ?_)); (try any_goals (first | refine zm ?_ | exact CL | fail))))))
      ((first | apply pr_psv | apply prD_psv | apply pr_qrunv | apply prD_qrunv) <;> (first | exact hP3 | (refine XG ?_; first | exact rfl | exact True.intro | ((try (repeat' with_reducible refine And.intro ?_ ?_)); (try any_goals (first | refine zm ?_ | exact CL | fail))))))
      (refine xw_ifp (fun g3 => ?_) (fun g3 => ?_) <;> try exact g3.elim)
      (have zf1 := @e2; refine XG ?_; clear zf1; ((try (repeat' with_reducible refine And.intro ?_ ?_)); (try any_goals (first | refine zm ?_ | exact CL | fail))))
      ((first | apply pr_psv | apply prD_psv | apply pr_qrunv | apply prD_qrunv) <;> (first | exact hE | (have zf1 := @e2; refine XG ?_; clear zf1; first | exact rfl | exact True.intro | ((try (repeat' with_reducible refine And.intro ?_ ?_)); (try any_goals (first | refine zm ?_ | exact CL | fail))))))
    · rw [if_pos rfl, if_pos rfl] at hT2
      (refine XG ?_; ((try (repeat' with_reducible refine And.intro ?_ ?_)); (try any_goals (first | refine zm ?_ | exact CL | fail))))
      ((first | apply pr_psv | apply prD_psv | apply pr_qrunv | apply prD_qrunv) <;> (first | exact hB | (refine XG ?_; first | exact rfl | exact True.intro | ((try (repeat' with_reducible refine And.intro ?_ ?_)); (try any_goals (first | refine zm ?_ | exact CL | fail))))))
      ((first | apply pr_psv | apply prD_psv | apply pr_qrunv | apply prD_qrunv) <;> (first | exact hT | (refine XG ?_; first | exact rfl | exact True.intro | ((try (repeat' with_reducible refine And.intro ?_ ?_)); (try any_goals (first | refine zm ?_ | exact CL | fail))))))
      ((first | apply pr_psv | apply prD_psv | apply pr_qrunv | apply prD_qrunv) <;> (first | exact (buildsK_ps _) | (refine XG ?_; first | exact rfl | exact True.intro | ((try (repeat' with_reducible refine And.intro ?_ ?_)); (try any_goals (first | refine zm ?_ | exact CL | fail))))))
      (refine xw_ifp (fun g1 => ?_) (fun g1 => ?_) <;> try exact g1.elim)
      (refine XG ?_; ((try (repeat' with_reducible refine And.intro ?_ ?_)); (try any_goals (first | refine zm ?_ | exact CL | fail))))
      (refine xw_ifp (fun g2 => ?_) (fun g2 => ?_) <;> try exact g2.elim)
      (refine XG ?_; ((try (repeat' with_reducible refine And.intro ?_ ?_)); (try any_goals (first | refine zm ?_ | exact CL | fail))))
      ((first | apply pr_psv | apply prD_psv | apply pr_qrunv | apply prD_qrunv) <;> (first | exact hT2 | (refine XG ?_; first | exact rfl | exact True.intro | ((try (repeat' with_reducible refine And.intro ?_ ?_)); (try any_goals (first | refine zm ?_ | exact CL | fail))))))
      ((first | apply pr_psv | apply prD_psv | apply pr_qrunv | apply prD_qrunv) <;> (first | exact hP3 | (refine XG ?_; first | exact rfl | exact True.intro | ((try (repeat' with_reducible refine And.intro ?_ ?_)); (try any_goals (first | refine zm ?_ | exact CL | fail))))))
      (refine xw_ifp (fun g3 => ?_) (fun g3 => ?_) <;> try exact g3.elim)
      (have zf1 := @e2; refine XG ?_; clear zf1; ((try (repeat' with_reducible refine And.intro ?_ ?_)); (try any_goals (first | refine zm ?_ | exact CL | fail))))
      ((first | apply pr_psv | apply prD_psv | apply pr_qrunv | apply prD_qrunv) <;> (first | exact hE | (have zf1 := @e2; refine XG ?_; clear zf1; first | exact rfl | exact True.intro | ((try (repeat' with_reducible refine And.intro ?_ ?_)); (try any_goals (first | refine zm ?_ | exact CL | fail))))))
end Go.Proofs.Ytblimjilinkmbaa
