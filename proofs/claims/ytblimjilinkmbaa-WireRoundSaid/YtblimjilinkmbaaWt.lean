/- The walks of the statements on building and reading. No conditions but the ones that stand in each. -/
import Derived.Test.YtblimjilinkmbaaWr
import Derived.Test.YtblimjilinkmbaaWv
namespace Go.Proofs.Ytblimjilinkmbaa
set_option linter.all false
set_option linter.unusedSimpArgs false
open Go.RowKit

def pkKs : List SK := List.replicate 11 (.int .i64) ++ [.str]
theorem eqSh_pk : eqSh Try.prog 100 23 = some pkKs := by kernel_rfl
theorem pk_kinds (p : Pk) : p.enc.map kindA = pkKs.map some := rfl
theorem pk_eq {c : Cx} {ne : Bool} (p : Pk) : QRun Try.prog c (.cA ne 23) [.agg p.enc, .agg p.enc] (.bool (ne != true)) :=
  cA_run eqSh_pk (by kernel_rfl) (by kernel_rfl) (pk_kinds p) (pk_kinds p) (by simp)
theorem Build_ok (gl : Nat → AV) {p : Pk} (h : pkErr p = 0) : PS Try.prog gl 11 [.agg p.enc] (.tup [.str (buildB p), .int .i64 0]) := by
  have := Build_ps gl p
  unfold buildT at this
  rwa [if_pos h] at this
theorem BuildR_ok (gl : Nat → AV) {p : Pk} (h : pkErr p = 0) : PS Try.prog gl 12 [.agg p.enc] (.tup [.str (buildB p), .int .i64 0]) := by
  have hp := (pkErr_ok h).1
  rcases p with ⟨proto, frm, sport, dst, dport, ttl, id, flags, seq, ack, win, body⟩
  dsimp only at hp
  rcases hp with rfl | rfl | rfl
  · exact buildR_ping gl frm sport dst dport ttl id flags seq ack win body h
  · exact buildR_tcp gl frm sport dst dport ttl id flags seq ack win body h
  · exact buildR_udp gl frm sport dst dport ttl id flags seq ack win body h
theorem Parse_ok (gl : Nat → AV) {p : Pk} (h : pkErr p = 0) : PS Try.prog gl 16 [.str (buildB p)] (.tup [.agg p.enc, .int .i64 0]) := by
  obtain ⟨hp, hr, hl, hf⟩ := pkErr_ok h
  have hb := segN_bd p hp hl
  have hP := Parse_ps gl (buildB p) (by rw [buildB_len]; omega)
  obtain ⟨h1, h2⟩ := parse_build p h
  rwa [parse_good h1, h2] at hP
theorem Parse_bad (gl : Nat → AV) {l : List UInt8} {e : Int} (hl : l.length ≤ 140737488351232) (h : rdE l = e) (he : e ≠ 0) : PS Try.prog gl 16 [.str l] (.tup [.agg pk0.enc, .int .i64 e]) := by
  have hP := Parse_ps gl l hl
  rwa [parse_bad h he] at hP
def pgL : Pk := ⟨1, 1, 7, 2, 0, 9, 0, 8, 0, 0, 0, []⟩
theorem pgL_ok : pkErr pgL = 0 := by decide
theorem pgL_len : (buildB pgL).length = 28 := by rw [buildB_len, segN_val _ (.inl rfl)]; rfl
theorem ping_ps (gl : Nat → AV) : PS Try.prog gl 35 [] (.agg pgL.enc) := by
  refine ft_pingL.ps (of_decide_eq_true rfl) (by simp [nmOk, nmAll, pgL, Pk.enc]) fun c hN hg => ?_
  unfold T_pingL pgL Pk.enc
  (refine XG ?_; ((try (repeat' with_reducible refine And.intro ?_ ?_)); (try any_goals (first | refine zm ?_ | exact CL | fail))))
set_option maxHeartbeats 1000000 in
theorem buildsL_ps (gl : Nat → AV) : PS Try.prog gl 15 [] (.bool true) := by
  refine ft_buildsL.ps (of_decide_eq_true rfl) (by simp [nmOk]) fun c hN hg => ?_
  unfold T_buildsL
  have h1 := ping_ps c.gl
  have h2 := Build_ok c.gl pgL_ok
  have h3 := Parse_ok c.gl pgL_ok
  have h4 := pgL_len
  have h5 := @pk_eq c false pgL
  generalize buildB pgL = B at *
  unfold pgL Pk.enc at h1 h2 h3 h5
  dsimp only at h1 h2 h3 h5
  (refine XG ?_; ((try (repeat' with_reducible refine And.intro ?_ ?_)); (try any_goals (first | refine zm ?_ | exact CL | fail))))
  ((first | apply pr_psv | apply prD_psv | apply pr_qrunv | apply prD_qrunv) <;> (first | exact h1 | (refine XG ?_; first | exact rfl | exact True.intro | ((try (repeat' with_reducible refine And.intro ?_ ?_)); (try any_goals (first | refine zm ?_ | exact CL | fail))))))
  ((first | apply pr_psv | apply prD_psv | apply pr_qrunv | apply prD_qrunv) <;> (first | exact h2 | (refine XG ?_; first | exact rfl | exact True.intro | ((try (repeat' with_reducible refine And.intro ?_ ?_)); (try any_goals (first | refine zm ?_ | exact CL | fail))))))
  ((first | apply pr_psv | apply prD_psv | apply pr_qrunv | apply prD_qrunv) <;> (first | exact h3 | (refine XG ?_; first | exact rfl | exact True.intro | ((try (repeat' with_reducible refine And.intro ?_ ?_)); (try any_goals (first | refine zm ?_ | exact CL | fail))))))
  ((first | apply pr_psv | apply prD_psv | apply pr_qrunv | apply prD_qrunv) <;> (first | exact h1 | (have zf1 := @h4; refine XG ?_; clear zf1; first | exact rfl | exact True.intro | ((try (repeat' with_reducible refine And.intro ?_ ?_)); (try any_goals (first | refine zm ?_ | exact CL | fail))))))
  ((first | apply pr_psv | apply prD_psv | apply pr_qrunv | apply prD_qrunv) <;> (first | exact h5 | (have zf1 := @h4; refine XG ?_; clear zf1; first | exact rfl | exact True.intro | ((try (repeat' with_reducible refine And.intro ?_ ?_)); (try any_goals (first | refine zm ?_ | exact CL | fail))))))
theorem buildsK_ps (gl : Nat → AV) : PS Try.prog gl 18 [] (.bool true) := by
  refine ft_buildsK.ps (of_decide_eq_true rfl) (by simp [nmOk]) fun c hN hg => ?_
  unfold T_buildsK
  have h2 := Build_ok c.gl pgL_ok
  have h4 := pgL_len
  generalize buildB pgL = B at *
  unfold pgL Pk.enc at h2
  dsimp only at h2
  (refine XG ?_; ((try (repeat' with_reducible refine And.intro ?_ ?_)); (try any_goals (first | refine zm ?_ | exact CL | fail))))
  ((first | apply pr_psv | apply prD_psv | apply pr_qrunv | apply prD_qrunv) <;> (first | exact h2 | (have zf1 := @h4; refine XG ?_; clear zf1; first | exact rfl | exact True.intro | ((try (repeat' with_reducible refine And.intro ?_ ?_)); (try any_goals (first | refine zm ?_ | exact CL | fail))))))
set_option maxHeartbeats 2000000 in
theorem WireBuilds_ps (gl : Nat → AV) (p : Pk) (hok : pkOk p) : PS Try.prog gl 3 [.agg p.enc] (.bool true) := by
  refine ft_LBuilds.ps (of_decide_eq_true rfl) (by simp [nmOk]) fun c hN hg => ?_
  unfold T_LBuilds
  have h1 : ∃ s e, PS Try.prog c.gl 11 [.agg p.enc] (.tup [.str s, .int .i64 e]) ∧ PS Try.prog c.gl 12 [.agg p.enc] (.tup [.str s, .int .i64 e]) := by
    by_cases h : pkErr p = 0
    · exact ⟨_, _, Build_ok _ h, BuildR_ok _ h⟩
    · exact ⟨_, _, build_err _ _ h, buildR_err _ _ hok h⟩
  obtain ⟨s, e, h1, h2⟩ := h1
  have h3 := wGood_ps c.gl p
  have h4 := rGood_ps c.gl p hok
  generalize pkErr p = E at *
  unfold Pk.enc at h1 h2 h3 h4 ⊢
  (refine XG ?_; ((try (repeat' with_reducible refine And.intro ?_ ?_)); (try any_goals (first | refine zm ?_ | exact CL | fail))))
  ((first | apply pr_psv | apply prD_psv | apply pr_qrunv | apply prD_qrunv) <;> (first | exact h1 | (refine XG ?_; first | exact rfl | exact True.intro | ((try (repeat' with_reducible refine And.intro ?_ ?_)); (try any_goals (first | refine zm ?_ | exact CL | fail))))))
  ((first | apply pr_psv | apply prD_psv | apply pr_qrunv | apply prD_qrunv) <;> (first | exact h2 | (refine XG ?_; first | exact rfl | exact True.intro | ((try (repeat' with_reducible refine And.intro ?_ ?_)); (try any_goals (first | refine zm ?_ | exact CL | fail))))))
  ((first | apply pr_psv | apply prD_psv | apply pr_qrunv | apply prD_qrunv) <;> (first | exact h3 | (refine XG ?_; first | exact rfl | exact True.intro | ((try (repeat' with_reducible refine And.intro ?_ ?_)); (try any_goals (first | refine zm ?_ | exact CL | fail))))))
  ((first | apply pr_psv | apply prD_psv | apply pr_qrunv | apply prD_qrunv) <;> (first | exact h4 | (refine XG ?_; first | exact rfl | exact True.intro | ((try (repeat' with_reducible refine And.intro ?_ ?_)); (try any_goals (first | refine zm ?_ | exact CL | fail))))))
  ((first | apply pr_psv | apply prD_psv | apply pr_qrunv | apply prD_qrunv) <;> (first | exact (buildsL_ps _) | (refine XG ?_; first | exact rfl | exact True.intro | ((try (repeat' with_reducible refine And.intro ?_ ?_)); (try any_goals (first | refine zm ?_ | exact CL | fail))))))
set_option maxHeartbeats 2000000 in
theorem WireParses_ps (gl : Nat → AV) (l : List UInt8) (hl : l.length ≤ 140737488351232) : PS Try.prog gl 4 [.str l] (.bool true) := by
  refine ft_LParses.ps (of_decide_eq_true rfl) (by simp [nmOk]) fun c hN hg => ?_
  unfold T_LParses
  have h1 : ∃ (q : Pk) (e : Int), parseT l = .tup [.agg q.enc, .int .i64 e] := by
    unfold parseT; split <;> exact ⟨_, _, rfl⟩
  obtain ⟨q, e, hq⟩ := h1
  have h2 := Parse_ps c.gl l hl
  have h3 := ParseR_ps c.gl l hl
  rw [hq] at h2 h3
  have h5 := @pk_eq c false q
  unfold Pk.enc at h2 h3 h5
  (refine XG ?_; ((try (repeat' with_reducible refine And.intro ?_ ?_)); (try any_goals (first | refine zm ?_ | exact CL | fail))))
  ((first | apply pr_psv | apply prD_psv | apply pr_qrunv | apply prD_qrunv) <;> (first | exact h2 | (refine XG ?_; first | exact rfl | exact True.intro | ((try (repeat' with_reducible refine And.intro ?_ ?_)); (try any_goals (first | refine zm ?_ | exact CL | fail))))))
  ((first | apply pr_psv | apply prD_psv | apply pr_qrunv | apply prD_qrunv) <;> (first | exact h3 | (refine XG ?_; first | exact rfl | exact True.intro | ((try (repeat' with_reducible refine And.intro ?_ ?_)); (try any_goals (first | refine zm ?_ | exact CL | fail))))))
  ((first | apply pr_psv | apply prD_psv | apply pr_qrunv | apply prD_qrunv) <;> (first | exact h5 | (refine XG ?_; first | exact rfl | exact True.intro | ((try (repeat' with_reducible refine And.intro ?_ ?_)); (try any_goals (first | refine zm ?_ | exact CL | fail))))))
  ((first | apply pr_psv | apply prD_psv | apply pr_qrunv | apply prD_qrunv) <;> (first | exact (buildsL_ps _) | (refine XG ?_; first | exact rfl | exact True.intro | ((try (repeat' with_reducible refine And.intro ?_ ?_)); (try any_goals (first | refine zm ?_ | exact CL | fail))))))
end Go.Proofs.Ytblimjilinkmbaa
