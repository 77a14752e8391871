/- The walk of the statement RecordReads. No conditions but the ones that stand in each. -/
import Derived.Test.YtglkiaiipkdkbaaDoorRp
namespace Go.Proofs.YtglkiaiipkdkbaaDoor
set_option linter.all false
set_option linter.unusedSimpArgs false
open Go.RowKit

def evKs : List SK := [.int .i64, .int .i64, .int .i64, .int .i64, .bool]
theorem eqSh_ev : eqSh Tryd.prog 100 34 = some evKs := by kernel_rfl
theorem ev_kinds (e : Ev) : e.enc.map kindA = evKs.map some := rfl
theorem ev_eq5 {c : Cx} {ne : Bool} (e : Ev) : QRun Tryd.prog c (.cA ne 34) [.agg e.enc, .agg e.enc] (.bool (ne != true)) :=
  cA_run eqSh_ev (by kernel_rfl) (by kernel_rfl) (ev_kinds e) (ev_kinds e) (by simp)
/-- How many events were read: each took 21 bytes. -/
theorem rdEvs_len {time : Int} : ∀ {m : Nat} {l l' : List Ev} {b : List UInt8}, rdEvs time m l b = some l' → l'.length = l.length + m
  | 0, l, l', b, h => by rw [rdEvs] at h; cases h; rfl
  | m + 1, l, l', b, h => by
    rw [rdEvs] at h
    split at h
    · cases h
    · split at h
      · have := rdEvs_len h
        rw [List.length_append] at this
        simp only [List.length_cons, List.length_nil] at this; omega
      · cases h
theorem rdLogF_len : ∀ {f : Nat} {l l' : List Ev} {k : Bool} {s : List UInt8}, rdLogF f l k s = .ok l' → l'.length * 21 ≤ l.length * 21 + s.length
  | 0, l, l', k, s, h => by rw [rdLogF] at h; cases h; omega
  | f + 1, l, l', k, s, h => by
    by_cases h0 : s = []
    · subst h0; rw [rf_nil] at h; cases h; simp
    by_cases h1 : hdOk s
    rotate_left
    · rw [rf1 h0 h1] at h; cases h
    by_cases h2 : setOk s
    rotate_left
    · rw [rf2 h0 h1 h2] at h; cases h
    by_cases h3 : n4 s 8 = l.length
    rotate_left
    · rw [rf3 h0 h1 h2 h3] at h; cases h
    by_cases h4 : n2 s 16 = 2
    · by_cases h5 : msgB l.length 0 2 (tmpl 6) = s.take (msgN s)
      · rw [rf5 h0 h1 h2 h3 h4 h5] at h
        have := rdLogF_len h
        rw [List.length_drop] at this; omega
      · rw [rf4 h0 h1 h2 h3 h4 h5] at h; cases h
    cases k with
    | false => rw [rf6 h0 h1 h2 h3 h4 rfl] at h; cases h
    | true =>
      by_cases h6 : msgN s = 20 ∨ (msgN s - 20) % 21 ≠ 0
      · rw [rf7 h0 h1 h2 h3 h4 rfl h6] at h; cases h
      · rw [rf8 h0 h1 h2 h3 h4 rfl h6] at h
        obtain ⟨a1, a2, a3, a4, a5⟩ := h1
        have hn : msgN s ≤ s.length ∧ 20 ≤ msgN s := by unfold msgN; omega
        split at h
        · cases h
        · rename_i l2 hl2
          have g1 := rdEvs_len hl2
          have g2 := rdLogF_len h
          rw [List.length_drop] at g2; omega
set_option maxHeartbeats 1000000 in
theorem RecordReads_ps (gl : Nat → AV) (h0 : gl 0 = .xp (ints fieldsL) 0) (s : List UInt8) (hl : s.length ≤ 140737488355328) : PS Tryd.prog gl 6 [.str s] (.bool true) := by
  refine ft_RecordReads.ps (of_decide_eq_true rfl) (by simp [nmOk]) fun c hN hg => ?_
  unfold T_RecordReads
  have ha := Read_ps c.gl (by rw [hg]; exact h0) s hl
  have hb := ReadLog_ps c.gl s hl
  have htl := tellsL_ps c.gl (by rw [hg]; exact h0)
  have hlen : ∀ l, rdLog s = .ok l → l.length * 21 ≤ s.length := fun l h => by
    have := rdLogF_len h
    simpa using this
  generalize rdLog s = R at *
  cases R with
  | error e =>
    unfold rdAV errR at ha hb
    dsimp only at ha hb
    (refine XG ?_; ((try (repeat' with_reducible refine And.intro ?_ ?_)); (try any_goals (first | refine zm ?_ | exact CL | fail))))
    ((first | apply pr_psv | apply prD_psv | apply pr_qrunv | apply prD_qrunv) <;> (first | exact ha | (refine XG ?_; first | exact rfl | exact True.intro | ((try (repeat' with_reducible refine And.intro ?_ ?_)); (try any_goals (first | refine zm ?_ | exact CL | fail))))))
    ((first | apply pr_psv | apply prD_psv | apply pr_qrunv | apply prD_qrunv) <;> (first | exact hb | (refine XG ?_; first | exact rfl | exact True.intro | ((try (repeat' with_reducible refine And.intro ?_ ?_)); (try any_goals (first | refine zm ?_ | exact CL | fail))))))
    (refine xw_ifp (fun g1 => ?_) (fun g1 => ?_) <;> try exact g1.elim)
    (refine XG ?_; ((try (repeat' with_reducible refine And.intro ?_ ?_)); (try any_goals (first | refine zm ?_ | exact CL | fail))))
    refine loop_rule (fun _ : Unit => True) (fun _ => ⟨[(29, .int .i64 0), (30, .int .i64 0)], [], 0⟩) (fun _ => 0) ft_RecordReads.mixed hN ⟨(), trivial, [], by (refine XG ?_; ((try (repeat' with_reducible refine And.intro ?_ ?_)); (try any_goals (first | refine zm ?_ | exact CL | fail))))⟩ fun _ _ => ?_
    (refine XG ?_; ((try (repeat' with_reducible refine And.intro ?_ ?_)); (try any_goals (first | refine zm ?_ | exact CL | fail))))
    (refine xw_ifp (fun g2 => ?_) (fun g2 => ?_) <;> try exact g2.elim)
    (refine XG ?_; ((try (repeat' with_reducible refine And.intro ?_ ?_)); (try any_goals (first | refine zm ?_ | exact CL | fail))))
    ((first | apply pr_psv | apply prD_psv | apply pr_qrunv | apply prD_qrunv) <;> (first | exact htl | (refine XG ?_; first | exact rfl | exact True.intro | ((try (repeat' with_reducible refine And.intro ?_ ?_)); (try any_goals (first | refine zm ?_ | exact CL | fail))))))
  | ok l =>
    have hll := hlen l rfl
    have hel := evs5_len l
    unfold rdAV okR at ha hb
    dsimp only at ha hb
    (refine XG ?_; ((try (repeat' with_reducible refine And.intro ?_ ?_)); (try any_goals (first | refine zm ?_ | exact CL | fail))))
    ((first | apply pr_psv | apply prD_psv | apply pr_qrunv | apply prD_qrunv) <;> (first | exact ha | (refine XG ?_; first | exact rfl | exact True.intro | ((try (repeat' with_reducible refine And.intro ?_ ?_)); (try any_goals (first | refine zm ?_ | exact CL | fail))))))
    ((first | apply pr_psv | apply prD_psv | apply pr_qrunv | apply prD_qrunv) <;> (first | exact hb | (refine XG ?_; first | exact rfl | exact True.intro | ((try (repeat' with_reducible refine And.intro ?_ ?_)); (try any_goals (first | refine zm ?_ | exact CL | fail))))))
    (refine xw_ifp (fun g1 => ?_) (fun g1 => ?_) <;> try exact g1.elim)
    (refine XG ?_; ((try (repeat' with_reducible refine And.intro ?_ ?_)); (try any_goals (first | refine zm ?_ | exact CL | fail))))
    refine loop_rule (fun k : Nat => k ≤ l.length) (fun k => ⟨[(3, .isl l.length (evs5 l)), (5, .isl l.length (evs5 l)), (29, .int .i64 l.length), (30, .int .i64 k)], [], 0⟩) (fun k => l.length - k) ft_RecordReads.mixed hN ⟨0, by omega, [], by (refine XG ?_; ((try (repeat' with_reducible refine And.intro ?_ ?_)); (try any_goals (first | refine zm ?_ | exact CL | fail))))⟩ fun k hk => ?_
    (refine XG ?_; ((try (repeat' with_reducible refine And.intro ?_ ?_)); (try any_goals (first | refine zm ?_ | exact CL | fail))))
    (refine xw_ifp (fun g2 => ?_) (fun g2 => ?_) <;> try exact g2.elim)
    · have hkn : k < l.length := by omega
      have hcut := evs5_cut l k hkn
      have heq := @ev_eq5 c true l[k]
      generalize l[k] = e at *
      (have zf1 := @hel; have zf2 := @hcut; refine XG ?_; clear zf1 zf2; ((try (repeat' with_reducible refine And.intro ?_ ?_)); (try any_goals (first | refine zm ?_ | exact CL | fail))))
      ((first | apply pr_psv | apply prD_psv | apply pr_qrunv | apply prD_qrunv) <;> (first | exact heq | (have zf1 := @hel; have zf2 := @hcut; refine XG ?_; clear zf1 zf2; first | exact rfl | exact True.intro | ((try (repeat' with_reducible refine And.intro ?_ ?_)); (try any_goals (first | refine zm ?_ | exact CL | fail))))))
      (refine xw_ifp (fun g3 => ?_) (fun g3 => ?_) <;> try exact g3.elim)
      (refine XG ?_; ((try (repeat' with_reducible refine And.intro ?_ ?_)); (try any_goals (first | refine zm ?_ | exact CL | fail))))
      refine ⟨k + 1, by omega, ⟨[], ?_⟩, by omega⟩
      (refine XG ?_; ((try (repeat' with_reducible refine And.intro ?_ ?_)); (try any_goals (first | refine zm ?_ | exact CL | fail))))
    · (refine XG ?_; ((try (repeat' with_reducible refine And.intro ?_ ?_)); (try any_goals (first | refine zm ?_ | exact CL | fail))))
      ((first | apply pr_psv | apply prD_psv | apply pr_qrunv | apply prD_qrunv) <;> (first | exact htl | (refine XG ?_; first | exact rfl | exact True.intro | ((try (repeat' with_reducible refine And.intro ?_ ?_)); (try any_goals (first | refine zm ?_ | exact CL | fail))))))
end Go.Proofs.YtglkiaiipkdkbaaDoor
