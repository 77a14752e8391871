/- Rows of maps: cloned, put behind. No conditions but the ones that stand in each. -/
import Derived.Test.YtphaicaobepimaaE6
import Derived.Test.YtphaicaobepimaaDf
namespace Go.Proofs.Ytphaicaobepimaa
set_option linter.all false
set_option linter.unusedSimpArgs false
open Go.RowKit

theorem under_maps : Try.prog.underlying 28 = some (.slice 32) := by kernel_rfl
theorem clone_run {c : Cx} {ne : Bool} {x : TV} {v : AV} {b : Bool} (hb : nilq v = some b) : QRunT Try.prog c (.cA ne 28) [x, .c .nils] [v, .nils] (.bool (ne != b)) := cnil_run under_maps hb
theorem clone_no (gl : Nat → AV) (cap : Nat) : GS Try.prog gl 59 [.lit (.slice none 0 cap)] [] 0 .nils [] 0 := by
  refine ft_sClone.gs (of_decide_eq_true rfl) (by simp) fun c hN hg => ?_
  unfold T_sClone
  (refine XG ?_; ((try (repeat' with_reducible refine And.intro ?_ ?_)); (try any_goals (first | refine zm ?_ | exact CL | fail))))
  refine pr_qrunT ?_ (clone_run (b := true) (show nilq (.lit (.slice none 0 cap)) = some true from rfl)) ?_
  · (refine XG ?_; ((try (repeat' with_reducible refine And.intro ?_ ?_)); (try any_goals (first | refine zm ?_ | exact CL | fail))))
  (refine XG ?_; ((try (repeat' with_reducible refine And.intro ?_ ?_)); (try any_goals (first | refine zm ?_ | exact CL | fail))))
  (refine xw_ifp (fun h1 => ?_) (fun h1 => ?_) <;> try exact h1.elim)
  (refine XG ?_; ((try (repeat' with_reducible refine And.intro ?_ ?_)); (try any_goals (first | refine zm ?_ | exact CL | fail))))
  exact ⟨[], by (refine XG ?_; ((try (repeat' with_reducible refine And.intro ?_ ?_)); (try any_goals (first | refine zm ?_ | exact CL | fail))))⟩
theorem clone_some (gl : Nat → AV) (a : Addr) (cap : Nat) : GS Try.prog gl 59 [.lit (.slice (some a) 0 cap)] [] 0 (.sl 5 0 0 0 0) [(0, .cells [])] 1 := by
  refine ft_sClone.gs (of_decide_eq_true rfl) (by simp) fun c hN hg => ?_
  unfold T_sClone
  (refine XG ?_; ((try (repeat' with_reducible refine And.intro ?_ ?_)); (try any_goals (first | refine zm ?_ | exact CL | fail))))
  refine pr_qrunT ?_ (clone_run (b := false) (show nilq (.lit (.slice (some a) 0 cap)) = some false from rfl)) ?_
  · (refine XG ?_; ((try (repeat' with_reducible refine And.intro ?_ ?_)); (try any_goals (first | refine zm ?_ | exact CL | fail))))
  (refine XG ?_; ((try (repeat' with_reducible refine And.intro ?_ ?_)); (try any_goals (first | refine zm ?_ | exact CL | fail))))
  (refine xw_ifp (fun h1 => ?_) (fun h1 => ?_) <;> try exact h1.elim)
  (refine XG ?_; ((try (repeat' with_reducible refine And.intro ?_ ?_)); (try any_goals (first | refine zm ?_ | exact CL | fail))))
  ((first | apply pr_psv | apply prD_psv | apply pr_qrunv | apply prD_qrunv) <;> (first | exact bsl0_run | (have zf1 := @List.length_nil.{0}; refine XG ?_; clear zf1; first | exact rfl | exact True.intro | ((try (repeat' with_reducible refine And.intro ?_ ?_)); (try any_goals (first | refine zm ?_ | exact CL | fail))))))
  ((first | apply pr_app | apply prD_app | apply pr_bsl | apply prD_bsl | apply pr_s2b | apply prD_s2b); (refine XG ?_; ((try (repeat' with_reducible refine And.intro ?_ ?_)); (try any_goals (first | refine zm ?_ | exact CL | fail)))))
  refine ⟨[(0, 0)], ?_⟩
  (refine XG ?_; ((try (repeat' with_reducible refine And.intro ?_ ?_)); (try any_goals (first | refine zm ?_ | exact CL | fail))))
theorem clone_gs (gl : Nat → AV) (l : List Mp) (hn : l.length ≤ 1000000) : GS Try.prog gl 59 [.isl l.length (mps l)] [] 0 (.sl 5 0 0 l.length l.length) [(0, .cells (mps l))] 1 := by
  have hl := mps_len l
  cases l with
  | nil => exact GS.empty (clone_no gl) (clone_some gl)
  | cons x l =>
  have hnq : nilq (.isl (x :: l).length (mps (x :: l))) = some false := rfl
  generalize x :: l = l at *
  refine ft_sClone.gs (of_decide_eq_true rfl) (by simp) fun c hN hg => ?_
  unfold T_sClone
  (refine XG ?_; ((try (repeat' with_reducible refine And.intro ?_ ?_)); (try any_goals (first | refine zm ?_ | exact CL | fail))))
  refine pr_qrunT ?_ (clone_run (b := false) hnq) ?_
  · (refine XG ?_; ((try (repeat' with_reducible refine And.intro ?_ ?_)); (try any_goals (first | refine zm ?_ | exact CL | fail))))
  (refine XG ?_; ((try (repeat' with_reducible refine And.intro ?_ ?_)); (try any_goals (first | refine zm ?_ | exact CL | fail))))
  (refine xw_ifp (fun h1 => ?_) (fun h1 => ?_) <;> try exact h1.elim)
  (refine XG ?_; ((try (repeat' with_reducible refine And.intro ?_ ?_)); (try any_goals (first | refine zm ?_ | exact CL | fail))))
  ((first | apply pr_psv | apply prD_psv | apply pr_qrunv | apply prD_qrunv) <;> (first | exact bsl0_run | (refine XG ?_; first | exact rfl | exact True.intro | ((try (repeat' with_reducible refine And.intro ?_ ?_)); (try any_goals (first | refine zm ?_ | exact CL | fail))))))
  ((first | apply pr_app | apply prD_app | apply pr_bsl | apply prD_bsl | apply pr_s2b | apply prD_s2b); (have zf1 := @hl; refine XG ?_; clear zf1; ((try (repeat' with_reducible refine And.intro ?_ ?_)); (try any_goals (first | refine zm ?_ | exact CL | fail)))))
  refine ⟨[(0, 0)], ?_⟩
  (refine XG ?_; ((try (repeat' with_reducible refine And.intro ?_ ?_)); (try any_goals (first | refine zm ?_ | exact CL | fail))))
end Go.Proofs.Ytphaicaobepimaa
