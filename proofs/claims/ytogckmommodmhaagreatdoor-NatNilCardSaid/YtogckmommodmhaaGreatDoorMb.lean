/- A road that is nil: the walk. No conditions but the ones that stand in each. -/
import Derived.Test.YtogckmommodmhaaGreatDoorMa
namespace Go.Proofs.YtogckmommodmhaaGreatDoor
set_option linter.all false
set_option linter.unusedSimpArgs false
open Go.RowKit

def z30m : List AV := [.int .i64 0, .int .i64 0, .int .i64 0, .int .i64 0, .int .i64 0, .int .i64 0, .int .i64 0, .int .i64 0, .int .i64 0, .int .i64 0, .int .i64 0, .int .i64 0, .int .i64 0, .int .i64 0, .int .i64 0, .int .i64 0, .int .i64 0, .int .i64 0, .bool false, .bool false, .bool false, .int .i64 0, .int .i64 0, .int .i64 0, .int .i64 0, .int .i64 0, .int .i64 0, .int .i64 0, .int .i64 0, .nils]
def rpA (e : Int) (f : List UInt8) (i : Bool) (l : List UInt8) : List AV := [.int .i64 e, .str f, .bool i, .str l]
theorem eqSh_rp : eqSh Tryz.prog 100 27 = some [.int .i64, .str, .bool, .str] := by kernel_rfl
theorem rp_eq {c : Cx} {ne : Bool} {e e' : Int} {f f' : List UInt8} {i i' : Bool} {l l' : List UInt8} : QRun Tryz.prog c (.cA ne 27) [.agg (rpA e f i l), .agg (rpA e' f' i' l')] (.bool (ne != decide (e = e' ∧ f = f' ∧ i = i' ∧ l = l'))) :=
  cA_run eqSh_rp (by kernel_rfl) (by kernel_rfl) rfl rfl (by rw [decide_eq_true_eq]; simp [rpA])
theorem eqSh_pool0 : eqSh Tryz.prog 100 35 = some (List.replicate 18 (.int .i64) ++ List.replicate 3 .bool) := by kernel_rfl
theorem pool_same0 {c : Cx} {ne : Bool} : QRun Tryz.prog c (.cA ne 35) [.agg (z30m.take 21), .agg (z30m.take 21)] (.bool (ne != true)) :=
  cA_run eqSh_pool0 (by kernel_rfl) (by kernel_rfl) rfl rfl (by simp)
theorem eqSh_home0 : eqSh Tryz.prog 100 36 = some (List.replicate 8 (.int .i64)) := by kernel_rfl
theorem home_same0 {c : Cx} {ne : Bool} : QRun Tryz.prog c (.cA ne 36) [.agg ((z30m.drop 21).take 8), .agg ((z30m.drop 21).take 8)] (.bool (ne != true)) :=
  cA_run eqSh_home0 (by kernel_rfl) (by kernel_rfl) rfl rfl (by simp)
set_option maxHeartbeats 1000000 in
theorem nDo_nil (gl : Nat → AV) (k n d : Int) (f : List UInt8) : PS Tryz.prog gl 20 [.lit (.pointer none), .agg [.int .i64 k, .int .i64 n, .int .i64 d, .str f]] (.agg (rpA 7 [] false [])) := by
  refine ft_nDo.ps (of_decide_eq_true rfl) (by simp [nmOk, nmAll, rpA]) fun c hN hg => ?_
  unfold T_nDo rpA
  (refine XG ?_; ((try (repeat' with_reducible refine And.intro ?_ ?_)); (try any_goals (first | refine zm ?_ | exact CL | fail))))
  (refine xw_ifp (fun h1 => ?_) (fun h1 => ?_) <;> try exact h1.elim)
  (refine XG ?_; ((try (repeat' with_reducible refine And.intro ?_ ?_)); (try any_goals (first | refine zm ?_ | exact CL | fail))))
theorem nNow_nil (gl : Nat → AV) : PS Tryz.prog gl 21 [.lit (.pointer none)] (.int .i64 0) := by
  refine ft_nNow.ps (of_decide_eq_true rfl) (by simp [nmOk]) fun c hN hg => ?_
  unfold T_nNow
  (refine XG ?_; ((try (repeat' with_reducible refine And.intro ?_ ?_)); (try any_goals (first | refine zm ?_ | exact CL | fail))))
  (refine xw_ifp (fun h1 => ?_) (fun h1 => ?_) <;> try exact h1.elim)
  (refine XG ?_; ((try (repeat' with_reducible refine And.intro ?_ ?_)); (try any_goals (first | refine zm ?_ | exact CL | fail))))
theorem nFlows_nil (gl : Nat → AV) : PS Tryz.prog gl 24 [.lit (.pointer none)] .nils := by
  refine ft_nFlows.ps (of_decide_eq_true rfl) (by simp [nmOk]) fun c hN hg => ?_
  unfold T_nFlows
  (refine XG ?_; ((try (repeat' with_reducible refine And.intro ?_ ?_)); (try any_goals (first | refine zm ?_ | exact CL | fail))))
  (refine xw_ifp (fun h1 => ?_) (fun h1 => ?_) <;> try exact h1.elim)
  (refine XG ?_; ((try (repeat' with_reducible refine And.intro ?_ ?_)); (try any_goals (first | refine zm ?_ | exact CL | fail))))
set_option maxHeartbeats 1000000 in
theorem nTable_nil (gl : Nat → AV) : PS Tryz.prog gl 23 [.lit (.pointer none)] (.agg z30m) := by
  refine ft_nTable.ps (of_decide_eq_true rfl) (by simp [nmOk, nmAll, z30m]) fun c hN hg => ?_
  unfold T_nTable z30m
  (refine XG ?_; ((try (repeat' with_reducible refine And.intro ?_ ?_)); (try any_goals (first | refine zm ?_ | exact CL | fail))))
  (refine xw_ifp (fun h1 => ?_) (fun h1 => ?_) <;> try exact h1.elim)
  (refine XG ?_; ((try (repeat' with_reducible refine And.intro ?_ ?_)); (try any_goals (first | refine zm ?_ | exact CL | fail))))
set_option maxHeartbeats 2000000 in
theorem rSame0_ps (gl : Nat → AV) : PS Tryz.prog gl 22 [.agg z30m, .agg z30m] (.bool true) := by
  refine ft_rSame0.ps (of_decide_eq_true rfl) (by simp [nmOk]) fun c hN hg => ?_
  unfold T_rSame0
  have hp := @pool_same0 c true
  have hh := @home_same0 c true
  unfold z30m at hp hh ⊢
  simp only [List.take_succ_cons, List.take_zero, List.drop_succ_cons, List.drop_zero] at hp hh
  (refine XG ?_; ((try (repeat' with_reducible refine And.intro ?_ ?_)); (try any_goals (first | refine zm ?_ | exact CL | fail))))
  ((first | apply pr_psv | apply prD_psv | apply pr_qrunv | apply prD_qrunv) <;> (first | exact hp | (refine XG ?_; first | exact rfl | exact True.intro | ((try (repeat' with_reducible refine And.intro ?_ ?_)); (try any_goals (first | refine zm ?_ | exact CL | fail))))))
  (refine XG ?_; ((try (repeat' with_reducible refine And.intro ?_ ?_)); (try any_goals (first | refine zm ?_ | exact CL | fail))))
  ((first | apply pr_psv | apply prD_psv | apply pr_qrunv | apply prD_qrunv) <;> (first | exact hh | (refine XG ?_; first | exact rfl | exact True.intro | ((try (repeat' with_reducible refine And.intro ?_ ?_)); (try any_goals (first | refine zm ?_ | exact CL | fail))))))
  (refine XG ?_; ((try (repeat' with_reducible refine And.intro ?_ ?_)); (try any_goals (first | refine zm ?_ | exact CL | fail))))
  (refine xw_ifp (fun h1 => ?_) (fun h1 => ?_) <;> try exact h1.elim)
  (refine XG ?_; ((try (repeat' with_reducible refine And.intro ?_ ?_)); (try any_goals (first | refine zm ?_ | exact CL | fail))))
  refine loop_rule (fun k : Nat => k = 0) (fun k => ⟨[(29, .int .i64 0), (30, .int .i64 0)], [], 0⟩) (fun k => 0) ft_rSame0.mixed hN
    ⟨0, rfl, [], by (refine XG ?_; ((try (repeat' with_reducible refine And.intro ?_ ?_)); (try any_goals (first | refine zm ?_ | exact CL | fail))))⟩ fun k hk => ?_
  (refine XG ?_; ((try (repeat' with_reducible refine And.intro ?_ ?_)); (try any_goals (first | refine zm ?_ | exact CL | fail))))
  (refine xw_ifp (fun h2 => ?_) (fun h2 => ?_) <;> try exact h2.elim)
  (refine XG ?_; ((try (repeat' with_reducible refine And.intro ?_ ?_)); (try any_goals (first | refine zm ?_ | exact CL | fail))))
set_option maxHeartbeats 2000000 in
theorem NatNil_ps (gl : Nat → AV) (k n d : Int) (f : List UInt8) : PS Tryz.prog gl 3 [.agg [.int .i64 k, .int .i64 n, .int .i64 d, .str f]] (.bool true) := by
  refine ft_NatNil.ps (of_decide_eq_true rfl) (by simp [nmOk]) fun c hN hg => ?_
  unfold T_NatNil
  have hD := nDo_nil c.gl k n d f
  have hT := nTable_nil c.gl
  have hS := rSame0_ps c.gl
  have hE := @rp_eq c false 7 7 [] [] false false [] []
  unfold rpA at hD hE
  unfold z30m at hT hS
  (refine XG ?_; ((try (repeat' with_reducible refine And.intro ?_ ?_)); (try any_goals (first | refine zm ?_ | exact CL | fail))))
  ((first | apply pr_psv | apply prD_psv | apply pr_qrunv | apply prD_qrunv) <;> (first | exact hD | (refine XG ?_; first | exact rfl | exact True.intro | ((try (repeat' with_reducible refine And.intro ?_ ?_)); (try any_goals (first | refine zm ?_ | exact CL | fail))))))
  (refine XG ?_; ((try (repeat' with_reducible refine And.intro ?_ ?_)); (try any_goals (first | refine zm ?_ | exact CL | fail))))
  ((first | apply pr_psv | apply prD_psv | apply pr_qrunv | apply prD_qrunv) <;> (first | exact hE | (refine XG ?_; first | exact rfl | exact True.intro | ((try (repeat' with_reducible refine And.intro ?_ ?_)); (try any_goals (first | refine zm ?_ | exact CL | fail))))))
  (refine XG ?_; ((try (repeat' with_reducible refine And.intro ?_ ?_)); (try any_goals (first | refine zm ?_ | exact CL | fail))))
  ((refine pr_on ?_ ?_ ?_); (focus (refine XG ?_; try first | exact rfl | exact True.intro)); (focus (refine XG ?_; try trivial)))
  ((first | apply pr_psv | apply prD_psv | apply pr_qrunv | apply prD_qrunv) <;> (first | exact (nNow_nil c.gl) | (refine XG ?_; first | exact rfl | exact True.intro | ((try (repeat' with_reducible refine And.intro ?_ ?_)); (try any_goals (first | refine zm ?_ | exact CL | fail))))))
  (refine XG ?_; ((try (repeat' with_reducible refine And.intro ?_ ?_)); (try any_goals (first | refine zm ?_ | exact CL | fail))))
  ((refine pr_on ?_ ?_ ?_); (focus (refine XG ?_; try first | exact rfl | exact True.intro)); (focus (refine XG ?_; try trivial)))
  ((first | apply pr_psv | apply prD_psv | apply pr_qrunv | apply prD_qrunv) <;> (first | exact hT | (refine XG ?_; first | exact rfl | exact True.intro | ((try (repeat' with_reducible refine And.intro ?_ ?_)); (try any_goals (first | refine zm ?_ | exact CL | fail))))))
  (refine XG ?_; ((try (repeat' with_reducible refine And.intro ?_ ?_)); (try any_goals (first | refine zm ?_ | exact CL | fail))))
  ((refine pr_on ?_ ?_ ?_); (focus (refine XG ?_; try first | exact rfl | exact True.intro)); (focus (refine XG ?_; try trivial)))
  ((first | apply pr_psv | apply prD_psv | apply pr_qrunv | apply prD_qrunv) <;> (first | exact hS | (refine XG ?_; first | exact rfl | exact True.intro | ((try (repeat' with_reducible refine And.intro ?_ ?_)); (try any_goals (first | refine zm ?_ | exact CL | fail))))))
  (refine XG ?_; ((try (repeat' with_reducible refine And.intro ?_ ?_)); (try any_goals (first | refine zm ?_ | exact CL | fail))))
  ((refine pr_on ?_ ?_ ?_); (focus (refine XG ?_; try first | exact rfl | exact True.intro)); (focus (refine XG ?_; try trivial)))
  ((first | apply pr_psv | apply prD_psv | apply pr_qrunv | apply prD_qrunv) <;> (first | exact (nFlows_nil c.gl) | (refine XG ?_; first | exact rfl | exact True.intro | ((try (repeat' with_reducible refine And.intro ?_ ?_)); (try any_goals (first | refine zm ?_ | exact CL | fail))))))
end Go.Proofs.YtogckmommodmhaaGreatDoor
