/- Wheels that are nil, and that wheel answers at all. No conditions but the ones that stand in each. -/
import Derived.Test.YtphaicaobepimaaVa
import Derived.Test.YtphaicaobepimaaEa
namespace Go.Proofs.Ytphaicaobepimaa
set_option linter.all false
set_option linter.unusedSimpArgs false
open Go.RowKit

theorem e_allc (Q : AV × AV → Prop) (a : AV × AV) (l : List (AV × AV)) : (∀ x, x ∈ a :: l → Q x) = (Q a ∧ ∀ x, x ∈ l → Q x) := propext List.forall_mem_cons
theorem e_alln (Q : AV × AV → Prop) : (∀ x, x ∈ ([] : List (AV × AV)) → Q x) = True := by simp
theorem e_rvs_nil (s : FS) : rvs s [] = .tup [] := rfl
theorem e_renB_mapb (ρ : Nat → Nat) (kvs : List (AV × AV)) (dn : Bool) : renB ρ (.mapb kvs dn) = .mapb (kvs.map fun p => (ren ρ p.1, ren ρ p.2)) dn := rfl
attribute [go_sem] e_allc e_alln e_rvs_nil e_renB_mapb
theorem mtD : MapT Try.prog 61 false [.int .i64] (.int .i64 0) := MapT.mk' (by kernel_rfl)
theorem nAdv_ps (gl : Nat → AV) (n : Int) : PS Try.prog gl 36 [.lit (.pointer none), .int .i64 n] (.tup [.nils, .int .i64 7]) := by
  refine ft_wAdv.ps (of_decide_eq_true rfl) (by simp [nmOk, nmAll]) fun c hN hg => ?_
  unfold T_wAdv
  (refine XG ?_; ((try (repeat' with_reducible refine And.intro ?_ ?_)); (try any_goals (first | refine zm ?_ | exact CL | fail))))
  (refine xw_ifp (fun h1 => ?_) (fun h1 => ?_) <;> try exact h1.elim)
  (refine XG ?_; ((try (repeat' with_reducible refine And.intro ?_ ?_)); (try any_goals (first | refine zm ?_ | exact CL | fail))))
theorem nDue_ps (gl : Nat → AV) (n : Int) : PS Try.prog gl 39 [.lit (.pointer none), .int .i64 n] (.tup [.int .i64 0, .bool false]) := by
  refine ft_wDue.ps (of_decide_eq_true rfl) (by simp [nmOk, nmAll]) fun c hN hg => ?_
  unfold T_wDue
  (refine XG ?_; ((try (repeat' with_reducible refine And.intro ?_ ?_)); (try any_goals (first | refine zm ?_ | exact CL | fail))))
  (refine xw_ifp (fun h1 => ?_) (fun h1 => ?_) <;> try exact h1.elim)
  (refine XG ?_; ((try (repeat' with_reducible refine And.intro ?_ ?_)); (try any_goals (first | refine zm ?_ | exact CL | fail))))
theorem nArm_ps (gl : Nat → AV) (n m : Int) : PS Try.prog gl 35 [.lit (.pointer none), .int .i64 n, .int .i64 m] (.int .i64 7) := by
  refine ft_wArm.ps (of_decide_eq_true rfl) (by simp [nmOk, nmAll]) fun c hN hg => ?_
  unfold T_wArm
  (refine XG ?_; ((try (repeat' with_reducible refine And.intro ?_ ?_)); (try any_goals (first | refine zm ?_ | exact CL | fail))))
  (refine xw_ifp (fun h1 => ?_) (fun h1 => ?_) <;> try exact h1.elim)
  (refine XG ?_; ((try (repeat' with_reducible refine And.intro ?_ ?_)); (try any_goals (first | refine zm ?_ | exact CL | fail))))
theorem nCancel_ps (gl : Nat → AV) (n : Int) : PS Try.prog gl 40 [.lit (.pointer none), .int .i64 n] (.int .i64 7) := by
  refine ft_wCancel.ps (of_decide_eq_true rfl) (by simp [nmOk, nmAll]) fun c hN hg => ?_
  unfold T_wCancel
  (refine XG ?_; ((try (repeat' with_reducible refine And.intro ?_ ?_)); (try any_goals (first | refine zm ?_ | exact CL | fail))))
  (refine xw_ifp (fun h1 => ?_) (fun h1 => ?_) <;> try exact h1.elim)
  (refine XG ?_; ((try (repeat' with_reducible refine And.intro ?_ ?_)); (try any_goals (first | refine zm ?_ | exact CL | fail))))
theorem nNow_ps (gl : Nat → AV) : PS Try.prog gl 38 [.lit (.pointer none)] (.int .i64 0) := by
  refine ft_wNow.ps (of_decide_eq_true rfl) (by simp [nmOk, nmAll]) fun c hN hg => ?_
  unfold T_wNow
  (refine XG ?_; ((try (repeat' with_reducible refine And.intro ?_ ?_)); (try any_goals (first | refine zm ?_ | exact CL | fail))))
  (refine xw_ifp (fun h1 => ?_) (fun h1 => ?_) <;> try exact h1.elim)
  (refine XG ?_; ((try (repeat' with_reducible refine And.intro ?_ ?_)); (try any_goals (first | refine zm ?_ | exact CL | fail))))
theorem nMany_ps (gl : Nat → AV) : PS Try.prog gl 37 [.lit (.pointer none)] (.int .i64 0) := by
  refine ft_wMany.ps (of_decide_eq_true rfl) (by simp [nmOk, nmAll]) fun c hN hg => ?_
  unfold T_wMany
  (refine XG ?_; ((try (repeat' with_reducible refine And.intro ?_ ?_)); (try any_goals (first | refine zm ?_ | exact CL | fail))))
  (refine xw_ifp (fun h1 => ?_) (fun h1 => ?_) <;> try exact h1.elim)
  (refine XG ?_; ((try (repeat' with_reducible refine And.intro ?_ ?_)); (try any_goals (first | refine zm ?_ | exact CL | fail))))
/-- A wheel's cells, all rows nil. -/
def whN (n : Int) : List AV := [.int .i64 n, .nils, .nils, .nils, .nils, .nils, .nils, .nils, .nils, .nils, .nils, .nils, .nils, .nils, .nils, .nils, .nils, .nils, .nils, .nils, .nils, .nils, .nils, .nils, .nils, .nils, .nils, .nils, .nils, .nils, .nils, .nils, .nils, .nils, .nils, .nils, .nils, .nils, .nils, .nils, .nils, .nils, .nils, .nils, .nils, .nils, .nils, .nils, .nils, .nils, .nils, .nils, .nils, .nils, .nils, .nils, .nils, .nils, .nils, .nils, .nils, .nils, .nils, .nils, .nils, .nils, .mp 1]
def wh9 : List AV := [.int .i64 3, .nils, .nils, .nils, .nils, .nils, .nils, .nils, .nils, .nils, .sl 2 2 0 1 1, .nils, .nils, .nils, .nils, .nils, .nils, .nils, .nils, .nils, .nils, .nils, .nils, .nils, .nils, .nils, .nils, .nils, .nils, .nils, .nils, .nils, .nils, .nils, .nils, .nils, .nils, .nils, .nils, .nils, .nils, .nils, .nils, .nils, .nils, .nils, .nils, .nils, .nils, .nils, .nils, .nils, .nils, .nils, .nils, .nils, .nils, .nils, .nils, .nils, .nils, .nils, .nils, .nils, .nils, .nils, .mp 1]
theorem kv_nil (ks : List SK) : KeysOk false ks [] := fun p hp => by cases hp
theorem wNew_gs (gl : Nat → AV) (n : Int) (h0 : 0 ≤ n) (h1 : n ≤ 1099511627776) : GS Try.prog gl 33 [.int .i64 n] [] 0 (.tup [.ptr 0 0, .int .i64 0]) [(0, .cells (whN n)), (1, .mapb [] true)] 2 := by
  refine ft_wNew.gs (of_decide_eq_true rfl) (by simp [Bk.live]) fun c hgh hg => ?_
  unfold T_wNew
  (refine XG ?_; ((try (repeat' with_reducible refine And.intro ?_ ?_)); (try any_goals (first | refine zm ?_ | exact CL | fail))))
  (refine xw_ifp (fun h2 => ?_) (fun h2 => ?_) <;> try exact h2.elim)
  · omega
  (refine XG ?_; ((try (repeat' with_reducible refine And.intro ?_ ?_)); (try any_goals (first | refine zm ?_ | exact CL | fail))))
  (refine pr_mkm mtD ?_; (refine XG ?_; ((try (repeat' with_reducible refine And.intro ?_ ?_)); (try any_goals (first | refine zm ?_ | exact CL | fail)))))
  refine ⟨[(0, 1), (1, 0)], ?_⟩
  (have zf1 := @whN.eq_1; refine XG ?_; clear zf1; ((try (repeat' with_reducible refine And.intro ?_ ?_)); (try any_goals (first | refine zm ?_ | exact CL | fail))))
theorem wNew_bad (gl : Nat → AV) (n : Int) (h : n < 0 ∨ 1099511627776 < n) : PS Try.prog gl 33 [.int .i64 n] (.tup [.lit (.pointer none), .int .i64 2]) := by
  refine ft_wNew.ps (of_decide_eq_true rfl) (by simp [nmOk, nmAll]) fun c hN hg => ?_
  unfold T_wNew
  (refine XG ?_; ((try (repeat' with_reducible refine And.intro ?_ ?_)); (try any_goals (first | refine zm ?_ | exact CL | fail))))
  (refine xw_ifp (fun h2 => ?_) (fun h2 => ?_) <;> try exact h2.elim)
  · (refine XG ?_; ((try (repeat' with_reducible refine And.intro ?_ ?_)); (try any_goals (first | refine zm ?_ | exact CL | fail))))
  · omega
theorem tCancel_gs (gl : Nat → AV) : GS Try.prog gl 40 [.ptr 0 0, .int .i64 1] [(0, .cells (whN 3)), (1, .mapb [] true)] 2 (.int .i64 7) [(0, .cells (whN 3)), (1, .mapb [] true)] 2 := by
  refine ft_wCancel.gs (of_decide_eq_true rfl) (by simp [Bk.live]) fun c hgh hg => ?_
  unfold T_wCancel
  have hk := kv_nil [.int .i64]
  have hg : getA [] (.int .i64 1) (.int .i64 0) = .int .i64 0 := rfl
  have hh : hasA [] (.int .i64 1) = false := rfl
  unfold whN
  (refine XG ?_; ((try (repeat' with_reducible refine And.intro ?_ ?_)); (try any_goals (first | refine zm ?_ | exact CL | fail))))
  (refine xw_ifp (fun h1 => ?_) (fun h1 => ?_) <;> try exact h1.elim)
  (refine XG ?_; ((try (repeat' with_reducible refine And.intro ?_ ?_)); (try any_goals (first | refine zm ?_ | exact CL | fail))))
  ((first | refine pr_lkp mtD ?_ | refine prD_lkp mtD ?_); (have zf1 := @hk; have zf2 := @hg; have zf3 := @hh; refine XG ?_; clear zf1 zf2 zf3; ((try (repeat' with_reducible refine And.intro ?_ ?_)); (try any_goals (first | refine zm ?_ | exact CL | fail)))))
  (refine xw_ifp (fun h2 => ?_) (fun h2 => ?_) <;> try exact h2.elim)
  (refine XG ?_; ((try (repeat' with_reducible refine And.intro ?_ ?_)); (try any_goals (first | refine zm ?_ | exact CL | fail))))
  refine ⟨[], ?_⟩
  (refine XG ?_; ((try (repeat' with_reducible refine And.intro ?_ ?_)); (try any_goals (first | refine zm ?_ | exact CL | fail))))
def map9 : List (AV × AV) := [(.int .i64 1, .int .i64 9)]
theorem kv_9 : KeysOk false [.int .i64] map9 := fun p hp => by
  simp only [map9, List.mem_singleton] at hp
  subst hp; simp [KeyOk, keyF, kindA]
theorem tLay_gs (gl : Nat → AV) : GS Try.prog gl 62 [.ptr 0 0, .agg [.int .i64 1, .int .i64 9]] [(0, .cells (whN 3)), (1, .mapb map9 true)] 2 (.tup []) [(0, .cells wh9), (1, .mapb map9 true), (2, .cells [.int .i64 1, .int .i64 9])] 3 := by
  refine ft_wLay.gs (of_decide_eq_true rfl) (by simp [Bk.live]) fun c hgh hg => ?_
  unfold T_wLay whN
  have h9 : (IntKind.i64.wrap (Int.tdiv 9 1)).tmod 16 = 9 := by decide
  have h96 : IntKind.i64.wrap (IntKind.i64.wrap (Int.tdiv 9 1) - IntKind.i64.wrap (Int.tdiv 3 1)) = 6 := by decide
  (refine XG ?_; ((try (repeat' with_reducible refine And.intro ?_ ?_)); (try any_goals (first | refine zm ?_ | exact CL | fail))))
  refine loop_ruleG (fun _ : Unit => True) (fun _ => ⟨[(0, .ptr 0 0), (3, .ptr 2 0), (4, .int .i64 1), (7, .int .i64 0)], [(0, .cells (whN 3)), (1, .mapb map9 true), (2, .cells [.int .i64 1, .int .i64 9])], 3⟩) (fun _ => 0) ft_wLay.mixed 2 hgh
    ⟨(), trivial, [], by (have zf1 := @whN.eq_1; have zf2 := @map9.eq_1; refine XG ?_; clear zf1 zf2; ((try (repeat' with_reducible refine And.intro ?_ ?_)); (try any_goals (first | refine zm ?_ | exact CL | fail))))⟩ fun x _ => ?_
  unfold whN map9
  (refine XG ?_; ((try (repeat' with_reducible refine And.intro ?_ ?_)); (try any_goals (first | refine zm ?_ | exact CL | fail))))
  (refine xw_ifp (fun h1 => ?_) (fun h1 => ?_) <;> try exact h1.elim)
  (have zf1 := @h9; have zf2 := @h96; refine XG ?_; clear zf1 zf2; ((try (repeat' with_reducible refine And.intro ?_ ?_)); (try any_goals (first | refine zm ?_ | exact CL | fail))))
  (refine xw_ifp (fun h2 => ?_) (fun h2 => ?_) <;> try exact h2.elim)
  (have zf1 := @h9; refine XG ?_; clear zf1; ((try (repeat' with_reducible refine And.intro ?_ ?_)); (try any_goals (first | refine zm ?_ | exact CL | fail))))
  ((first | apply pr_app | apply prD_app | apply pr_bsl | apply prD_bsl | apply pr_s2b | apply prD_s2b); (have zf1 := @h9; refine XG ?_; clear zf1; ((try (repeat' with_reducible refine And.intro ?_ ?_)); (try any_goals (first | refine zm ?_ | exact CL | fail)))))
  ((first | apply pr_app | apply prD_app | apply pr_bsl | apply prD_bsl | apply pr_s2b | apply prD_s2b); (have zf1 := @h9; refine XG ?_; clear zf1; ((try (repeat' with_reducible refine And.intro ?_ ?_)); (try any_goals (first | refine zm ?_ | exact CL | fail)))))
  refine ⟨[(2, 4)], ?_⟩
  (have zf1 := @wh9.eq_1; have zf2 := @map9.eq_1; refine XG ?_; clear zf1 zf2; ((try (repeat' with_reducible refine And.intro ?_ ?_)); (try any_goals (first | refine zm ?_ | exact CL | fail))))
theorem tArm_gs (gl : Nat → AV) : GS Try.prog gl 35 [.ptr 0 0, .int .i64 1, .int .i64 9] [(0, .cells (whN 3)), (1, .mapb [] true)] 2 (.int .i64 0) [(0, .cells wh9), (1, .mapb map9 true), (2, .cells [.int .i64 1, .int .i64 9])] 3 := by
  refine ft_wArm.gs (of_decide_eq_true rfl) (by simp [Bk.live]) fun c hgh hg => ?_
  unfold T_wArm
  have hk := kv_nil [.int .i64]
  have hg1 : getA [] (.int .i64 1) (.int .i64 0) = .int .i64 0 := rfl
  have hh : hasA [] (.int .i64 1) = false := rfl
  have hu : updA [] (.int .i64 1) (.int .i64 9) = map9 := rfl
  have h01 : Nat.beq 0 1 = false := rfl
  have hC := tCancel_gs c.gl
  have hL := tLay_gs c.gl
  have hmx : ((3 : Int) > 9) = False := by simp
  unfold whN at hC hL ⊢
  unfold wh9 at hL ⊢
  (refine XG ?_; ((try (repeat' with_reducible refine And.intro ?_ ?_)); (try any_goals (first | refine zm ?_ | exact CL | fail))))
  (refine xw_ifp (fun h1 => ?_) (fun h1 => ?_) <;> try exact h1.elim)
  (refine XG ?_; ((try (repeat' with_reducible refine And.intro ?_ ?_)); (try any_goals (first | refine zm ?_ | exact CL | fail))))
  (refine xw_ifp (fun h2 => ?_) (fun h2 => ?_) <;> try exact h2.elim)
  (refine XG ?_; ((try (repeat' with_reducible refine And.intro ?_ ?_)); (try any_goals (first | refine zm ?_ | exact CL | fail))))
  ((first | refine pr_lkp mtD ?_ | refine prD_lkp mtD ?_); (have zf1 := @hk; have zf2 := @hg1; have zf3 := @hh; refine XG ?_; clear zf1 zf2 zf3; ((try (repeat' with_reducible refine And.intro ?_ ?_)); (try any_goals (first | refine zm ?_ | exact CL | fail)))))
  (refine xw_ifp (fun h3 => ?_) (fun h3 => ?_) <;> try exact h3.elim)
  (refine XG ?_; ((try (repeat' with_reducible refine And.intro ?_ ?_)); (try any_goals (first | refine zm ?_ | exact CL | fail))))
  ((first | refine pr_gs (ins := [0, 1]) hC ?_ ?_ | refine prD_gs (ins := [0, 1]) hC ?_ ?_ | refine pr_gsv (ins := [0, 1]) hC ?_ ?_ | refine prD_gsv (ins := [0, 1]) hC ?_ ?_) <;> (have zf1 := @h01; have zf2 := @hmx; refine XG ?_; clear zf1 zf2; (try first | exact rfl | exact True.intro); ((try (repeat' with_reducible refine And.intro ?_ ?_)); (try any_goals (first | refine zm ?_ | exact CL | fail)))))
  ((first | refine pr_upd mtD ?_ | refine prD_upd mtD ?_); (have zf1 := @hk; have zf2 := @hmx; have zf3 := @hu; refine XG ?_; clear zf1 zf2 zf3; ((try (repeat' with_reducible refine And.intro ?_ ?_)); (try any_goals (first | refine zm ?_ | exact CL | fail)))))
  ((first | refine pr_gs (ins := [0, 1]) hL ?_ ?_ | refine prD_gs (ins := [0, 1]) hL ?_ ?_ | refine pr_gsv (ins := [0, 1]) hL ?_ ?_ | refine prD_gsv (ins := [0, 1]) hL ?_ ?_) <;> (have zf1 := @h01; have zf2 := @map9.eq_1; refine XG ?_; clear zf1 zf2; (try first | exact rfl | exact True.intro); ((try (repeat' with_reducible refine And.intro ?_ ?_)); (try any_goals (first | refine zm ?_ | exact CL | fail)))))
  refine ⟨[], ?_⟩
  (have zf1 := @map9.eq_1; refine XG ?_; clear zf1; ((try (repeat' with_reducible refine And.intro ?_ ?_)); (try any_goals (first | refine zm ?_ | exact CL | fail))))
theorem tMany_gs (gl : Nat → AV) : GS Try.prog gl 37 [.ptr 0 0] [(0, .cells wh9), (1, .mapb map9 true), (2, .cells [.int .i64 1, .int .i64 9])] 3 (.int .i64 1) [(0, .cells wh9), (1, .mapb map9 true), (2, .cells [.int .i64 1, .int .i64 9])] 3 := by
  refine ft_wMany.gs (of_decide_eq_true rfl) (by simp [Bk.live]) fun c hgh hg => ?_
  unfold T_wMany wh9 map9
  (refine XG ?_; ((try (repeat' with_reducible refine And.intro ?_ ?_)); (try any_goals (first | refine zm ?_ | exact CL | fail))))
  (refine xw_ifp (fun h1 => ?_) (fun h1 => ?_) <;> try exact h1.elim)
  (refine XG ?_; ((try (repeat' with_reducible refine And.intro ?_ ?_)); (try any_goals (first | refine zm ?_ | exact CL | fail))))
  refine ⟨[], ?_⟩
  (refine XG ?_; ((try (repeat' with_reducible refine And.intro ?_ ?_)); (try any_goals (first | refine zm ?_ | exact CL | fail))))
theorem tNow_gs (gl : Nat → AV) : GS Try.prog gl 38 [.ptr 0 0] [(0, .cells (whN 3)), (1, .mapb [] true)] 2 (.int .i64 3) [(0, .cells (whN 3)), (1, .mapb [] true)] 2 := by
  refine ft_wNow.gs (of_decide_eq_true rfl) (by simp [Bk.live]) fun c hgh hg => ?_
  unfold T_wNow whN
  (refine XG ?_; ((try (repeat' with_reducible refine And.intro ?_ ?_)); (try any_goals (first | refine zm ?_ | exact CL | fail))))
  (refine xw_ifp (fun h1 => ?_) (fun h1 => ?_) <;> try exact h1.elim)
  (refine XG ?_; ((try (repeat' with_reducible refine And.intro ?_ ?_)); (try any_goals (first | refine zm ?_ | exact CL | fail))))
  refine ⟨[], ?_⟩
  (refine XG ?_; ((try (repeat' with_reducible refine And.intro ?_ ?_)); (try any_goals (first | refine zm ?_ | exact CL | fail))))
theorem lturns_ps (gl : Nat → AV) : PS Try.prog gl 41 [] (.bool true) := by
  refine ft_lturns.ps (of_decide_eq_true rfl) (by simp [nmOk, nmAll]) fun c hN hg => ?_
  unfold T_lturns
  have hW := wNew_gs c.gl 3 (by omega) (by omega)
  have hN := tNow_gs c.gl
  have hA := tArm_gs c.gl
  have hM := tMany_gs c.gl
  have h01 : Nat.beq 0 1 = false := rfl
  have h02 : Nat.beq 0 2 = false := rfl
  have h12 : Nat.beq 1 2 = false := rfl
  unfold whN at hW hN hA
  unfold wh9 map9 at hA hM
  (refine XG ?_; ((try (repeat' with_reducible refine And.intro ?_ ?_)); (try any_goals (first | refine zm ?_ | exact CL | fail))))
  ((first | refine pr_gs (ins := []) hW ?_ ?_ | refine prD_gs (ins := []) hW ?_ ?_ | refine pr_gsv (ins := []) hW ?_ ?_ | refine prD_gsv (ins := []) hW ?_ ?_) <;> (refine XG ?_; (try first | exact rfl | exact True.intro); ((try (repeat' with_reducible refine And.intro ?_ ?_)); (try any_goals (first | refine zm ?_ | exact CL | fail)))))
  ((refine pr_on ?_ ?_ ?_); (focus (refine XG ?_; try first | exact rfl | exact True.intro)); (focus (refine XG ?_; try trivial)))
  ((first | refine pr_gs (ins := [0, 1]) hN ?_ ?_ | refine prD_gs (ins := [0, 1]) hN ?_ ?_ | refine pr_gsv (ins := [0, 1]) hN ?_ ?_ | refine prD_gsv (ins := [0, 1]) hN ?_ ?_) <;> (have zf1 := @h01; refine XG ?_; clear zf1; (try first | exact rfl | exact True.intro); ((try (repeat' with_reducible refine And.intro ?_ ?_)); (try any_goals (first | refine zm ?_ | exact CL | fail)))))
  ((refine pr_on ?_ ?_ ?_); (focus (refine XG ?_; try first | exact rfl | exact True.intro)); (focus (refine XG ?_; try trivial)))
  ((first | refine pr_gs (ins := [0, 1]) hA ?_ ?_ | refine prD_gs (ins := [0, 1]) hA ?_ ?_ | refine pr_gsv (ins := [0, 1]) hA ?_ ?_ | refine prD_gsv (ins := [0, 1]) hA ?_ ?_) <;> (have zf1 := @h01; refine XG ?_; clear zf1; (try first | exact rfl | exact True.intro); ((try (repeat' with_reducible refine And.intro ?_ ?_)); (try any_goals (first | refine zm ?_ | exact CL | fail)))))
  ((refine pr_on ?_ ?_ ?_); (focus (refine XG ?_; try first | exact rfl | exact True.intro)); (focus (refine XG ?_; try trivial)))
  ((first | refine pr_gs (ins := [0, 1, 2]) hM ?_ ?_ | refine prD_gs (ins := [0, 1, 2]) hM ?_ ?_ | refine pr_gsv (ins := [0, 1, 2]) hM ?_ ?_ | refine prD_gsv (ins := [0, 1, 2]) hM ?_ ?_) <;> (have zf1 := @h01; have zf2 := @h02; have zf3 := @h12; refine XG ?_; clear zf1 zf2 zf3; (try first | exact rfl | exact True.intro); ((try (repeat' with_reducible refine And.intro ?_ ?_)); (try any_goals (first | refine zm ?_ | exact CL | fail)))))
end Go.Proofs.Ytphaicaobepimaa
