/- What is summed ahead; the reference's heads. No conditions but the ones that stand in each. -/
import Derived.Test.YtblimjilinkmbaaWf
namespace Go.Proofs.Ytblimjilinkmbaa
set_option linter.all false
set_option linter.unusedSimpArgs false
open Go.RowKit

theorem pseudo_ps (gl : Nat → AV) (frm dst proto n : Int) : PS Try.prog gl 25 [.int .i64 frm, .int .i64 dst, .int .i64 proto, .int .i64 n] (.str (be frm 4 ++ be dst 4 ++ be proto 2 ++ be n 2)) := by
  refine ft_wpseudo.ps (of_decide_eq_true rfl) (by simp [nmOk]) fun c hN hg => ?_
  unfold T_wpseudo
  (refine XG ?_; ((try (repeat' with_reducible refine And.intro ?_ ?_)); (try any_goals (first | refine zm ?_ | exact CL | fail))))
  ((first | refine pr_gs (ins := []) (put_nil_gs _ frm 4 (by decide) (by decide)) ?_ ?_ | refine prD_gs (ins := []) (put_nil_gs _ frm 4 (by decide) (by decide)) ?_ ?_ | refine pr_gsv (ins := []) (put_nil_gs _ frm 4 (by decide) (by decide)) ?_ ?_ | refine prD_gsv (ins := []) (put_nil_gs _ frm 4 (by decide) (by decide)) ?_ ?_) <;> (have zf1 := @be_len; refine XG ?_; clear zf1; (try first | exact rfl | exact True.intro); ((try (repeat' with_reducible refine And.intro ?_ ?_)); (try any_goals (first | refine zm ?_ | exact CL | fail)))))
  ((first | refine pr_gs (ins := [0]) (put_gs _ (be frm 4) dst 4 (by decide) (by simp [be_len])) ?_ ?_ | refine prD_gs (ins := [0]) (put_gs _ (be frm 4) dst 4 (by decide) (by simp [be_len])) ?_ ?_ | refine pr_gsv (ins := [0]) (put_gs _ (be frm 4) dst 4 (by decide) (by simp [be_len])) ?_ ?_ | refine prD_gsv (ins := [0]) (put_gs _ (be frm 4) dst 4 (by decide) (by simp [be_len])) ?_ ?_) <;> (have zf1 := @be_len; refine XG ?_; clear zf1; (try first | exact rfl | exact True.intro); ((try (repeat' with_reducible refine And.intro ?_ ?_)); (try any_goals (first | refine zm ?_ | exact CL | fail)))))
  ((first | refine pr_gs (ins := [1]) (put_gs _ (be frm 4 ++ be dst 4) proto 2 (by decide) (by simp [be_len])) ?_ ?_ | refine prD_gs (ins := [1]) (put_gs _ (be frm 4 ++ be dst 4) proto 2 (by decide) (by simp [be_len])) ?_ ?_ | refine pr_gsv (ins := [1]) (put_gs _ (be frm 4 ++ be dst 4) proto 2 (by decide) (by simp [be_len])) ?_ ?_ | refine prD_gsv (ins := [1]) (put_gs _ (be frm 4 ++ be dst 4) proto 2 (by decide) (by simp [be_len])) ?_ ?_) <;> (have zf1 := @be_len; refine XG ?_; clear zf1; (try first | exact rfl | exact True.intro); ((try (repeat' with_reducible refine And.intro ?_ ?_)); (try any_goals (first | refine zm ?_ | exact CL | fail)))))
  ((first | refine pr_gs (ins := [2]) (put_gs _ (be frm 4 ++ be dst 4 ++ be proto 2) n 2 (by decide) (by simp [be_len])) ?_ ?_ | refine prD_gs (ins := [2]) (put_gs _ (be frm 4 ++ be dst 4 ++ be proto 2) n 2 (by decide) (by simp [be_len])) ?_ ?_ | refine pr_gsv (ins := [2]) (put_gs _ (be frm 4 ++ be dst 4 ++ be proto 2) n 2 (by decide) (by simp [be_len])) ?_ ?_ | refine prD_gsv (ins := [2]) (put_gs _ (be frm 4 ++ be dst 4 ++ be proto 2) n 2 (by decide) (by simp [be_len])) ?_ ?_) <;> (have zf1 := @be_len; refine XG ?_; clear zf1; (try first | exact rfl | exact True.intro); ((try (repeat' with_reducible refine And.intro ?_ ?_)); (try any_goals (first | refine zm ?_ | exact CL | fail)))))
theorem ahead_ps (gl : Nat → AV) (frm dst proto n : Int) (h1 : 0 ≤ frm ∧ frm ≤ 4294967295) (h2 : 0 ≤ dst ∧ dst ≤ 4294967295) (h3 : 0 ≤ proto ∧ proto ≤ 255) (h4 : 0 ≤ n ∧ n ≤ 1000000) : PS Try.prog gl 30 [.int .i64 frm, .int .i64 dst, .int .i64 proto, .int .i64 n] (.str (preB proto frm dst n)) := by
  refine ft_rahead.ps (of_decide_eq_true rfl) (by simp [nmOk]) fun c hN hg => ?_
  unfold T_rahead
  (refine XG ?_; ((try (repeat' with_reducible refine And.intro ?_ ?_)); (try any_goals (first | refine zm ?_ | exact CL | fail))))
  (refine xw_ifp (fun hp => ?_) (fun hp => ?_) <;> try exact hp.elim)
  · (refine XG ?_; ((try (repeat' with_reducible refine And.intro ?_ ?_)); (try any_goals (first | refine zm ?_ | exact CL | fail))))
    unfold preB; rw [if_pos hp]
  · (refine XG ?_; ((try (repeat' with_reducible refine And.intro ?_ ?_)); (try any_goals (first | refine zm ?_ | exact CL | fail))))
    ((first | apply pr_psv | apply prD_psv | apply pr_qrunv | apply prD_qrunv) <;> (first | exact (bytesOf_ps _ frm 4 (by omega) (by omega) (by decide)) | (have zf1 := @be_len; refine XG ?_; clear zf1; first | exact rfl | exact True.intro | ((try (repeat' with_reducible refine And.intro ?_ ?_)); (try any_goals (first | refine zm ?_ | exact CL | fail))))))
    ((first | apply pr_psv | apply prD_psv | apply pr_qrunv | apply prD_qrunv) <;> (first | exact (bytesOf_ps _ dst 4 (by omega) (by omega) (by decide)) | (have zf1 := @be_len; refine XG ?_; clear zf1; first | exact rfl | exact True.intro | ((try (repeat' with_reducible refine And.intro ?_ ?_)); (try any_goals (first | refine zm ?_ | exact CL | fail))))))
    ((first | apply pr_psv | apply prD_psv | apply pr_qrunv | apply prD_qrunv) <;> (first | exact (bytesOf_ps _ proto 2 (by omega) (by omega) (by decide)) | (have zf1 := @be_len; refine XG ?_; clear zf1; first | exact rfl | exact True.intro | ((try (repeat' with_reducible refine And.intro ?_ ?_)); (try any_goals (first | refine zm ?_ | exact CL | fail))))))
    ((first | apply pr_psv | apply prD_psv | apply pr_qrunv | apply prD_qrunv) <;> (first | exact (bytesOf_ps _ n 2 (by omega) (by omega) (by decide)) | (have zf1 := @be_len; refine XG ?_; clear zf1; first | exact rfl | exact True.intro | ((try (repeat' with_reducible refine And.intro ?_ ?_)); (try any_goals (first | refine zm ?_ | exact CL | fail))))))
    unfold preB; rw [if_neg hp]
theorem headOf_ps (gl : Nat → AV) (proto frm dst ttl id n : Int) (h1 : 0 ≤ frm ∧ frm ≤ 4294967295) (h2 : 0 ≤ dst ∧ dst ≤ 4294967295) (h3 : 0 ≤ proto ∧ proto ≤ 255) (h4 : 0 ≤ n ∧ n ≤ 1000000) (h5 : 0 ≤ ttl ∧ ttl ≤ 255) (h6 : 0 ≤ id ∧ id ≤ 65535) :
    PS Try.prog gl 31 [.int .i64 proto, .int .i64 frm, .int .i64 dst, .int .i64 ttl, .int .i64 id, .int .i64 n] (.str (headB proto frm dst ttl id n)) := by
  refine ft_rhead.ps (of_decide_eq_true rfl) (by simp [nmOk]) fun c hN hg => ?_
  unfold T_rhead
  have hL := checkN_le (hdA proto ttl id n ++ [0, 0] ++ hdZ frm dst)
  have hC := CheckOf_ps c.gl (hdA proto ttl id n ++ [0, 0] ++ hdZ frm dst) (by simp [hdA_len, hdZ_len])
  have hB := bytesOf_ps c.gl (checkN (hdA proto ttl id n ++ [0, 0] ++ hdZ frm dst)) 2 (by omega) (by omega) (by decide)
  unfold headB
  generalize checkN (hdA proto ttl id n ++ [0, 0] ++ hdZ frm dst) = k at *
  have e69 : ([69, 0] : List UInt8) = [69, 0] := rfl
  generalize hA : hdA proto ttl id n = A at *
  generalize hZ : hdZ frm dst = Z at *
  unfold hdA at hA
  unfold hdZ at hZ
  obtain ⟨p2, hp2⟩ : ∃ p2 : List UInt8, [69, 0] = p2 := ⟨_, rfl⟩
  obtain ⟨z2, hz2⟩ : ∃ z2 : List UInt8, [0, 0] = z2 := ⟨_, rfl⟩
  rw [hp2, hz2] at hA
  rw [hz2] at hC
  clear e69
  have l2 : p2.length = 2 := by rw [← hp2]; rfl
  have l0 : z2.length = 2 := by rw [← hz2]; rfl
  have lA : A.length = 10 := by rw [← hA]; simp [be_len, l2, l0]
  have lZ : Z.length = 8 := by rw [← hZ]; simp [be_len]
  (have zf1 := @hp2; have zf2 := @hz2; have zf3 := @be_len; have zf4 := @l2; have zf5 := @l0; have zf6 := @lA; have zf7 := @lZ; refine XG ?_; clear zf1 zf2 zf3 zf4 zf5 zf6 zf7; ((try (repeat' with_reducible refine And.intro ?_ ?_)); (try any_goals (first | refine zm ?_ | exact CL | fail))))
  ((first | apply pr_psv | apply prD_psv | apply pr_qrunv | apply prD_qrunv) <;> (first | exact (bytesOf_ps _ (20 + n) 2 (by omega) (by omega) (by decide)) | (have zf1 := @hp2; have zf2 := @hz2; have zf3 := @be_len; have zf4 := @l2; have zf5 := @l0; have zf6 := @lA; have zf7 := @lZ; refine XG ?_; clear zf1 zf2 zf3 zf4 zf5 zf6 zf7; first | exact rfl | exact True.intro | ((try (repeat' with_reducible refine And.intro ?_ ?_)); (try any_goals (first | refine zm ?_ | exact CL | fail))))))
  ((first | apply pr_psv | apply prD_psv | apply pr_qrunv | apply prD_qrunv) <;> (first | exact (bytesOf_ps _ id 2 (by omega) (by omega) (by decide)) | (have zf1 := @hp2; have zf2 := @hz2; have zf3 := @be_len; have zf4 := @l2; have zf5 := @l0; have zf6 := @lA; have zf7 := @lZ; refine XG ?_; clear zf1 zf2 zf3 zf4 zf5 zf6 zf7; first | exact rfl | exact True.intro | ((try (repeat' with_reducible refine And.intro ?_ ?_)); (try any_goals (first | refine zm ?_ | exact CL | fail))))))
  ((first | apply pr_psv | apply prD_psv | apply pr_qrunv | apply prD_qrunv) <;> (first | exact (bytesOf_ps _ ttl 1 (by omega) (by omega) (by decide)) | (have zf1 := @hp2; have zf2 := @hz2; have zf3 := @be_len; have zf4 := @l2; have zf5 := @l0; have zf6 := @lA; have zf7 := @lZ; refine XG ?_; clear zf1 zf2 zf3 zf4 zf5 zf6 zf7; first | exact rfl | exact True.intro | ((try (repeat' with_reducible refine And.intro ?_ ?_)); (try any_goals (first | refine zm ?_ | exact CL | fail))))))
  ((first | apply pr_psv | apply prD_psv | apply pr_qrunv | apply prD_qrunv) <;> (first | exact (bytesOf_ps _ proto 1 (by omega) (by omega) (by decide)) | (have zf1 := @hA; have zf2 := @hp2; have zf3 := @hz2; have zf4 := @be_len; have zf5 := @l2; have zf6 := @l0; have zf7 := @lA; have zf8 := @lZ; refine XG ?_; clear zf1 zf2 zf3 zf4 zf5 zf6 zf7 zf8; first | exact rfl | exact True.intro | ((try (repeat' with_reducible refine And.intro ?_ ?_)); (try any_goals (first | refine zm ?_ | exact CL | fail))))))
  ((first | apply pr_psv | apply prD_psv | apply pr_qrunv | apply prD_qrunv) <;> (first | exact (bytesOf_ps _ frm 4 (by omega) (by omega) (by decide)) | (have zf1 := @hp2; have zf2 := @hz2; have zf3 := @be_len; have zf4 := @l2; have zf5 := @l0; have zf6 := @lA; have zf7 := @lZ; refine XG ?_; clear zf1 zf2 zf3 zf4 zf5 zf6 zf7; first | exact rfl | exact True.intro | ((try (repeat' with_reducible refine And.intro ?_ ?_)); (try any_goals (first | refine zm ?_ | exact CL | fail))))))
  ((first | apply pr_psv | apply prD_psv | apply pr_qrunv | apply prD_qrunv) <;> (first | exact (bytesOf_ps _ dst 4 (by omega) (by omega) (by decide)) | (have zf1 := @hZ; have zf2 := @hp2; have zf3 := @hz2; have zf4 := @be_len; have zf5 := @l2; have zf6 := @l0; have zf7 := @lA; have zf8 := @lZ; refine XG ?_; clear zf1 zf2 zf3 zf4 zf5 zf6 zf7 zf8; first | exact rfl | exact True.intro | ((try (repeat' with_reducible refine And.intro ?_ ?_)); (try any_goals (first | refine zm ?_ | exact CL | fail))))))
  ((first | apply pr_psv | apply prD_psv | apply pr_qrunv | apply prD_qrunv) <;> (first | exact hC | (have zf1 := @hp2; have zf2 := @hz2; have zf3 := @be_len; have zf4 := @l2; have zf5 := @l0; have zf6 := @lA; have zf7 := @lZ; refine XG ?_; clear zf1 zf2 zf3 zf4 zf5 zf6 zf7; first | exact rfl | exact True.intro | ((try (repeat' with_reducible refine And.intro ?_ ?_)); (try any_goals (first | refine zm ?_ | exact CL | fail))))))
  ((first | apply pr_psv | apply prD_psv | apply pr_qrunv | apply prD_qrunv) <;> (first | exact hB | (have zf1 := @hp2; have zf2 := @hz2; have zf3 := @be_len; have zf4 := @l2; have zf5 := @l0; have zf6 := @lA; have zf7 := @lZ; refine XG ?_; clear zf1 zf2 zf3 zf4 zf5 zf6 zf7; first | exact rfl | exact True.intro | ((try (repeat' with_reducible refine And.intro ?_ ?_)); (try any_goals (first | refine zm ?_ | exact CL | fail))))))
end Go.Proofs.Ytblimjilinkmbaa
