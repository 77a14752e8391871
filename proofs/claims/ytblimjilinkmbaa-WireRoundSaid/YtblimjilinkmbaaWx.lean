/- A frame that is written upon. No conditions but the ones that stand in each. -/
import Derived.Test.YtblimjilinkmbaaWu
namespace Go.Proofs.Ytblimjilinkmbaa
set_option linter.all false
set_option linter.unusedSimpArgs false
open Go.RowKit

theorem upd_ps (gl : Nat → AV) (c m n : Int) : PS Try.prog gl 45 [.int .i64 c, .int .i64 m, .int .i64 n] (.int .i64 (updN c m n)) := Update_ps gl c m n
theorem setW_len (l : List UInt8) (k : Nat) (n : Int) : (setW l k n).length = l.length := by simp [setW]
theorem tellW_len (l : List UInt8) (k : Nat) (m n : Int) : (tellW l k m n).length = l.length := by simp [tellW, setW_len]
theorem setC_len (l : List UInt8) (k c : Nat) (n : Int) : (setC l k c n).length = l.length := by simp [setC, setW_len, tellW_len]
theorem rvs_nil (s : FS) : rvs s [] = .tup [] := rfl
theorem toNat_1 (k : Nat) : ((k : Int) + 1).toNat = k + 1 := by omega
theorem toNat_2 (k : Nat) : ((k : Int) + 2).toNat = k + 2 := by omega
theorem add_sub_2 (k : Nat) : k + 2 - k = 2 := by omega
set_option maxHeartbeats 1000000 in
theorem tell_gs (gl : Nat → AV) (l : List UInt8) (last : Bool) (ck : Nat) (m n : Int) (hc : ck + 2 ≤ l.length) (hl : l.length ≤ 65535) :
    GS Try.prog gl 43 [.ptr 0 0, .int .i64 ck, .int .i64 m, .int .i64 n] [(0, .cells [.sl 1 1 0 l.length l.length, .bool last]), (1, .cells (byts l))] 2 (.tup [])
      [(0, .cells [.sl 1 1 0 l.length l.length, .bool last]), (1, .cells (byts (tellW l ck m n)))] 2 := by
  refine ft_ctell.gs (of_decide_eq_true rfl) (by simp [Bk.live]) fun c hgh hg => ?_
  unfold T_ctell
  have hb := updN_bd (w2 l ck) m n
  have hfin : tellW l ck m n = (l.set ck (byteI (updN (w2 l ck) m n) 1)).set (ck + 1) (byteI (updN (w2 l ck) m n) 0) := rfl
  have hn := nw2 c.gl l ck
  have hu := upd_ps c.gl (w2 l ck) m n
  rw [hfin]
  generalize updN (w2 l ck) m n = x at *
  generalize w2 l ck = y at *
  clear hfin
  (have zf1 := @toNat_1; have zf2 := @toNat_2; have zf3 := @add_sub_2; refine XG ?_; clear zf1 zf2 zf3; ((try (repeat' with_reducible refine And.intro ?_ ?_)); (try any_goals (first | refine zm ?_ | exact CL | fail))))
  ((first | apply pr_psv | apply prD_psv | apply pr_qrunv | apply prD_qrunv) <;> (first | exact hn | (have zf1 := @toNat_1; have zf2 := @toNat_2; refine XG ?_; clear zf1 zf2; first | exact rfl | exact True.intro | ((try (repeat' with_reducible refine And.intro ?_ ?_)); (try any_goals (first | refine zm ?_ | exact CL | fail))))))
  ((first | apply pr_psv | apply prD_psv | apply pr_qrunv | apply prD_qrunv) <;> (first | exact hu | (have zf1 := @toNat_1; have zf2 := @toNat_2; refine XG ?_; clear zf1 zf2; first | exact rfl | exact True.intro | ((try (repeat' with_reducible refine And.intro ?_ ?_)); (try any_goals (first | refine zm ?_ | exact CL | fail))))))
  refine ⟨[], ?_⟩
  (have zf1 := @rvs_nil; have zf2 := @byte_0; refine XG ?_; clear zf1 zf2; ((try (repeat' with_reducible refine And.intro ?_ ?_)); (try any_goals (first | refine zm ?_ | exact CL | fail))))
theorem setC_eq (l : List UInt8) (k c : Nat) (n : Int) : setC l k c n = ((tellW l c (w2 l k) n).set k (byteI n 1)).set (k + 1) (byteI n 0) := rfl
set_option maxHeartbeats 1000000 in
theorem set_gs (gl : Nat → AV) (l : List UInt8) (last : Bool) (k ck : Nat) (n : Int) (hk : k + 2 ≤ l.length) (hc : ck + 2 ≤ l.length) (hl : l.length ≤ 65535) :
    GS Try.prog gl 42 [.ptr 0 0, .int .i64 k, .int .i64 ck, .int .i64 n] [(0, .cells [.sl 1 1 0 l.length l.length, .bool last]), (1, .cells (byts l))] 2 (.tup [])
      [(0, .cells [.sl 1 1 0 l.length l.length, .bool last]), (1, .cells (byts (setC l k ck n)))] 2 := by
  refine ft_cset.gs (of_decide_eq_true rfl) (by simp [Bk.live]) fun c hgh hg => ?_
  unfold T_cset
  have hn := nw2 c.gl l k
  have ht := tell_gs c.gl l last ck (w2 l k) n hc hl
  rw [setC_eq]
  have htl := tellW_len l ck (w2 l k) n
  generalize tellW l ck (w2 l k) n = T at *
  generalize w2 l k = y at *
  (have zf1 := @toNat_1; have zf2 := @toNat_2; have zf3 := @add_sub_2; refine XG ?_; clear zf1 zf2 zf3; ((try (repeat' with_reducible refine And.intro ?_ ?_)); (try any_goals (first | refine zm ?_ | exact CL | fail))))
  ((first | apply pr_psv | apply prD_psv | apply pr_qrunv | apply prD_qrunv) <;> (first | exact hn | (have zf1 := @toNat_1; have zf2 := @toNat_2; refine XG ?_; clear zf1 zf2; first | exact rfl | exact True.intro | ((try (repeat' with_reducible refine And.intro ?_ ?_)); (try any_goals (first | refine zm ?_ | exact CL | fail))))))
  ((first | refine pr_gs (ins := [0, 1]) ht ?_ ?_ | refine prD_gs (ins := [0, 1]) ht ?_ ?_ | refine pr_gsv (ins := [0, 1]) ht ?_ ?_ | refine prD_gsv (ins := [0, 1]) ht ?_ ?_) <;> (have zf1 := @toNat_1; have zf2 := @toNat_2; have zf3 := @htl; have zf4 := @rvs_nil; refine XG ?_; clear zf1 zf2 zf3 zf4; (try first | exact rfl | exact True.intro); ((try (repeat' with_reducible refine And.intro ?_ ?_)); (try any_goals (first | refine zm ?_ | exact CL | fail)))))
  · rfl
  refine ⟨[], ?_⟩
  (have zf1 := @rvs_nil; have zf2 := @byte_0; refine XG ?_; clear zf1 zf2; ((try (repeat' with_reducible refine And.intro ?_ ?_)); (try any_goals (first | refine zm ?_ | exact CL | fail))))
end Go.Proofs.Ytblimjilinkmbaa
