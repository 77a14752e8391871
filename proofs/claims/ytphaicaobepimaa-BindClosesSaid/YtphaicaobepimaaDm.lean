/- Where a map lies in a row of maps, and the row without it. No conditions but the ones that stand in each. -/
import Derived.Test.YtphaicaobepimaaE7
import Derived.Test.YtphaicaobepimaaDl
namespace Go.Proofs.Ytphaicaobepimaa
set_option linter.all false
set_option linter.unusedSimpArgs false
open Go.RowKit

theorem eqSh_mp : eqSh Try.prog 100 32 = some [.int .i64, .int .i64, .int .i64, .int .i64, .int .i64] := by kernel_rfl
theorem enc_inj {x y : Mp} : x = y ↔ x.enc = y.enc := by
  cases x; cases y; simp [Mp.enc]
theorem mp_eq {c : Cx} {ne : Bool} (x y : Mp) : QRun Try.prog c (.cA ne 32) [.agg x.enc, .agg y.enc] (.bool (ne != decide (x = y))) :=
  cA_run eqSh_mp (by kernel_rfl) (by kernel_rfl) rfl rfl (by rw [decide_eq_true_eq]; exact enc_inj)
/-- Where a map is, or -1. -/
def ixM : List Mp → Mp → Nat → Int
  | [], _, _ => -1
  | x :: l, m, k => if m = x then k else ixM l m (k + 1)
set_option maxHeartbeats 1000000 in
theorem index_ps (gl : Nat → AV) (l : List Mp) (hl : l.length ≤ 4611686018427387904) (m : Mp) : PS Try.prog gl 57 [.isl l.length (mps l), .agg m.enc] (.int .i64 (ixM l m 0)) := by
  refine ft_sIndex.ps (of_decide_eq_true rfl) (by simp [nmOk]) fun c hN hg => ?_
  unfold T_sIndex
  have hel := mps_len l
  have hml : m.enc.length = 5 := rfl
  have hmn : ∀ n, nmAll n m.enc = True := fun n => by simp [Mp.enc, nmAll, nmOk]
  have hmr : ∀ ρ, rens ρ m.enc = m.enc := fun ρ => by simp [Mp.enc, rens, ren]
  (refine XG ?_; ((try (repeat' with_reducible refine And.intro ?_ ?_)); (try any_goals (first | refine zm ?_ | exact CL | fail))))
  refine loop_rule (fun k : Nat => k ≤ l.length ∧ ixM (l.drop k) m k = ixM l m 0) (fun k => ⟨[(0, .isl l.length (mps l)), (3, .ptr 0 0), (6, .isl l.length (mps l)), (7, .int .i64 l.length), (8, .int .i64 k)], [(0, .cells m.enc)], 1⟩) (fun k => l.length - k) ft_sIndex.mixed hN
    ⟨0, ⟨by omega, rfl⟩, [], by (have zf1 := @hmn; refine XG ?_; clear zf1; ((try (repeat' with_reducible refine And.intro ?_ ?_)); (try any_goals (first | refine zm ?_ | exact CL | fail))))⟩ fun k hk => ?_
  obtain ⟨hk, hik⟩ := hk
  (refine XG ?_; ((try (repeat' with_reducible refine And.intro ?_ ?_)); (try any_goals (first | refine zm ?_ | exact CL | fail))))
  (refine xw_ifp (fun h1 => ?_) (fun h1 => ?_) <;> try exact h1.elim)
  · have hkn : k < l.length := by omega
    have hcut := mps_cut l k hkn
    have hdr : l.drop k = l[k] :: l.drop (k + 1) := List.drop_eq_getElem_cons hkn
    rw [hdr] at hik
    rw [ixM] at hik
    generalize l[k] = x at *
    have heq := @mp_eq c false m x
    (have zf1 := @hel; have zf2 := @hcut; have zf3 := @hml; refine XG ?_; clear zf1 zf2 zf3; ((try (repeat' with_reducible refine And.intro ?_ ?_)); (try any_goals (first | refine zm ?_ | exact CL | fail))))
    ((first | apply pr_psv | apply prD_psv | apply pr_qrunv | apply prD_qrunv) <;> (first | exact heq | (have zf1 := @hel; have zf2 := @hcut; have zf3 := @hml; refine XG ?_; clear zf1 zf2 zf3; first | exact rfl | exact True.intro | ((try (repeat' with_reducible refine And.intro ?_ ?_)); (try any_goals (first | refine zm ?_ | exact CL | fail))))))
    (refine xw_ifp (fun h2 => ?_) (fun h2 => ?_) <;> try exact h2.elim)
    · rw [if_pos (by simpa using h2)] at hik
      (have zf1 := @hik; refine XG ?_; clear zf1; ((try (repeat' with_reducible refine And.intro ?_ ?_)); (try any_goals (first | refine zm ?_ | exact CL | fail))))
    · rw [if_neg (by simpa using h2)] at hik
      (refine XG ?_; ((try (repeat' with_reducible refine And.intro ?_ ?_)); (try any_goals (first | refine zm ?_ | exact CL | fail))))
      refine ⟨k + 1, ⟨by omega, hik⟩, ⟨[], ?_⟩, by omega⟩
      (have zf1 := @hmn; have zf2 := @hmr; refine XG ?_; clear zf1 zf2; ((try (repeat' with_reducible refine And.intro ?_ ?_)); (try any_goals (first | refine zm ?_ | exact CL | fail))))
  · have : k = l.length := by omega
    subst this
    rw [List.drop_length] at hik
    have hik : (-1 : Int) = ixM l m 0 := hik
    (have zf1 := @hik; refine XG ?_; clear zf1; ((try (repeat' with_reducible refine And.intro ?_ ?_)); (try any_goals (first | refine zm ?_ | exact CL | fail))))
theorem clr_maps : clrT Try.prog 28 5 := clrT_of (by kernel_rfl)
theorem mps_drop (l : List Mp) (k : Nat) (h : k ≤ l.length) : (mps l).drop (k * 5) = mps (l.drop k) := by
  have e : mps l = mps (l.take k) ++ mps (l.drop k) := by rw [mps_app, List.take_append_drop]
  rw [e, List.drop_append_of_le_length (by rw [mps_len, List.length_take]; omega), List.drop_of_length_le (by rw [mps_len, List.length_take]; omega), List.nil_append]
theorem mps_erase (l : List Mp) (i : Nat) (hi : i < l.length) : (mps l).take (i * 5) ++ (mps l).drop ((i + 1) * 5) = mps (l.eraseIdx i) := by
  rw [mps_take l i (by omega), mps_drop l (i + 1) (by omega), mps_app, List.eraseIdx_eq_take_drop_succ]
set_option maxHeartbeats 1000000 in
theorem delete_gs (gl : Nat → AV) (l : List Mp) (hl : l.length ≤ 1000000) (i : Nat) (hi : i < l.length) : GS Try.prog gl 58 [.sl 5 0 0 l.length l.length, .int .i64 i, .int .i64 ((i : Int) + 1)] [(0, .cells (mps l))] 1
    (.sl 5 0 0 (l.length - 1) l.length) [(0, .cells (mps (l.eraseIdx i)))] 1 := by
  refine ft_sDelete.gs (of_decide_eq_true rfl) (by simp [Bk.live]) fun c hN hg => ?_
  unfold T_sDelete
  have hel := mps_len l
  have y1 : i - 0 = i := by omega
  have y2 : l.length - 0 = l.length := by omega
  have y3 : ((i : Int) + 1).toNat = i + 1 := by omega
  have y4 : i + (l.length - (i + 1)) = l.length - 1 := by omega
  have y5 : l.length - (l.length - 1) = 1 := by omega
  have y6 : i + 0 = i := by omega
  have y7 : (0 : Nat) * 5 = 0 := by omega
  have hcells := mps_erase l i hi
  have hel2 := mps_len (l.eraseIdx i)
  rw [List.length_eraseIdx, if_pos hi] at hel2
  have hfull : (mps (l.eraseIdx i)).take ((l.length - 1) * 5) = mps (l.eraseIdx i) := List.take_of_length_le (by omega)
  (have zf1 := @hel; refine XG ?_; clear zf1; ((try (repeat' with_reducible refine And.intro ?_ ?_)); (try any_goals (first | refine zm ?_ | exact CL | fail))))
  ((first | apply pr_psv | apply prD_psv | apply pr_qrunv | apply prD_qrunv) <;> (first | exact (sl3_run (by omega) (by omega) (by omega) (by omega)) | (refine XG ?_; first | exact rfl | exact True.intro | ((try (repeat' with_reducible refine And.intro ?_ ?_)); (try any_goals (first | refine zm ?_ | exact CL | fail))))))
  (refine xw_ifp (fun h1 => ?_) (fun h1 => ?_) <;> try exact h1.elim)
  · omega
  (have zf1 := @hel; refine XG ?_; clear zf1; ((try (repeat' with_reducible refine And.intro ?_ ?_)); (try any_goals (first | refine zm ?_ | exact CL | fail))))
  by_cases h2 : i + 1 < l.length
  · (have zf1 := @hel; refine XG ?_; clear zf1; ((try (repeat' with_reducible refine And.intro ?_ ?_)); (try any_goals (first | refine zm ?_ | exact CL | fail))))
    ((first | apply pr_appI | apply prD_appI); (have zf1 := @hel; have zf2 := @y1; have zf3 := @y2; have zf4 := @y3; have zf5 := @hcells; have zf6 := @y4; refine XG ?_; clear zf1 zf2 zf3 zf4 zf5 zf6; ((try (repeat' with_reducible refine And.intro ?_ ?_)); (try any_goals (first | refine zm ?_ | exact CL | fail)))))
    (refine pr_clr clr_maps ?_; (have zf1 := @hel; have zf2 := @y1; have zf3 := @y2; have zf4 := @y3; have zf5 := @y5; have zf6 := @hcells; have zf7 := @y4; have zf8 := @hfull; refine XG ?_; clear zf1 zf2 zf3 zf4 zf5 zf6 zf7 zf8; ((try (repeat' with_reducible refine And.intro ?_ ?_)); (try any_goals (first | refine zm ?_ | exact CL | fail)))))
    (refine XG ?_; ((try (repeat' with_reducible refine And.intro ?_ ?_)); (try any_goals (first | refine zm ?_ | exact CL | fail))))
    refine ⟨[], ?_⟩
    (refine XG ?_; ((try (repeat' with_reducible refine And.intro ?_ ?_)); (try any_goals (first | refine zm ?_ | exact CL | fail))))
  · have : i + 1 = l.length := by omega
    have y8 : l.length - 1 = i := by omega
    have hcells2 : (mps l).take (i * 5) = mps (l.eraseIdx i) := by rw [← hcells, List.drop_of_length_le (by omega), List.append_nil]
    rw [y8] at hfull
    (have zf1 := @hel; refine XG ?_; clear zf1; ((try (repeat' with_reducible refine And.intro ?_ ?_)); (try any_goals (first | refine zm ?_ | exact CL | fail))))
    ((first | apply pr_appI | apply prD_appI); (have zf1 := @hel; have zf2 := @y1; have zf3 := @y2; have zf4 := @y6; have zf5 := @y7; have zf6 := @List.append_nil.{0}; have zf7 := @hcells2; refine XG ?_; clear zf1 zf2 zf3 zf4 zf5 zf6 zf7; ((try (repeat' with_reducible refine And.intro ?_ ?_)); (try any_goals (first | refine zm ?_ | exact CL | fail)))))
    (refine pr_clr clr_maps ?_; (have zf1 := @hel; have zf2 := @y1; have zf3 := @y2; have zf4 := @y3; have zf5 := @y5; have zf6 := @y8; have zf7 := @hfull; refine XG ?_; clear zf1 zf2 zf3 zf4 zf5 zf6 zf7; ((try (repeat' with_reducible refine And.intro ?_ ?_)); (try any_goals (first | refine zm ?_ | exact CL | fail)))))
    (refine XG ?_; ((try (repeat' with_reducible refine And.intro ?_ ?_)); (try any_goals (first | refine zm ?_ | exact CL | fail))))
    refine ⟨[], ?_⟩
    (have zf1 := @y8; refine XG ?_; clear zf1; ((try (repeat' with_reducible refine And.intro ?_ ?_)); (try any_goals (first | refine zm ?_ | exact CL | fail))))
end Go.Proofs.Ytphaicaobepimaa
