/- What package bind answers: the blocks of a subscriber. No conditions but the ones that stand in each. -/
import Derived.Test.YtphaicaobepimaaDc
namespace Go.Proofs.Ytphaicaobepimaa
set_option linter.all false
set_option linter.unusedSimpArgs false
open Go.RowKit

theorem Tb.enc_row {t : Tb} (h : t.wf) {a : Nat} (ha : a < 3) : (t.enc.drop (a * 6)).take 6 = ints (t.pool.row a) := by
  have e := row_take t.pool h.pool a ha
  unfold Tb.enc Tb.hd
  rw [List.append_assoc, List.drop_append_of_le_length (by rw [Pool.enc_len h.pool]; omega), List.take_append_of_le_length (by rw [List.length_drop, Pool.enc_len h.pool]; omega), e]
/-- The blocks, below n, that a subscriber has at its home. -/
def ownB (t : Tb) (s n : Nat) : List Nat := (List.range n).filter fun k => t.pool.ow (t.hom s - 1).toNat k == (s : Int) + 1
theorem ownB_succ (t : Tb) (s n : Nat) : ownB t s (n + 1) = ownB t s n ++ if t.pool.ow (t.hom s - 1).toNat n = (s : Int) + 1 then [n] else [] := by
  unfold ownB; rw [List.range_succ, List.filter_append]; simp [List.filter_cons]
theorem ownB_le (t : Tb) (s n : Nat) : (ownB t s n).length ≤ n := by
  have := List.length_filter_le (fun k => t.pool.ow (t.hom s - 1).toNat k == (s : Int) + 1) (List.range n); simpa [ownB] using this
def blksT (t : Tb) (s : Nat) : AV := if 1 ≤ t.hom s then .isl (ownB t s 6).length (ints (natI (ownB t s 6))) else .nils
theorem blks_nm (n : Nat) (t : Tb) (s : Nat) : nmOk n (blksT t s) := by unfold blksT; split <;> simp [nmOk, nm_ints]
set_option maxHeartbeats 1000000 in
theorem bblocks_ps (gl : Nat → AV) (t : Tb) (ht : t.wf) (s : Nat) (hs : s < 8) (h3 : 0 ≤ t.hom s ∧ t.hom s ≤ 3) : PS Try.prog gl 51 [.agg t.enc, .int .i64 s] (blksT t s) := by
  refine ft_bblocks.ps (of_decide_eq_true rfl) (blks_nm 0 t s) fun c hN hg => ?_
  unfold T_bblocks
  have e2 := Tb.enc_len ht
  have eh := Tb.enc_home ht hs
  by_cases h1 : 1 ≤ t.hom s
  rotate_left
  · have hr : blksT t s = .nils := if_neg h1
    rw [hr]
    generalize t.hom s = h at *
    (have zf1 := @e2; have zf2 := @eh; refine XG ?_; clear zf1 zf2; ((try (repeat' with_reducible refine And.intro ?_ ?_)); (try any_goals (first | refine zm ?_ | exact CL | fail))))
    (refine xw_ifp (fun g1 => ?_) (fun g1 => ?_) <;> try exact g1.elim)
    · omega
    (refine XG ?_; ((try (repeat' with_reducible refine And.intro ?_ ?_)); (try any_goals (first | refine zm ?_ | exact CL | fail))))
  have hr : blksT t s = .isl (ownB t s 6).length (ints (natI (ownB t s 6))) := if_pos h1
  rw [hr]
  obtain ⟨a, ha⟩ := Int.eq_ofNat_of_zero_le (show 0 ≤ t.hom s - 1 by omega)
  have ha3 : a < 3 := by omega
  have hat : (t.hom s - 1).toNat = a := by omega
  have hrw := Tb.enc_row ht ha3
  have hrl := row_length t.pool ht.pool a ha3
  have hsucc := ownB_succ t s
  have hle := ownB_le t s
  rw [hat] at hsucc
  have h0 : ownB t s 0 = [] := rfl
  generalize ownB t s = W at *
  generalize t.hom s = h at *
  (have zf1 := @e2; have zf2 := @eh; have zf3 := @ha; refine XG ?_; clear zf1 zf2 zf3; ((try (repeat' with_reducible refine And.intro ?_ ?_)); (try any_goals (first | refine zm ?_ | exact CL | fail))))
  (refine xw_ifp (fun g1 => ?_) (fun g1 => ?_) <;> try exact g1.elim)
  rotate_left
  · omega
  (have zf1 := @e2; have zf2 := @hrw; refine XG ?_; clear zf1 zf2; ((try (repeat' with_reducible refine And.intro ?_ ?_)); (try any_goals (first | refine zm ?_ | exact CL | fail))))
  refine loop_nil 5 1 rfl rfl ?_
  refine loop_rule (fun k : Nat => k ≤ 6) (fun k => ⟨[(1, .int .i64 s), (5, .sl 1 1 0 (W k).length (W k).length), (20, .agg (ints (t.pool.row a))), (21, .int .i64 k)], [(0, .cells t.enc), (1, .cells (ints (natI (W k))))], 2⟩) (fun k => 6 - k) ft_bblocks.mixed hN
    ⟨0, by omega, [], by (have zf1 := @St.named.eq_1; have zf2 := @h0; refine XG ?_; clear zf1 zf2; ((try (repeat' with_reducible refine And.intro ?_ ?_)); (try any_goals (first | refine zm ?_ | exact CL | fail)))) <;> exact rfl⟩ fun k hk => ?_
  have hlk := hle k
  have hnl := natI_len (W k)
  (refine XG ?_; ((try (repeat' with_reducible refine And.intro ?_ ?_)); (try any_goals (first | refine zm ?_ | exact CL | fail))))
  (refine xw_ifp (fun g2 => ?_) (fun g2 => ?_) <;> try exact g2.elim)
  · have hk6 : k < 6 := by omega
    have hv := row_getD t.pool a k hk6
    have hsk := hsucc k
    generalize t.pool.ow a k = x at *
    (have zf1 := @hrl; have zf2 := @hv; refine XG ?_; clear zf1 zf2; ((try (repeat' with_reducible refine And.intro ?_ ?_)); (try any_goals (first | refine zm ?_ | exact CL | fail))))
    (refine xw_ifp (fun g3 => ?_) (fun g3 => ?_) <;> try exact g3.elim)
    · have hsk : W (k + 1) = W k ++ [k] := by rw [hsk, if_pos g3]
      have hsn := natI_snoc (W k) k
      have hln : (W k ++ [k]).length = (W k).length + 1 := by simp
      (refine XG ?_; ((try (repeat' with_reducible refine And.intro ?_ ?_)); (try any_goals (first | refine zm ?_ | exact CL | fail))))
      ((first | apply pr_app | apply prD_app | apply pr_bsl | apply prD_bsl | apply pr_s2b | apply prD_s2b); (refine XG ?_; ((try (repeat' with_reducible refine And.intro ?_ ?_)); (try any_goals (first | refine zm ?_ | exact CL | fail)))))
      ((first | apply pr_app | apply prD_app | apply pr_bsl | apply prD_bsl | apply pr_s2b | apply prD_s2b); (have zf1 := @hnl; refine XG ?_; clear zf1; ((try (repeat' with_reducible refine And.intro ?_ ?_)); (try any_goals (first | refine zm ?_ | exact CL | fail)))))
      refine ⟨k + 1, by omega, ⟨[(1, 3)], ?_⟩, by omega⟩
      (have zf1 := @hsk; have zf2 := @hsn; have zf3 := @hln; refine XG ?_; clear zf1 zf2 zf3; ((try (repeat' with_reducible refine And.intro ?_ ?_)); (try any_goals (first | refine zm ?_ | exact CL | fail))))
    · have hsk : W (k + 1) = W k := by rw [hsk, if_neg g3, List.append_nil]
      (refine XG ?_; ((try (repeat' with_reducible refine And.intro ?_ ?_)); (try any_goals (first | refine zm ?_ | exact CL | fail))))
      refine ⟨k + 1, by omega, ⟨[], ?_⟩, by omega⟩
      (have zf1 := @hsk; refine XG ?_; clear zf1; ((try (repeat' with_reducible refine And.intro ?_ ?_)); (try any_goals (first | refine zm ?_ | exact CL | fail))))
  · have : k = 6 := by omega
    subst this
    (have zf1 := @hnl; refine XG ?_; clear zf1; ((try (repeat' with_reducible refine And.intro ?_ ?_)); (try any_goals (first | refine zm ?_ | exact CL | fail))))
end Go.Proofs.Ytphaicaobepimaa
