/- The law of what is found. No conditions but the ones that stand in each. -/
import Derived.Test.YtphaicaobepimaaGd
namespace Go.Proofs.Ytphaicaobepimaa
set_option linter.all false
set_option linter.unusedSimpArgs false
open Go.RowKit

set_option maxHeartbeats 1000000 in
theorem rCopy_ps (gl : Nat → AV) (t : Tb) (ht : t.wf) (hl : t.maps.length ≤ 3518437208780) : PS Try.prog gl 14 [.agg t.enc] (.agg t.enc) := by
  refine ft_rCopy.ps (of_decide_eq_true rfl) (by simp [nmOk, Tb.enc_nm]) fun c hN hg => ?_
  unfold T_rCopy
  have e2 := Tb.enc_len ht
  have e3 := Tb.enc_maps ht
  have hel := mps_len t.maps
  have hs := Tb.enc_set ht
  have hhl := Tb.hd_len ht
  have hfull : (mps t.maps).take (t.maps.length * 5) = mps t.maps := List.take_of_length_le (by omega)
  (have zf1 := @e2; have zf2 := @e3; refine XG ?_; clear zf1 zf2; ((try (repeat' with_reducible refine And.intro ?_ ?_)); (try any_goals (first | refine zm ?_ | exact CL | fail))))
  ((first | apply pr_app | apply prD_app | apply pr_bsl | apply prD_bsl | apply pr_s2b | apply prD_s2b); (have zf1 := @hel; have zf2 := @hfull; refine XG ?_; clear zf1 zf2; ((try (repeat' with_reducible refine And.intro ?_ ?_)); (try any_goals (first | refine zm ?_ | exact CL | fail)))))
  (have zf1 := @hs; have zf2 := @hhl; have zf3 := @e2; have zf4 := @List.map_append.{0,0}; have zf5 := @hfull; refine XG ?_; clear zf1 zf2 zf3 zf4 zf5; ((try (repeat' with_reducible refine And.intro ?_ ?_)); (try any_goals (first | refine zm ?_ | exact CL | fail))))
  exact rfl
set_option maxHeartbeats 2000000 in
theorem rSame_ps (gl : Nat → AV) (t : Tb) (ht : t.wf) (hl : t.maps.length ≤ 4611686018427387904) : PS Try.prog gl 25 [.agg t.enc, .agg t.enc] (.bool true) := by
  refine ft_rSame.ps (of_decide_eq_true rfl) (by simp [nmOk]) fun c hN hg => ?_
  unfold T_rSame
  have e2 := Tb.enc_len ht
  have e3 := Tb.enc_maps ht
  have e4 := Tb.enc_pool ht
  have e5 := Tb.enc_homes ht
  have hel := mps_len t.maps
  have hp := @pool_same c true t.pool ht.pool
  have hh := @home_same c true t.home ht.home
  (have zf1 := @e2; have zf2 := @e4; refine XG ?_; clear zf1 zf2; ((try (repeat' with_reducible refine And.intro ?_ ?_)); (try any_goals (first | refine zm ?_ | exact CL | fail))))
  ((first | apply pr_psv | apply prD_psv | apply pr_qrunv | apply prD_qrunv) <;> (first | exact hp | (have zf1 := @e2; have zf2 := @e4; have zf3 := @e5; refine XG ?_; clear zf1 zf2 zf3; first | exact rfl | exact True.intro | ((try (repeat' with_reducible refine And.intro ?_ ?_)); (try any_goals (first | refine zm ?_ | exact CL | fail))))))
  ((first | apply pr_psv | apply prD_psv | apply pr_qrunv | apply prD_qrunv) <;> (first | exact hh | (have zf1 := @e2; have zf2 := @e3; refine XG ?_; clear zf1 zf2; first | exact rfl | exact True.intro | ((try (repeat' with_reducible refine And.intro ?_ ?_)); (try any_goals (first | refine zm ?_ | exact CL | fail))))))
  (refine xw_ifp (fun h1 => ?_) (fun h1 => ?_) <;> try exact h1.elim)
  (have zf1 := @e2; have zf2 := @e3; refine XG ?_; clear zf1 zf2; ((try (repeat' with_reducible refine And.intro ?_ ?_)); (try any_goals (first | refine zm ?_ | exact CL | fail))))
  refine loop_rule (fun k : Nat => k ≤ t.maps.length) (fun k => ⟨[(2, .ptr 0 0), (3, .ptr 1 0), (29, .int .i64 t.maps.length), (30, .int .i64 k)], [(0, .cells t.enc), (1, .cells t.enc)], 2⟩) (fun k => t.maps.length - k) ft_rSame.mixed hN
    ⟨0, by omega, [], by (refine XG ?_; ((try (repeat' with_reducible refine And.intro ?_ ?_)); (try any_goals (first | refine zm ?_ | exact CL | fail))))⟩ fun k hk => ?_
  (refine XG ?_; ((try (repeat' with_reducible refine And.intro ?_ ?_)); (try any_goals (first | refine zm ?_ | exact CL | fail))))
  (refine xw_ifp (fun h2 => ?_) (fun h2 => ?_) <;> try exact h2.elim)
  · have hkn : k < t.maps.length := by omega
    have hcut := mps_cut t.maps k hkn
    generalize t.maps[k] = x at *
    have heq := @mp_eq c true x x
    rw [decide_eq_true rfl] at heq
    (have zf1 := @e2; have zf2 := @e3; have zf3 := @hel; have zf4 := @hcut; refine XG ?_; clear zf1 zf2 zf3 zf4; ((try (repeat' with_reducible refine And.intro ?_ ?_)); (try any_goals (first | refine zm ?_ | exact CL | fail))))
    ((first | apply pr_psv | apply prD_psv | apply pr_qrunv | apply prD_qrunv) <;> (first | exact heq | (have zf1 := @e2; have zf2 := @e3; have zf3 := @hel; have zf4 := @hcut; refine XG ?_; clear zf1 zf2 zf3 zf4; first | exact rfl | exact True.intro | ((try (repeat' with_reducible refine And.intro ?_ ?_)); (try any_goals (first | refine zm ?_ | exact CL | fail))))))
    (refine xw_ifp (fun h3 => ?_) (fun h3 => ?_) <;> try exact h3.elim)
    (refine XG ?_; ((try (repeat' with_reducible refine And.intro ?_ ?_)); (try any_goals (first | refine zm ?_ | exact CL | fail))))
    refine ⟨k + 1, by omega, ⟨[], ?_⟩, by omega⟩
    (refine XG ?_; ((try (repeat' with_reducible refine And.intro ?_ ?_)); (try any_goals (first | refine zm ?_ | exact CL | fail))))
  · have : k = t.maps.length := by omega
    subst this
    (refine XG ?_; ((try (repeat' with_reducible refine And.intro ?_ ?_)); (try any_goals (first | refine zm ?_ | exact CL | fail))))
set_option maxHeartbeats 1000000 in
theorem lbinds_ps (gl : Nat → AV) : PS Try.prog gl 22 [] (.bool true) := by
  refine ft_lbinds.ps (of_decide_eq_true rfl) (by simp [nmOk]) fun c hN hg => ?_
  unfold T_lbinds
  have hO := bOpen_ps c.gl tb0 (tb0_GT.ok tb0_wf) 17 3 99 0
  rw [opn0] at hO
  have hO := hO.first (x := .agg (tb0.hd ++ [.nils])) fun g W w v h => VR.agg_last h fun u => nils_isl
  have hG := bGood_ps c.gl tb1 (tb1_GT.ok tb1_wf)
  rw [(goodB_iff _).2 (goodT_GT.2 tb1_GT)] at hG
  have e2 := Tb.enc_len tb1_wf
  have e3 := Tb.enc_home tb1_wf (s := 3) (by omega)
  rw [show tb1.hom 3 = 1 from rfl] at e3
  rw [zTab_eq] at hO
  unfold opnT putT zTab at hO
  dsimp only at hO
  generalize tb1 = t1 at *
  unfold mp1 Mp.enc at hO
  dsimp only at hO
  (refine XG ?_; ((try (repeat' with_reducible refine And.intro ?_ ?_)); (try any_goals (first | refine zm ?_ | exact CL | fail))))
  ((first | apply pr_psv | apply prD_psv | apply pr_qrunv | apply prD_qrunv) <;> (first | exact hO | (have zf1 := @e2; have zf2 := @e3; refine XG ?_; clear zf1 zf2; first | exact rfl | exact True.intro | ((try (repeat' with_reducible refine And.intro ?_ ?_)); (try any_goals (first | refine zm ?_ | exact CL | fail))))))
  ((first | apply pr_psv | apply prD_psv | apply pr_qrunv | apply prD_qrunv) <;> (first | exact hG | (have zf1 := @e2; refine XG ?_; clear zf1; first | exact rfl | exact True.intro | ((try (repeat' with_reducible refine And.intro ?_ ?_)); (try any_goals (first | refine zm ?_ | exact CL | fail))))))
theorem mpT_form (x : Option Mp) : ∃ (m : Mp) (b : Bool), mpT x = .tup [.agg m.enc, .bool b] := by
  cases x with
  | none => exact ⟨mp0, false, rfl⟩
  | some m => exact ⟨m, true, rfl⟩
set_option maxHeartbeats 4000000 in
set_option maxRecDepth 20000 in
theorem BindFinds_ps (gl : Nat → AV) (t : Tb) (ht : t.ok) (hl : t.maps.length ≤ 3518437208780) (hh : Hid (∀ s, s < 8 → -9223372036854775808 ≤ t.hom s ∧ t.hom s ≤ 9223372036854775807)) (proto s inn a port : Int) (hp : -9223372036854775808 ≤ port ∧ port ≤ 9223372036854775807) :
    PS Try.prog gl 3 [.agg t.enc, .int .i64 proto, .int .i64 s, .int .i64 inn, .int .i64 a, .int .i64 port] (.bool true) := by
  refine ft_lFinds.ps (of_decide_eq_true rfl) (by simp [nmOk]) fun c hN hg => ?_
  unfold T_lFinds
  have e2 := Tb.enc_len ht.wf
  have hC := rCopy_ps c.gl t ht.wf hl
  have hF := bFind_ps c.gl t ht.wf ht.len proto s inn
  have hF2 := rFind_ps c.gl t ht.wf ht.len proto s inn
  have hB := bBack_ps c.gl t ht.wf ht.len proto a port
  have hB2 := rBack_ps c.gl t ht.wf ht.len proto a port
  have hK := bBlock_ps c.gl port hp
  have hK2 := rBlockOf_ps c.gl port hp
  have hG := bGood_ps c.gl t ht
  have hG2 := rGoodTable_ps c.gl t ht hh
  have hL := lbinds_ps c.gl
  obtain ⟨m, b, e⟩ := mpT_form (t.maps.find? (isFwd proto s inn))
  obtain ⟨n, d, e'⟩ := mpT_form (t.maps.find? (isBack proto a port))
  rw [e] at hF hF2
  rw [e'] at hB hB2
  have q1 := @mp_eq c false m m
  have q2 := @mp_eq c false n n
  rw [decide_eq_true rfl] at q1 q2
  unfold blkT at hK hK2
  generalize blkOf' port = k at *
  generalize (if inPort port = true then (port - 1024) % 8 else 0) = j at *
  generalize inPort port = i at *
  generalize goodB t = G at *
  have l1 : m.enc.length = 5 := rfl
  have l2 : n.enc.length = 5 := rfl
  (have zf1 := @e2; refine XG ?_; clear zf1; ((try (repeat' with_reducible refine And.intro ?_ ?_)); (try any_goals (first | refine zm ?_ | exact CL | fail))))
  ((first | apply pr_psv | apply prD_psv | apply pr_qrunv | apply prD_qrunv) <;> (first | exact hC | (refine XG ?_; first | exact rfl | exact True.intro | ((try (repeat' with_reducible refine And.intro ?_ ?_)); (try any_goals (first | refine zm ?_ | exact CL | fail))))))
  ((first | apply pr_psv | apply prD_psv | apply pr_qrunv | apply prD_qrunv) <;> (first | exact hF | (have zf1 := @e2; have zf2 := @l1; refine XG ?_; clear zf1 zf2; first | exact rfl | exact True.intro | ((try (repeat' with_reducible refine And.intro ?_ ?_)); (try any_goals (first | refine zm ?_ | exact CL | fail))))))
  ((first | apply pr_psv | apply prD_psv | apply pr_qrunv | apply prD_qrunv) <;> (first | exact hF2 | (have zf1 := @e2; have zf2 := @l1; refine XG ?_; clear zf1 zf2; first | exact rfl | exact True.intro | ((try (repeat' with_reducible refine And.intro ?_ ?_)); (try any_goals (first | refine zm ?_ | exact CL | fail))))))
  ((first | apply pr_psv | apply prD_psv | apply pr_qrunv | apply prD_qrunv) <;> (first | exact hC | (refine XG ?_; first | exact rfl | exact True.intro | ((try (repeat' with_reducible refine And.intro ?_ ?_)); (try any_goals (first | refine zm ?_ | exact CL | fail))))))
  ((first | apply pr_psv | apply prD_psv | apply pr_qrunv | apply prD_qrunv) <;> (first | exact hB | (have zf1 := @e2; have zf2 := @l2; refine XG ?_; clear zf1 zf2; first | exact rfl | exact True.intro | ((try (repeat' with_reducible refine And.intro ?_ ?_)); (try any_goals (first | refine zm ?_ | exact CL | fail))))))
  ((first | apply pr_psv | apply prD_psv | apply pr_qrunv | apply prD_qrunv) <;> (first | exact hB2 | (have zf1 := @l2; refine XG ?_; clear zf1; first | exact rfl | exact True.intro | ((try (repeat' with_reducible refine And.intro ?_ ?_)); (try any_goals (first | refine zm ?_ | exact CL | fail))))))
  ((first | apply pr_psv | apply prD_psv | apply pr_qrunv | apply prD_qrunv) <;> (first | exact hK | (refine XG ?_; first | exact rfl | exact True.intro | ((try (repeat' with_reducible refine And.intro ?_ ?_)); (try any_goals (first | refine zm ?_ | exact CL | fail))))))
  ((first | apply pr_psv | apply prD_psv | apply pr_qrunv | apply prD_qrunv) <;> (first | exact hK2 | (have zf1 := @l1; have zf2 := @l2; refine XG ?_; clear zf1 zf2; first | exact rfl | exact True.intro | ((try (repeat' with_reducible refine And.intro ?_ ?_)); (try any_goals (first | refine zm ?_ | exact CL | fail))))))
  ((first | apply pr_psv | apply prD_psv | apply pr_qrunv | apply prD_qrunv) <;> (first | exact q1 | (have zf1 := @l1; have zf2 := @l2; refine XG ?_; clear zf1 zf2; first | exact rfl | exact True.intro | ((try (repeat' with_reducible refine And.intro ?_ ?_)); (try any_goals (first | refine zm ?_ | exact CL | fail))))))
  ((first | apply pr_psv | apply prD_psv | apply pr_qrunv | apply prD_qrunv) <;> (first | exact q2 | (have zf1 := @e2; refine XG ?_; clear zf1; first | exact rfl | exact True.intro | ((try (repeat' with_reducible refine And.intro ?_ ?_)); (try any_goals (first | refine zm ?_ | exact CL | fail))))))
  ((first | apply pr_psv | apply prD_psv | apply pr_qrunv | apply prD_qrunv) <;> (first | exact hC | (refine XG ?_; first | exact rfl | exact True.intro | ((try (repeat' with_reducible refine And.intro ?_ ?_)); (try any_goals (first | refine zm ?_ | exact CL | fail))))))
  ((first | apply pr_psv | apply prD_psv | apply pr_qrunv | apply prD_qrunv) <;> (first | exact hG | (have zf1 := @e2; refine XG ?_; clear zf1; first | exact rfl | exact True.intro | ((try (repeat' with_reducible refine And.intro ?_ ?_)); (try any_goals (first | refine zm ?_ | exact CL | fail))))))
  ((first | apply pr_psv | apply prD_psv | apply pr_qrunv | apply prD_qrunv) <;> (first | exact hG2 | (refine XG ?_; first | exact rfl | exact True.intro | ((try (repeat' with_reducible refine And.intro ?_ ?_)); (try any_goals (first | refine zm ?_ | exact CL | fail))))))
  ((first | apply pr_psv | apply prD_psv | apply pr_qrunv | apply prD_qrunv) <;> (first | exact hL | (refine XG ?_; first | exact rfl | exact True.intro | ((try (repeat' with_reducible refine And.intro ?_ ?_)); (try any_goals (first | refine zm ?_ | exact CL | fail))))))
end Go.Proofs.Ytphaicaobepimaa
