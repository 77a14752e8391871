/- The law of a new map that is closed again. No conditions but the ones that stand in each. -/
import Derived.Test.YtphaicaobepimaaDt
namespace Go.Proofs.Ytphaicaobepimaa
set_option linter.all false
set_option linter.unusedSimpArgs false
open Go.RowKit

theorem opn_wf {t : Tb} (ht : t.wf) (proto s inn draw : Int) : (t.opn proto s inn draw).1.wf := by
  by_cases hb : goodB t = false ∨ knownB proto s inn = false
  · have : t.opn proto s inn draw = (t, mp0, false, 2) := if_pos hb
    rw [this]; exact ht
  · have hg : GT t := goodT_GT.1 ((goodB_iff t).1 (by cases h : goodB t; exact (hb (.inl h)).elim; rfl))
    have hk : knownB proto s inn = true := by cases h : knownB proto s inn; exact (hb (.inr h)).elim; rfl
    obtain ⟨_, ⟨hs0, _⟩, _⟩ := known_bd hk
    obtain ⟨S, rfl⟩ := Int.eq_ofNat_of_zero_le hs0
    exact (opened hg ht hk draw).wf ht
set_option maxHeartbeats 8000000 in
set_option maxRecDepth 20000 in
theorem BindRound_ps (gl : Nat → AV) (t : Tb) (ht : t.ok) (proto s inn draw : Int) : PS Try.prog gl 7 [.agg t.enc, .int .i64 proto, .int .i64 s, .int .i64 inn, .int .i64 draw] (.bool true) := by
  refine ft_kRound.ps (of_decide_eq_true rfl) (by simp [nmOk]) fun c hN hg => ?_
  unfold T_kRound
  have e2 := Tb.enc_len ht.wf
  have hO := bOpen_ps c.gl t ht proto s inn draw
  have hF := bFind_ps c.gl t ht.wf ht.len proto s inn
  have hK := kbinds_ps c.gl
  have hew := opn_wf ht.wf proto s inn draw
  have hbad : goodB t = false ∨ knownB proto s inn = false → (t.opn proto s inn draw).2.2.2 = 2 := fun h => by unfold Tb.opn; rw [if_pos h]
  have hS := ksame_ps c.gl t ht.wf ht.len
  by_cases he : (t.opn proto s inn draw).2.2.2 = 0
  rotate_left
  · generalize t.opn proto s inn draw = x at *
    obtain ⟨T, m, tk, e⟩ := x
    unfold opnT putT Mp.enc at hO
    dsimp only at hO he hew
    have e4 := Tb.enc_len hew
    have hne : (e != 0) = true := by simpa using he
    cases hf : t.maps.find? (isFwd proto s inn) with
    | none =>
      rw [hf] at hF
      unfold mpT mp0 Mp.enc at hF
      dsimp only at hF
      (have zf1 := @e2; refine XG ?_; clear zf1; ((try (repeat' with_reducible refine And.intro ?_ ?_)); (try any_goals (first | refine zm ?_ | exact CL | fail))))
      ((first | apply pr_psv | apply prD_psv | apply pr_qrunv | apply prD_qrunv) <;> (first | exact hF | (have zf1 := @e2; refine XG ?_; clear zf1; first | exact rfl | exact True.intro | ((try (repeat' with_reducible refine And.intro ?_ ?_)); (try any_goals (first | refine zm ?_ | exact CL | fail))))))
      ((first | apply pr_psv | apply prD_psv | apply pr_qrunv | apply prD_qrunv) <;> (first | exact hO | (have zf1 := @e2; have zf2 := @e4; have zf3 := @hne; refine XG ?_; clear zf1 zf2 zf3; first | exact rfl | exact True.intro | ((try (repeat' with_reducible refine And.intro ?_ ?_)); (try any_goals (first | refine zm ?_ | exact CL | fail))))))
      ((first | apply pr_skip | apply prD_skip) <;> (have zf1 := @hne; refine XG ?_; clear zf1; first | exact rfl | exact True.intro | ((try (repeat' with_reducible refine And.intro ?_ ?_)); (try any_goals (first | refine zm ?_ | exact CL | fail)))))
      (refine xw_ifp (fun h1 => ?_) (fun h1 => ?_) <;> try exact h1.elim)
      (refine XG ?_; ((try (repeat' with_reducible refine And.intro ?_ ?_)); (try any_goals (first | refine zm ?_ | exact CL | fail))))
      ((first | apply pr_psv | apply prD_psv | apply pr_qrunv | apply prD_qrunv) <;> (first | exact hK | (refine XG ?_; first | exact rfl | exact True.intro | ((try (repeat' with_reducible refine And.intro ?_ ?_)); (try any_goals (first | refine zm ?_ | exact CL | fail))))))
    | some o =>
      rw [hf] at hF
      unfold mpT Mp.enc at hF
      dsimp only at hF
      (have zf1 := @e2; refine XG ?_; clear zf1; ((try (repeat' with_reducible refine And.intro ?_ ?_)); (try any_goals (first | refine zm ?_ | exact CL | fail))))
      ((first | apply pr_psv | apply prD_psv | apply pr_qrunv | apply prD_qrunv) <;> (first | exact hF | (have zf1 := @e2; refine XG ?_; clear zf1; first | exact rfl | exact True.intro | ((try (repeat' with_reducible refine And.intro ?_ ?_)); (try any_goals (first | refine zm ?_ | exact CL | fail))))))
      ((first | apply pr_psv | apply prD_psv | apply pr_qrunv | apply prD_qrunv) <;> (first | exact hO | (have zf1 := @e2; have zf2 := @e4; have zf3 := @hne; refine XG ?_; clear zf1 zf2 zf3; first | exact rfl | exact True.intro | ((try (repeat' with_reducible refine And.intro ?_ ?_)); (try any_goals (first | refine zm ?_ | exact CL | fail))))))
      ((first | apply pr_skip | apply prD_skip) <;> (have zf1 := @hne; refine XG ?_; clear zf1; first | exact rfl | exact True.intro | ((try (repeat' with_reducible refine And.intro ?_ ?_)); (try any_goals (first | refine zm ?_ | exact CL | fail)))))
      (refine xw_ifp (fun h1 => ?_) (fun h1 => ?_) <;> try exact h1.elim)
      (refine XG ?_; ((try (repeat' with_reducible refine And.intro ?_ ?_)); (try any_goals (first | refine zm ?_ | exact CL | fail))))
      ((first | apply pr_psv | apply prD_psv | apply pr_qrunv | apply prD_qrunv) <;> (first | exact hK | (refine XG ?_; first | exact rfl | exact True.intro | ((try (repeat' with_reducible refine And.intro ?_ ?_)); (try any_goals (first | refine zm ?_ | exact CL | fail))))))
  have hgk : ¬ (goodB t = false ∨ knownB proto s inn = false) := fun h => by have := hbad h; omega
  have hg : GT t := goodT_GT.1 ((goodB_iff t).1 (by cases h : goodB t; exact (hgk (.inl h)).elim; rfl))
  have hk : knownB proto s inn = true := by cases h : knownB proto s inn; exact (hgk (.inr h)).elim; rfl
  obtain ⟨_, ⟨hs0, hs8⟩, _⟩ := known_bd hk
  obtain ⟨S, rfl⟩ := Int.eq_ofNat_of_zero_le hs0
  have hop := opened hg ht.wf hk draw
  generalize t.opn proto S inn draw = x at *
  have hT := hop.good hg ht.wf hk
  have hTw := hop.wf ht.wf
  have hrnd := round hg ht.wf hk hop
  obtain ⟨T, m, tk, e⟩ := x
  dsimp only at *
  subst he
  have hC := bClose_ps c.gl T (hT.ok hTw) m
  have hG := bGood_ps c.gl T (hT.ok hTw)
  rw [(goodB_iff T).2 (goodT_GT.2 hT)] at hG
  unfold opnT putT at hO
  dsimp only at hO
  have e4 := Tb.enc_len hTw
  cases hf : t.maps.find? (isFwd proto S inn) with
  | some o =>
    rw [hf] at hF
    unfold mpT Mp.enc at hF
    unfold Mp.enc at hO
    dsimp only at hF
    (have zf1 := @e2; refine XG ?_; clear zf1; ((try (repeat' with_reducible refine And.intro ?_ ?_)); (try any_goals (first | refine zm ?_ | exact CL | fail))))
    ((first | apply pr_psv | apply prD_psv | apply pr_qrunv | apply prD_qrunv) <;> (first | exact hF | (have zf1 := @e2; refine XG ?_; clear zf1; first | exact rfl | exact True.intro | ((try (repeat' with_reducible refine And.intro ?_ ?_)); (try any_goals (first | refine zm ?_ | exact CL | fail))))))
    ((first | apply pr_psv | apply prD_psv | apply pr_qrunv | apply prD_qrunv) <;> (first | exact hO | (have zf1 := @e2; have zf2 := @e4; refine XG ?_; clear zf1 zf2; first | exact rfl | exact True.intro | ((try (repeat' with_reducible refine And.intro ?_ ?_)); (try any_goals (first | refine zm ?_ | exact CL | fail))))))
    ((first | apply pr_skip | apply prD_skip) <;> (refine XG ?_; first | exact rfl | exact True.intro | ((try (repeat' with_reducible refine And.intro ?_ ?_)); (try any_goals (first | refine zm ?_ | exact CL | fail)))))
    (refine xw_ifp (fun h1 => ?_) (fun h1 => ?_) <;> try exact h1.elim)
    (refine XG ?_; ((try (repeat' with_reducible refine And.intro ?_ ?_)); (try any_goals (first | refine zm ?_ | exact CL | fail))))
    ((first | apply pr_psv | apply prD_psv | apply pr_qrunv | apply prD_qrunv) <;> (first | exact hK | (refine XG ?_; first | exact rfl | exact True.intro | ((try (repeat' with_reducible refine And.intro ?_ ?_)); (try any_goals (first | refine zm ?_ | exact CL | fail))))))
  | none =>
    rw [hrnd hf rfl] at hC
    unfold clsT at hC
    rw [hf] at hF
    unfold mpT mp0 at hF
    unfold Mp.enc at hF hO hC
    dsimp only at hF hC
    (have zf1 := @e2; refine XG ?_; clear zf1; ((try (repeat' with_reducible refine And.intro ?_ ?_)); (try any_goals (first | refine zm ?_ | exact CL | fail))))
    ((first | apply pr_psv | apply prD_psv | apply pr_qrunv | apply prD_qrunv) <;> (first | exact hF | (have zf1 := @e2; refine XG ?_; clear zf1; first | exact rfl | exact True.intro | ((try (repeat' with_reducible refine And.intro ?_ ?_)); (try any_goals (first | refine zm ?_ | exact CL | fail))))))
    ((first | apply pr_psv | apply prD_psv | apply pr_qrunv | apply prD_qrunv) <;> (first | exact hO | (have zf1 := @e2; have zf2 := @e4; refine XG ?_; clear zf1 zf2; first | exact rfl | exact True.intro | ((try (repeat' with_reducible refine And.intro ?_ ?_)); (try any_goals (first | refine zm ?_ | exact CL | fail))))))
    ((first | apply pr_psv | apply prD_psv | apply pr_qrunv | apply prD_qrunv) <;> (first | exact hK | (refine XG ?_; first | exact rfl | exact True.intro | ((try (repeat' with_reducible refine And.intro ?_ ?_)); (try any_goals (first | refine zm ?_ | exact CL | fail))))))
    (refine xw_ifp (fun h1 => ?_) (fun h1 => ?_) <;> try exact h1.elim)
    (have zf1 := @e4; refine XG ?_; clear zf1; ((try (repeat' with_reducible refine And.intro ?_ ?_)); (try any_goals (first | refine zm ?_ | exact CL | fail))))
    ((first | apply pr_psv | apply prD_psv | apply pr_qrunv | apply prD_qrunv) <;> (first | exact hC | (have zf1 := @e2; have zf2 := @e4; refine XG ?_; clear zf1 zf2; first | exact rfl | exact True.intro | ((try (repeat' with_reducible refine And.intro ?_ ?_)); (try any_goals (first | refine zm ?_ | exact CL | fail))))))
    ((first | apply pr_psv | apply prD_psv | apply pr_qrunv | apply prD_qrunv) <;> (first | exact hS | (have zf1 := @e2; have zf2 := @e4; refine XG ?_; clear zf1 zf2; first | exact rfl | exact True.intro | ((try (repeat' with_reducible refine And.intro ?_ ?_)); (try any_goals (first | refine zm ?_ | exact CL | fail))))))
    ((first | apply pr_psv | apply prD_psv | apply pr_qrunv | apply prD_qrunv) <;> (first | exact hG | (have zf1 := @e2; have zf2 := @e4; refine XG ?_; clear zf1 zf2; first | exact rfl | exact True.intro | ((try (repeat' with_reducible refine And.intro ?_ ?_)); (try any_goals (first | refine zm ?_ | exact CL | fail))))))
end Go.Proofs.Ytphaicaobepimaa
