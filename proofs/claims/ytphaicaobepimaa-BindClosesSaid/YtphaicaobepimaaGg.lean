/- The law of what is opened. No conditions but the ones that stand in each. -/
import Derived.Test.YtphaicaobepimaaGf
namespace Go.Proofs.Ytphaicaobepimaa
set_option linter.all false
set_option linter.unusedSimpArgs false
open Go.RowKit

theorem rOpen_ps (gl : Nat → AV) (t : Tb) (ht : t.ok) (hh : Hid (∀ s, s < 8 → -9223372036854775808 ≤ t.hom s ∧ t.hom s ≤ 9223372036854775807)) (proto s inn draw : Int) : PS Try.prog gl 24 [.agg t.enc, .int .i64 proto, .int .i64 s, .int .i64 inn, .int .i64 draw] (opnT (t.opn proto s inn draw)) := by
  by_cases hb : goodB t = false ∨ knownB proto s inn = false
  · have e : t.opn proto s inn draw = (t, mp0, false, 2) := if_pos hb
    rw [e]
    exact rOpen_bad gl t ht hh proto s inn draw hb
  have e : t.opn proto s inn draw = match t.maps.find? (isFwd proto s inn) with
    | some m => (t, m, false, 0)
    | none =>
      if 12 ≤ manyOf t.maps s then (t, mp0, false, 6) else
      match firstFree t proto (t.hom s.toNat - 1) (ownL t s.toNat) with
      | some port => (t.add ⟨proto, s, inn, t.hom s.toNat - 1, port⟩, ⟨proto, s, inn, t.hom s.toNat - 1, port⟩, false, 0)
      | none =>
        if 2 ≤ (ownL t s.toNat).length then (t, mp0, false, 6) else
        if 1 ≤ t.hom s.toNat then t.tk proto s inn (t.hom s.toNat - 1) draw else
        if (t.pool.pick draw).2 ≠ 0 then (t, mp0, false, (t.pool.pick draw).2) else t.tk proto s inn (t.pool.pick draw).1 draw := if_neg hb
  have hg : goodB t = true := by
    cases h : goodB t
    · exact (hb (Or.inl h)).elim
    · rfl
  have hk : knownB proto s inn = true := by
    cases h : knownB proto s inn
    · exact (hb (Or.inr h)).elim
    · rfl
  obtain ⟨_, ⟨hs0, hs8⟩, _⟩ := known_bd hk
  obtain ⟨S, rfl⟩ := Int.eq_ofNat_of_zero_le hs0
  rw [Int.toNat_natCast] at e
  refine rOpen_in gl t ht hh ((goodB_iff t).1 hg) proto S inn draw hk _ (by rw [opnT_nm]; trivial) (Lib.hid fun m hm => ?_) (Lib.hid fun hm h12 => ?_) (Lib.hid fun hm h12 => ⟨fun port hp => ?_, fun hp => ⟨fun h2 => ?_, fun h2 => ⟨fun h1 => ?_, fun h1 => ⟨fun hz => ?_, fun hz => ?_⟩⟩⟩⟩)
  · rw [e, hm]; rfl
  · rw [e, hm]; dsimp only; rw [if_pos h12]; rfl
  · rw [e, hm]; dsimp only; rw [if_neg h12, hp]; rfl
  · rw [e, hm]; dsimp only; rw [if_neg h12, hp]; dsimp only; rw [if_pos h2]; rfl
  · rw [e, hm]; dsimp only; rw [if_neg h12, hp]; dsimp only; rw [if_neg h2, if_pos h1]
  · rw [e, hm]; dsimp only; rw [if_neg h12, hp]; dsimp only; rw [if_neg h2, if_neg h1, if_pos hz]; rfl
  · rw [e, hm]; dsimp only; rw [if_neg h12, hp]; dsimp only; rw [if_neg h2, if_neg h1, if_neg (by simp [hz])]
theorem opn_len (t : Tb) (proto s inn draw : Int) : (t.opn proto s inn draw).1.maps.length ≤ t.maps.length + 1 := by
  unfold Tb.opn
  split
  · exact Nat.le_succ _
  split
  · exact Nat.le_succ _
  split
  · exact Nat.le_succ _
  split
  · unfold Tb.add; simp
  split
  · exact Nat.le_succ _
  split
  · unfold Tb.tk Tb.add
    dsimp only
    split <;> simp
  split
  · exact Nat.le_succ _
  · unfold Tb.tk Tb.add
    dsimp only
    split <;> simp
theorem opn_wf (t : Tb) (ht : t.wf) (proto s inn draw : Int) : (t.opn proto s inn draw).1.wf := by
  by_cases hb : goodB t = false ∨ knownB proto s inn = false
  · have : t.opn proto s inn draw = (t, mp0, false, 2) := if_pos hb
    rw [this]; exact ht
  · have hg : GT t := goodT_GT.1 ((goodB_iff t).1 (by cases h : goodB t; exact (hb (.inl h)).elim; rfl))
    have hk : knownB proto s inn = true := by cases h : knownB proto s inn; exact (hb (.inr h)).elim; rfl
    obtain ⟨_, ⟨hs0, _⟩, _⟩ := known_bd hk
    obtain ⟨S, rfl⟩ := Int.eq_ofNat_of_zero_le hs0
    exact (opened hg ht hk draw).wf ht
set_option maxHeartbeats 4000000 in
set_option maxRecDepth 20000 in
theorem BindOpens_ps (gl : Nat → AV) (t : Tb) (ht : t.ok) (hl : t.maps.length ≤ 3518437208780) (hh : Hid (∀ s, s < 8 → -9223372036854775808 ≤ t.hom s ∧ t.hom s ≤ 9223372036854775807)) (proto s inn draw : Int) :
    PS Try.prog gl 4 [.agg t.enc, .int .i64 proto, .int .i64 s, .int .i64 inn, .int .i64 draw] (.bool true) := by
  refine ft_lOpens.ps (of_decide_eq_true rfl) (by simp [nmOk]) fun c hN hg => ?_
  unfold T_lOpens
  have e2 := Tb.enc_len ht.wf
  have hC := rCopy_ps c.gl t ht.wf hl
  have hO := bOpen_ps c.gl t ht proto s inn draw
  have hR := rOpen_ps c.gl t ht hh proto s inn draw
  have hw := opn_wf t ht.wf proto s inn draw
  have hol := opn_len t proto s inn draw
  generalize t.opn proto s inn draw = x at *
  obtain ⟨T, m, tk, e⟩ := x
  unfold opnT putT at hO hR
  dsimp only at hO hR hw hol
  have hS := rSame_ps c.gl t ht.wf (by omega)
  have hS2 := rSame_ps c.gl T hw (by omega)
  have hL := lbinds_ps c.gl
  have q1 := @mp_eq c false m m
  rw [decide_eq_true rfl] at q1
  have e4 := Tb.enc_len hw
  have l1 : m.enc.length = 5 := rfl
  (have zf1 := @e2; refine XG ?_; clear zf1; ((try (repeat' with_reducible refine And.intro ?_ ?_)); (try any_goals (first | refine zm ?_ | exact CL | fail))))
  ((first | apply pr_psv | apply prD_psv | apply pr_qrunv | apply prD_qrunv) <;> (first | exact hC | (have zf1 := @e2; refine XG ?_; clear zf1; first | exact rfl | exact True.intro | ((try (repeat' with_reducible refine And.intro ?_ ?_)); (try any_goals (first | refine zm ?_ | exact CL | fail))))))
  ((first | apply pr_psv | apply prD_psv | apply pr_qrunv | apply prD_qrunv) <;> (first | exact hO | (have zf1 := @e2; have zf2 := @e4; have zf3 := @l1; refine XG ?_; clear zf1 zf2 zf3; first | exact rfl | exact True.intro | ((try (repeat' with_reducible refine And.intro ?_ ?_)); (try any_goals (first | refine zm ?_ | exact CL | fail))))))
  ((first | apply pr_psv | apply prD_psv | apply pr_qrunv | apply prD_qrunv) <;> (first | exact hR | (have zf1 := @e2; have zf2 := @e4; have zf3 := @l1; refine XG ?_; clear zf1 zf2 zf3; first | exact rfl | exact True.intro | ((try (repeat' with_reducible refine And.intro ?_ ?_)); (try any_goals (first | refine zm ?_ | exact CL | fail))))))
  ((first | apply pr_psv | apply prD_psv | apply pr_qrunv | apply prD_qrunv) <;> (first | exact hS2 | (have zf1 := @e2; have zf2 := @e4; have zf3 := @l1; refine XG ?_; clear zf1 zf2 zf3; first | exact rfl | exact True.intro | ((try (repeat' with_reducible refine And.intro ?_ ?_)); (try any_goals (first | refine zm ?_ | exact CL | fail))))))
  ((first | apply pr_psv | apply prD_psv | apply pr_qrunv | apply prD_qrunv) <;> (first | exact q1 | (have zf1 := @e2; have zf2 := @e4; have zf3 := @l1; refine XG ?_; clear zf1 zf2 zf3; first | exact rfl | exact True.intro | ((try (repeat' with_reducible refine And.intro ?_ ?_)); (try any_goals (first | refine zm ?_ | exact CL | fail))))))
  ((first | apply pr_psv | apply prD_psv | apply pr_qrunv | apply prD_qrunv) <;> (first | exact hS | (have zf1 := @e2; have zf2 := @e4; have zf3 := @l1; refine XG ?_; clear zf1 zf2 zf3; first | exact rfl | exact True.intro | ((try (repeat' with_reducible refine And.intro ?_ ?_)); (try any_goals (first | refine zm ?_ | exact CL | fail))))))
  ((first | apply pr_psv | apply prD_psv | apply pr_qrunv | apply prD_qrunv) <;> (first | exact hL | (refine XG ?_; first | exact rfl | exact True.intro | ((try (repeat' with_reducible refine And.intro ?_ ?_)); (try any_goals (first | refine zm ?_ | exact CL | fail))))))
end Go.Proofs.Ytphaicaobepimaa
