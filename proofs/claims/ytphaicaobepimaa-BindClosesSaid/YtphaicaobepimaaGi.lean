/- The law of what is closed. No conditions but the ones that stand in each. -/
import Derived.Test.YtphaicaobepimaaGh
import Derived.Test.YtphaicaobepimaaTa
namespace Go.Proofs.Ytphaicaobepimaa
set_option linter.all false
set_option linter.unusedSimpArgs false
open Go.RowKit Go.ChangeShapes Go.WideShapes Go.Deep

theorem klash_self (m : Mp) : klash m m = true := by unfold klash; simp
theorem filter_erase {m : Mp} : ∀ (l : List Mp) (i : Nat), l.Pairwise (fun x y => klash x y = false) → l.findIdx? (fun x => decide (m = x)) = some i → l.filter (fun o => !decide (o = m)) = l.eraseIdx i
  | [], _, _, h => by simp at h
  | x :: l, i, hp, h => by
    rw [List.findIdx?_cons] at h
    obtain ⟨h1, h2⟩ := List.pairwise_cons.1 hp
    by_cases hx : m = x
    · subst hx
      simp only [decide_true, if_true, Option.some.injEq] at h
      subst h
      rw [List.eraseIdx_cons_zero, List.filter_cons_of_neg (by simp), List.filter_eq_self]
      intro o ho
      have h3 := h1 o ho
      by_cases e : o = m
      · subst e; rw [klash_self] at h3; cases h3
      · simp [e]
    · simp only [hx, decide_false, Bool.false_eq_true, if_false] at h
      cases hj : l.findIdx? (fun x => decide (m = x)) with
      | none => rw [hj] at h; simp at h
      | some j =>
        rw [hj] at h
        simp only [Option.map_some, Option.some.injEq] at h
        subst h
        have hx' : ¬ x = m := fun e => hx e.symm
        rw [List.eraseIdx_cons_succ, List.filter_cons_of_pos (by simp [hx']), filter_erase l j h2 hj]
theorem rClose_ps (gl : Nat → AV) (t : Tb) (ht : t.ok) (hh : Hid (∀ s, s < 8 → -9223372036854775808 ≤ t.hom s ∧ t.hom s ≤ 9223372036854775807)) (m : Mp) (hmb : -9223372036854775808 ≤ m.port ∧ m.port ≤ 9223372036854775807) : PS Try.prog gl 28 [.agg t.enc, .agg m.enc] (clsT (t.cls m)) := by
  by_cases hb : goodB t = false
  · have e : t.cls m = (t, false, 2) := if_pos hb
    rw [e]
    exact rClose_bad gl t ht hh m hb
  have hg : goodB t = true := by
    cases h : goodB t
    · exact (hb h).elim
    · rfl
  have hgt := (goodB_iff t).1 hg
  have e : t.cls m = match t.maps.findIdx? (fun x => decide (m = x)) with
    | none => (t, false, 7)
    | some i => if (t.maps.eraseIdx i).any (sameB m) = true then (t.del i, false, 0) else ((t.del i).give m, true, 0) := if_neg hb
  have hall : hasM t.maps m t.maps.length = t.maps.any fun o => decide (o = m) := by unfold hasM; rw [List.take_length]
  have hkp : keepM t.maps m t.maps.length = t.maps.filter fun o => !decide (o = m) := by unfold keepM; rw [List.take_length]
  cases hi : t.maps.findIdx? (fun x => decide (m = x)) with
  | none =>
    have hn : hasM t.maps m t.maps.length = false := by
      rw [hall, List.any_eq_false]
      intro o ho
      have := List.findIdx?_eq_none_iff.1 hi o ho
      simp only [decide_eq_false_iff_not] at this
      simp only [decide_eq_true_eq]
      exact fun q => this q.symm
    rw [hi] at e
    refine rClose_in gl t ht hh hgt m hmb _ rfl _ (by rw [clsT_nm]; trivial) (Lib.hid fun _ => by rw [e]) (Lib.hid fun h => ?_) (Lib.hid fun h => ?_)
    · rw [hn] at h; cases h
    · rw [hn] at h; cases h
  | some i =>
    obtain ⟨hil, him⟩ := find_ix hi
    have hn : hasM t.maps m t.maps.length = true := by
      rw [hall, List.any_eq_true]
      exact ⟨_, List.getElem_mem hil, by simp [him]⟩
    have hL : keepM t.maps m t.maps.length = t.maps.eraseIdx i := by rw [hkp]; exact filter_erase _ _ (goodT_GT.1 hgt).apart hi
    have hany : (t.maps.eraseIdx i).any (sameB m) = true ↔ 0 < (t.maps.eraseIdx i).countP (sameB m) := by rw [List.countP_pos_iff, List.any_eq_true]
    rw [hi] at e
    dsimp only at e
    refine rClose_in gl t ht hh hgt m hmb _ hL _ (by rw [clsT_nm]; trivial) (Lib.hid fun h => ?_) (Lib.hid fun _ h => ?_) (Lib.hid fun _ h => ?_)
    · rw [hn] at h; cases h
    · rw [e, if_pos (hany.2 h)]; rfl
    · rw [e, if_neg (fun q => h (hany.1 q))]; rfl
theorem cls_wf {t : Tb} (ht : t.wf) (m : Mp) : (t.cls m).1.wf ∧ (t.cls m).1.maps.length ≤ t.maps.length := by
  unfold Tb.cls
  split
  · exact ⟨ht, Nat.le_refl _⟩
  split
  · exact ⟨ht, Nat.le_refl _⟩
  rename_i i hi
  have hl : (t.maps.eraseIdx i).length ≤ t.maps.length := List.Sublist.length_le (List.eraseIdx_sublist _ _)
  split
  · exact ⟨⟨ht.pool, ht.home⟩, hl⟩
  · have hp := Pool.give_wf t.pool ht.pool m.s m.a (blkOf' m.port)
    unfold Tb.give
    dsimp only
    split
    · exact ⟨⟨hp, by show (t.home.set _ _).length = 8; rw [List.length_set]; exact ht.home⟩, hl⟩
    · exact ⟨⟨hp, ht.home⟩, hl⟩
theorem Mp.nm (m : Mp) (n : Nat) : nmAll n m.enc = True := by simp [Mp.enc, nmAll, nmOk]
theorem Mp.rens (m : Mp) (ρ : Nat → Nat) : rens ρ m.enc = m.enc := by simp [Mp.enc, Proofs.Ytphaicaobepimaa.rens, ren]
attribute [go_sem] Mp.nm Mp.rens
set_option maxHeartbeats 4000000 in
set_option maxRecDepth 20000 in
theorem BindCloses_ps (gl : Nat → AV) (t : Tb) (ht : t.ok) (hl : t.maps.length ≤ 3518437208780) (hh : Hid (∀ s, s < 8 → -9223372036854775808 ≤ t.hom s ∧ t.hom s ≤ 9223372036854775807)) (m : Mp) (hmb : MpB m) :
    PS Try.prog gl 6 [.agg t.enc, .agg m.enc] (.bool true) := by
  refine ft_lCloses.ps (of_decide_eq_true rfl) (by simp [nmOk]) fun c hN hg => ?_
  unfold T_lCloses
  have e2 := Tb.enc_len ht.wf
  have hC := rCopy_ps c.gl t ht.wf hl
  have hO := bClose_ps c.gl t ht m
  have hR := rClose_ps c.gl t ht hh m hmb.2.2.2.2
  obtain ⟨hw, hol⟩ := cls_wf ht.wf m
  generalize t.cls m = x at *
  obtain ⟨T, b, e⟩ := x
  unfold clsT at hO hR
  dsimp only at hO hR hw hol
  have hS := rSame_ps c.gl t ht.wf (by omega)
  have hS2 := rSame_ps c.gl T hw (by omega)
  have hL := lbinds_ps c.gl
  have e4 := Tb.enc_len hw
  have l1 : m.enc.length = 5 := rfl
  (have zf1 := @e2; refine XG ?_; clear zf1; ((try (repeat' with_reducible refine And.intro ?_ ?_)); (try any_goals (first | refine zm ?_ | exact CL | fail))))
  ((first | apply pr_psv | apply prD_psv | apply pr_qrunv | apply prD_qrunv) <;> (first | exact hC | (have zf1 := @e2; have zf2 := @l1; refine XG ?_; clear zf1 zf2; first | exact rfl | exact True.intro | ((try (repeat' with_reducible refine And.intro ?_ ?_)); (try any_goals (first | refine zm ?_ | exact CL | fail))))))
  ((first | apply pr_psv | apply prD_psv | apply pr_qrunv | apply prD_qrunv) <;> (first | exact hO | (have zf1 := @e2; have zf2 := @e4; have zf3 := @l1; refine XG ?_; clear zf1 zf2 zf3; first | exact rfl | exact True.intro | ((try (repeat' with_reducible refine And.intro ?_ ?_)); (try any_goals (first | refine zm ?_ | exact CL | fail))))))
  ((first | apply pr_psv | apply prD_psv | apply pr_qrunv | apply prD_qrunv) <;> (first | exact hR | (have zf1 := @e2; have zf2 := @e4; have zf3 := @l1; refine XG ?_; clear zf1 zf2 zf3; first | exact rfl | exact True.intro | ((try (repeat' with_reducible refine And.intro ?_ ?_)); (try any_goals (first | refine zm ?_ | exact CL | fail))))))
  ((first | apply pr_psv | apply prD_psv | apply pr_qrunv | apply prD_qrunv) <;> (first | exact hS2 | (have zf1 := @e2; have zf2 := @e4; have zf3 := @l1; refine XG ?_; clear zf1 zf2 zf3; first | exact rfl | exact True.intro | ((try (repeat' with_reducible refine And.intro ?_ ?_)); (try any_goals (first | refine zm ?_ | exact CL | fail))))))
  ((first | apply pr_psv | apply prD_psv | apply pr_qrunv | apply prD_qrunv) <;> (first | exact hS | (have zf1 := @e2; have zf2 := @e4; have zf3 := @l1; refine XG ?_; clear zf1 zf2 zf3; first | exact rfl | exact True.intro | ((try (repeat' with_reducible refine And.intro ?_ ?_)); (try any_goals (first | refine zm ?_ | exact CL | fail))))))
  ((first | apply pr_psv | apply prD_psv | apply pr_qrunv | apply prD_qrunv) <;> (first | exact hL | (refine XG ?_; first | exact rfl | exact True.intro | ((try (repeat' with_reducible refine And.intro ?_ ?_)); (try any_goals (first | refine zm ?_ | exact CL | fail))))))
theorem mp_cellTypes : Try.prog.cellTypes Try.prog.depth 32 = some (List.replicate 5 3) := by kernel_rfl
theorem mp_cells5 : Try.prog.cellsOf 32 = 5 := by kernel_rfl
set_option maxRecDepth 100000 in
theorem arg_map {w : World} {b0 : Nat} {v : Value} (hval : Value.okWide Try.prog w .any b0 32 v) : ∃ m : Mp, MpB m ∧ VR (fun _ => .un) (fun _ => False) w (.agg m.enc) v := by
  obtain ⟨cs, rfl, hs, hall⟩ := arg_cells (.inl ⟨_, mp_struct⟩) mp_cellTypes mp_cells5 rfl hval
  have hint : ∀ i, i < 5 → ∃ z, cs.getD i undef = .int .i64 z ∧ -9223372036854775808 ≤ z ∧ z ≤ 9223372036854775807 := fun i hi => by
    obtain ⟨x, hx, hc⟩ := hall i 3 (by rw [List.getElem?_replicate, if_pos hi])
    obtain ⟨z, rfl, hz⟩ := cell_int hc Try.underlying3
    exact ⟨z, by rw [Array.getD_eq_getD_getElem?, hx]; rfl, hz⟩
  obtain ⟨z0, e0, b0⟩ := hint 0 (by omega)
  obtain ⟨z1, e1, b1⟩ := hint 1 (by omega)
  obtain ⟨z2, e2, b2⟩ := hint 2 (by omega)
  obtain ⟨z3, e3, b3⟩ := hint 3 (by omega)
  obtain ⟨z4, e4, b4⟩ := hint 4 (by omega)
  refine ⟨⟨z0, z1, z2, z3, z4⟩, ⟨b0, b1, b2, b3, b4⟩, .agg (by rw [hs]; rfl) (fun j hj => ?_) fun j hj => ?_⟩
  · have hj : j < 5 := hj
    obtain ⟨z, e, _⟩ := hint j hj
    rw [e]; rfl
  · have hj : j < 5 := hj
    rcases (by omega : j = 0 ∨ j = 1 ∨ j = 2 ∨ j = 3 ∨ j = 4) with rfl | rfl | rfl | rfl | rfl
    · rw [e0]; exact .int _ _
    · rw [e1]; exact .int _ _
    · rw [e2]; exact .int _ _
    · rw [e3]; exact .int _ _
    · rw [e4]; exact .int _ _
end Go.Proofs.Ytphaicaobepimaa
