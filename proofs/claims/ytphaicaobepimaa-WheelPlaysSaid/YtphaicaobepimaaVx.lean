/- The document's wheel: Due, Cancel, Arm. No conditions but the ones that stand in each. -/
import Derived.Test.YtphaicaobepimaaVt
import Derived.Test.YtphaicaobepimaaVq
namespace Go.Proofs.Ytphaicaobepimaa
set_option linter.all false
set_option linter.unusedSimpArgs false
open Go.RowKit

/-- The document's wheel as blocks. -/
def rwH (a : Nat) (D : List Tm) : List (Nat × Bk) := [(0, .cells [.int .i64 a, .sl 2 1 0 D.length D.length]), (1, .cells (tms D))]
theorem rwH_HL (a : Nat) (D : List Tm) : HL (rwH a D) 2 where
  mem q hq := by
    simp [rwH] at hq
    rcases hq with rfl | rfl
    · exact ⟨Nat.zero_lt_two, by simp [nmB, nmAll, nmOk]⟩
    · exact ⟨Nat.one_lt_two, by simp [nmB, tms_nm]⟩
  cov b hb := by
    rcases (by omega : b = 0 ∨ b = 1) with rfl | rfl
    · exact ⟨_, List.mem_cons_self, rfl⟩
    · exact ⟨_, List.mem_cons_of_mem _ List.mem_cons_self, rfl⟩
  self q hq := by
    simp [rwH] at hq
    rcases hq with rfl | rfl <;> rfl
theorem renH_rw (σ : Nat → Nat) (a : Nat) (D : List Tm) : renH σ (rwH a D) = [(σ 0, .cells [.int .i64 a, .sl 2 (σ 1) 0 D.length D.length]), (σ 1, .cells (tms D))] := by
  simp [renH, rwH, renB, rens, ren, tms_rens]
theorem dueT_at {D : List Tm} {x : Int} {k : Nat} (hk : k < D.length) (h : ∀ t ∈ D.take k, t.id ≠ x) (e : D[k].id = x) : dueT D x = D[k].due ∧ hasT D x = true := by
  have hs : D = D.take k ++ D[k] :: D.drop (k + 1) := by rw [← List.drop_eq_getElem_cons hk, List.take_append_drop]
  have hf : D.find? (fun t => t.id == x) = some D[k] := by
    conv => lhs; rw [hs]
    rw [List.find?_append, List.find?_eq_none.2 fun t ht => by simpa using h t ht, List.find?_cons]
    simp [e]
  refine ⟨by unfold dueT; rw [hf], ?_⟩
  unfold hasT
  rw [List.any_eq_true]
  exact ⟨D[k], List.getElem_mem _, by simpa using e⟩
theorem dueT_no {D : List Tm} {x : Int} (h : ∀ t ∈ D, t.id ≠ x) : dueT D x = 0 ∧ hasT D x = false := by
  constructor
  · unfold dueT; rw [List.find?_eq_none.2 fun t ht => by simpa using h t ht]
  · unfold hasT; rw [List.any_eq_false]; intro t ht; simpa using h t ht
theorem take_ne {D : List Tm} {x : Int} {k : Nat} (hk : k < D.length) (h : ∀ t ∈ D.take k, t.id ≠ x) (e : D[k].id ≠ x) : ∀ t ∈ D.take (k + 1), t.id ≠ x := fun t ht => by
  rw [List.take_succ, List.mem_append] at ht
  rcases ht with ht | ht
  · exact h t ht
  · simp [hk] at ht; subst ht; exact e
set_option maxHeartbeats 1000000 in
theorem rwDue_gd (gl : Nat → AV) (a : Nat) (D : List Tm) (hD : D.length ≤ 1000000) (x : Int) : GD Try.prog gl 45 [.ptr 0 0, .int .i64 x] (rwH a D) 2 [0, 1] (.tup [.int .i64 (dueT D x), .bool (hasT D x)]) (rwH a D) := by
  refine ft_rwDue.gq (of_decide_eq_true rfl) (by simp [rwH, Bk.live]) (by simp) fun c hgh hg => ?_
  unfold T_rwDue rwH
  have htl := tms_len D
  (refine XG ?_; ((try (repeat' with_reducible refine And.intro ?_ ?_)); (try any_goals (first | refine zm ?_ | exact CL | fail))))
  refine loop_ruleS (fun k : Nat => k ≤ D.length ∧ ∀ t ∈ D.take k, t.id ≠ x) (fun k => ⟨[(0, .ptr 0 0), (1, .int .i64 x), (11, .sl 2 1 0 D.length D.length), (12, .int .i64 D.length), (13, .int .i64 k)], [(0, .cells [.int .i64 a, .sl 2 1 0 D.length D.length]), (1, .cells (tms D))], 2⟩) (fun k => D.length - k) ft_rwDue.mixed [0, 1] hgh
    ⟨0, ⟨by omega, by simp⟩, To.sub (ρ := []) rfl (by (refine XG ?_; ((try (repeat' with_reducible refine And.intro ?_ ?_)); (try any_goals (first | refine zm ?_ | exact CL | fail)))))⟩ fun k hk => ?_
  obtain ⟨hk, hno⟩ := hk
  (refine XG ?_; ((try (repeat' with_reducible refine And.intro ?_ ?_)); (try any_goals (first | refine zm ?_ | exact CL | fail))))
  (refine xw_ifp (fun h1 => ?_) (fun h1 => ?_) <;> try exact h1.elim)
  · have hkn : k < D.length := by omega
    have hcut := tms_cut D k hkn
    have hat := dueT_at hkn hno
    have hne := take_ne hkn hno
    generalize D[k] = t at *
    (have zf1 := @htl; have zf2 := @hcut; refine XG ?_; clear zf1 zf2; ((try (repeat' with_reducible refine And.intro ?_ ?_)); (try any_goals (first | refine zm ?_ | exact CL | fail))))
    (refine xw_ifp (fun h2 => ?_) (fun h2 => ?_) <;> try exact h2.elim)
    · obtain ⟨e1, e2⟩ := hat (by simpa using h2)
      (refine XG ?_; ((try (repeat' with_reducible refine And.intro ?_ ?_)); (try any_goals (first | refine zm ?_ | exact CL | fail))))
      refine ⟨(), To.sub (ρ := []) rfl ?_⟩
      (have zf1 := @e1; have zf2 := @e2; refine XG ?_; clear zf1 zf2; ((try (repeat' with_reducible refine And.intro ?_ ?_)); (try any_goals (first | refine zm ?_ | exact CL | fail))))
    · (refine XG ?_; ((try (repeat' with_reducible refine And.intro ?_ ?_)); (try any_goals (first | refine zm ?_ | exact CL | fail))))
      exact ⟨k + 1, ⟨by omega, hne (by simpa using h2)⟩, To.sub (ρ := []) rfl (by (refine XG ?_; ((try (repeat' with_reducible refine And.intro ?_ ?_)); (try any_goals (first | refine zm ?_ | exact CL | fail))))), by omega⟩
  · obtain rfl : k = D.length := by omega
    rw [List.take_length] at hno
    obtain ⟨e1, e2⟩ := dueT_no hno
    (refine XG ?_; ((try (repeat' with_reducible refine And.intro ?_ ?_)); (try any_goals (first | refine zm ?_ | exact CL | fail))))
    refine ⟨(), To.sub (ρ := []) rfl ?_⟩
    (have zf1 := @e1; have zf2 := @e2; refine XG ?_; clear zf1 zf2; ((try (repeat' with_reducible refine And.intro ?_ ?_)); (try any_goals (first | refine zm ?_ | exact CL | fail))))
set_option maxHeartbeats 1000000 in
theorem rwCancel_gd (gl : Nat → AV) (a : Nat) (D : List Tm) (hD : D.length ≤ 1000000) (x : Int) : GD Try.prog gl 43 [.ptr 0 0, .int .i64 x] (rwH a D) 2 [0] (.int .i64 (cnlE D x)) (rwH a (offT x D)) := by
  refine ft_rwCancel.gq (of_decide_eq_true rfl) (by simp [rwH, Bk.live]) (by simp) fun c hgh hg => ?_
  unfold T_rwCancel rwH
  have htl := tms_len D
  (refine XG ?_; ((try (repeat' with_reducible refine And.intro ?_ ?_)); (try any_goals (first | refine zm ?_ | exact CL | fail))))
  refine loop_nil 5 2 rfl (by (refine XG ?_; ((try (repeat' with_reducible refine And.intro ?_ ?_)); (try any_goals (first | refine zm ?_ | exact CL | fail))))) ?_
  unfold St.named
  refine loop_ruleS (fun k : Nat => k ≤ D.length) (fun k => ⟨[(0, .ptr 0 0), (1, .int .i64 x), (5, .sl 2 2 0 (offT x (D.take k)).length (offT x (D.take k)).length), (11, .sl 2 1 0 D.length D.length), (12, .int .i64 D.length), (13, .int .i64 k)], [(0, .cells [.int .i64 a, .sl 2 1 0 D.length D.length]), (1, .cells (tms D)), (2, .cells (tms (offT x (D.take k))))], 3⟩) (fun k => D.length - k) ft_rwCancel.mixed [0] hgh
    ⟨0, by omega, To.sub (ρ := []) rfl (by rw [show offT x (D.take 0) = [] from rfl]; (have zf1 := @tms.eq_1; refine XG ?_; clear zf1; ((try (repeat' with_reducible refine And.intro ?_ ?_)); (try any_goals (first | refine zm ?_ | exact CL | fail)))))⟩ fun k hk => ?_
  have hol : (offT x (D.take k)).length ≤ 1000000 := by
    unfold offT
    exact Nat.le_trans (List.length_filter_le _ _) (by rw [List.length_take]; omega)
  (refine XG ?_; ((try (repeat' with_reducible refine And.intro ?_ ?_)); (try any_goals (first | refine zm ?_ | exact CL | fail))))
  (refine xw_ifp (fun h1 => ?_) (fun h1 => ?_) <;> try exact h1.elim)
  · have hkn : k < D.length := by omega
    have hcut := tms_cut D k hkn
    have htk : D.take (k + 1) = D.take k ++ [D[k]] := by rw [List.take_succ]; simp [hkn]
    have hoff : offT x (D.take (k + 1)) = if D[k].id = x then offT x (D.take k) else offT x (D.take k) ++ [D[k]] := by
      rw [htk]
      unfold offT
      rw [List.filter_append]
      split <;> simp_all
    generalize offT x (D.take k) = O at *
    generalize D[k] = t at *
    have hOl := tms_len O
    have hap : tms O ++ [.int .i64 t.id, .int .i64 t.due] = tms (O ++ [t]) := (tms_app O [t]).symm
    (have zf1 := @htl; have zf2 := @hcut; refine XG ?_; clear zf1 zf2; ((try (repeat' with_reducible refine And.intro ?_ ?_)); (try any_goals (first | refine zm ?_ | exact CL | fail))))
    (refine xw_ifp (fun h2 => ?_) (fun h2 => ?_) <;> try exact h2.elim)
    · rw [if_neg (by simpa using h2)] at hoff
      have hln : (O ++ [t]).length = O.length + 1 := by simp
      (refine XG ?_; ((try (repeat' with_reducible refine And.intro ?_ ?_)); (try any_goals (first | refine zm ?_ | exact CL | fail))))
      ((first | apply pr_app | apply prD_app | apply pr_bsl | apply prD_bsl | apply pr_s2b | apply prD_s2b); (refine XG ?_; ((try (repeat' with_reducible refine And.intro ?_ ?_)); (try any_goals (first | refine zm ?_ | exact CL | fail)))))
      ((first | apply pr_app | apply prD_app | apply pr_bsl | apply prD_bsl | apply pr_s2b | apply prD_s2b); (have zf1 := @hOl; have zf2 := @hap; refine XG ?_; clear zf1 zf2; ((try (repeat' with_reducible refine And.intro ?_ ?_)); (try any_goals (first | refine zm ?_ | exact CL | fail)))))
      refine ⟨k + 1, by omega, To.sub (ρ := [(2, 5)]) rfl ?_, by omega⟩
      rw [hoff]
      (have zf1 := @hln; refine XG ?_; clear zf1; ((try (repeat' with_reducible refine And.intro ?_ ?_)); (try any_goals (first | refine zm ?_ | exact CL | fail))))
    · rw [if_pos (by simpa using h2)] at hoff
      (refine XG ?_; ((try (repeat' with_reducible refine And.intro ?_ ?_)); (try any_goals (first | refine zm ?_ | exact CL | fail))))
      refine ⟨k + 1, by omega, To.sub (ρ := []) rfl ?_, by omega⟩
      rw [hoff]
      (refine XG ?_; ((try (repeat' with_reducible refine And.intro ?_ ?_)); (try any_goals (first | refine zm ?_ | exact CL | fail))))
  · obtain rfl : k = D.length := by omega
    rw [List.take_length] at hol ⊢
    have hlen : (offT x D).length = D.length ↔ hasT D x = false := by
      unfold offT hasT
      rw [List.length_filter_eq_length_iff, List.any_eq_false]
      simp
    cases hx : hasT D x with
    | true =>
      have hn : ¬ (offT x D).length = D.length := fun e => by rw [hlen.1 e] at hx; cases hx
      have hc : cnlE D x = 0 := by unfold cnlE; rw [hx]; rfl
      rw [hc]
      generalize offT x D = O at *
      (refine XG ?_; ((try (repeat' with_reducible refine And.intro ?_ ?_)); (try any_goals (first | refine zm ?_ | exact CL | fail))))
      (refine xw_ifp (fun h2 => ?_) (fun h2 => ?_) <;> try exact h2.elim)
      · omega
      (refine XG ?_; ((try (repeat' with_reducible refine And.intro ?_ ?_)); (try any_goals (first | refine zm ?_ | exact CL | fail))))
      refine ⟨(), To.sub (ρ := [(1, 2)]) rfl ?_⟩
      (refine XG ?_; ((try (repeat' with_reducible refine And.intro ?_ ?_)); (try any_goals (first | refine zm ?_ | exact CL | fail))))
    | false =>
      have hc : cnlE D x = 7 := by unfold cnlE; rw [hx]; rfl
      have ho : offT x D = D := off_self (hasT_false hx)
      rw [hc, ho]
      (refine XG ?_; ((try (repeat' with_reducible refine And.intro ?_ ?_)); (try any_goals (first | refine zm ?_ | exact CL | fail))))
      (refine xw_ifp (fun h2 => ?_) (fun h2 => ?_) <;> try exact h2.elim)
      (refine XG ?_; ((try (repeat' with_reducible refine And.intro ?_ ?_)); (try any_goals (first | refine zm ?_ | exact CL | fail))))
      refine ⟨(), To.sub (ρ := []) rfl ?_⟩
      (refine XG ?_; ((try (repeat' with_reducible refine And.intro ?_ ?_)); (try any_goals (first | refine zm ?_ | exact CL | fail))))
section
variable {P : Program} {c : Cx}
theorem pr_gd0 {d : Option Nat} {f : FuncId} {xs : List TV} {args : List AV} {hin hout : List (Nat × Bk)} {m n : Nat} {p : List Nat} {r : AV} {t : List (Nat × AV)} {ex : List (Nat × Bk)} {r0 : List TOp} {K : St → Prop} (hq : GD P c.gl f args hin m p r hout) (hl : HL hin m) (hp : ∀ b ∈ p, b < m) (hn : m ≤ n) (hex : ∀ q ∈ ex, m ≤ q.1 ∧ q.1 < n)
    (hc : cokAll none (evs c.gl (⟨t, ex ++ hin, n⟩ : St).fs xs) ∧ (evs c.gl (⟨t, ex ++ hin, n⟩ : St).fs xs).map strip = args ∧ nmAll m args) (hHL' : HL hout m) (hr : nmOk m r) (h : XP P c r0 K (gxSt t ex hout id p m n d r)) : PendR P c (.pd d (.call f) xs none) r0 K ⟨t, ex ++ hin, n⟩ := by
  have e : ex ++ hin = ex ++ renH id hin := by rw [renH_id]
  rw [e] at hc ⊢
  refine pr_gd (v := false) hq ⟨fun b b' _ _ e => e, fun b hb => by show b < n; omega, hl, hp, fun q hq => ⟨fun b hb e => by have := (hex q hq).1; have e : b = q.1 := e; omega, (hex q hq).2⟩, hc.1, ?_, hc.2.2⟩ rfl hHL' hr h
  rw [rens_id, hc.2.1]; rfl
end
theorem gxSt_rw2 {t : List (Nat × AV)} {ex : List (Nat × Bk)} {a : Nat} {D : List Tm} {n : Nat} {d : Option Nat} {r : AV} (hr : nmOk 0 r) : gxSt t ex (rwH a D) id [0, 1] 2 n d r = St.putO ⟨t, ex ++ rwH a D, n + 2⟩ d r := by
  unfold gxSt
  rw [ren_flat hr, renH_rw]; rfl
theorem gxSt_rw1 {t : List (Nat × AV)} {ex : List (Nat × Bk)} {a : Nat} {D : List Tm} {n : Nat} {d : Option Nat} {r : AV} (hr : nmOk 0 r) : gxSt t ex (rwH a D) id [0] 2 n d r = St.putO ⟨t, ex ++ [(0, .cells [.int .i64 a, .sl 2 (n + 1) 0 D.length D.length]), (n + 1, .cells (tms D))], n + 2⟩ d r := by
  unfold gxSt
  rw [ren_flat hr, renH_rw]; rfl
set_option maxHeartbeats 1000000 in
theorem rwArm_gd (gl : Nat → AV) (a : Nat) (D : List Tm) (hD : D.length ≤ 400) (x d : Int) (ha : a ≤ 1099511627776) : GD Try.prog gl 42 [.ptr 0 0, .int .i64 x, .int .i64 d] (rwH a D) 2 [0] (.int .i64 (armR a D x d).1) (rwH a (armR a D x d).2) := by
  refine ft_rwArm.gq (of_decide_eq_true rfl) (by simp [rwH, Bk.live]) (by simp) fun c hgh hg => ?_
  unfold T_rwArm
  have hdue := rwDue_gd c.gl a D (by omega) x
  have hcan := rwCancel_gd c.gl a D (by omega) x
  unfold armR
  by_cases h0 : d < 0 ∨ 1099511627776 < d
  · rw [if_pos h0]
    unfold rwH
    (refine XG ?_; ((try (repeat' with_reducible refine And.intro ?_ ?_)); (try any_goals (first | refine zm ?_ | exact CL | fail))))
    (refine xw_ifp (fun h1 => ?_) (fun h1 => ?_) <;> try exact h1.elim)
    · (refine XG ?_; ((try (repeat' with_reducible refine And.intro ?_ ?_)); (try any_goals (first | refine zm ?_ | exact CL | fail))))
      refine ⟨(), To.sub (ρ := []) rfl ?_⟩
      (refine XG ?_; ((try (repeat' with_reducible refine And.intro ?_ ?_)); (try any_goals (first | refine zm ?_ | exact CL | fail))))
    · omega
  rw [if_neg h0]
  (refine XG ?_; ((try (repeat' with_reducible refine And.intro ?_ ?_)); (try any_goals (first | refine zm ?_ | exact CL | fail))))
  (refine xw_ifp (fun h1 => ?_) (fun h1 => ?_) <;> try exact h1.elim)
  · omega
  (refine XG ?_; ((try (repeat' with_reducible refine And.intro ?_ ?_)); (try any_goals (first | refine zm ?_ | exact CL | fail))))
  refine pr_gd0 (ex := []) hdue (rwH_HL a D) (by simp) (Nat.le_refl 2) (by simp) (by (refine XG ?_; ((try (repeat' with_reducible refine And.intro ?_ ?_)); (try any_goals (first | refine zm ?_ | exact CL | fail))))) (rwH_HL a D) (by simp [nmOk, nmAll]) ?_
  rw [gxSt_rw2 (by simp [nmOk, nmAll])]
  have hlk : ∀ n, lookb (rwH a D) n 0 = .cells [.int .i64 a, .sl 2 1 0 D.length D.length] := fun n => rfl
  by_cases h2 : hasT D x = false ∧ 400 ≤ D.length
  · rw [if_pos h2]
    obtain ⟨g1, g2⟩ := h2
    have f1 : decide ((400 : Int) ≤ (D.length : Int)) = true := decide_eq_true (by omega)
    (have zf1 := @hlk; have zf2 := @g1; have zf3 := @f1; refine XG ?_; clear zf1 zf2 zf3; ((try (repeat' with_reducible refine And.intro ?_ ?_)); (try any_goals (first | refine zm ?_ | exact CL | fail))))
    (refine xw_ifp (fun h3 => ?_) (fun h3 => ?_) <;> try exact h3.elim)
    (refine XG ?_; ((try (repeat' with_reducible refine And.intro ?_ ?_)); (try any_goals (first | refine zm ?_ | exact CL | fail))))
    refine ⟨(), To.sub (ρ := []) rfl ?_⟩
    unfold rwH
    (refine XG ?_; ((try (repeat' with_reducible refine And.intro ?_ ?_)); (try any_goals (first | refine zm ?_ | exact CL | fail))))
  rw [if_neg h2]
  have hor : hasT D x = true ∨ hasT D x = false ∧ decide ((400 : Int) ≤ (D.length : Int)) = false := by
    cases hx : hasT D x with
    | true => exact .inl rfl
    | false => exact .inr ⟨rfl, decide_eq_false (by simp [hx] at h2; omega)⟩
  have hol : (offT x D).length ≤ D.length := List.length_filter_le _ _
  have hap : tms (offT x D) ++ [.int .i64 x, .int .i64 (if (a : Int) > d then (a : Int) else d)] = tms (armD D x (max d.toNat a)) := by
    unfold armD
    rw [tms_app]
    simp only [tms]
    rw [show (if (a : Int) > d then (a : Int) else d) = ((max d.toNat a : Nat) : Int) by split <;> omega]
  have hln : (armD D x (max d.toNat a)).length = (offT x D).length + 1 := by unfold armD; simp
  rcases hor with hx | ⟨hx, h400⟩
  · (have zf1 := @hlk; have zf2 := @hx; refine XG ?_; clear zf1 zf2; ((try (repeat' with_reducible refine And.intro ?_ ?_)); (try any_goals (first | refine zm ?_ | exact CL | fail))))
    (refine xw_ifp (fun h3 => ?_) (fun h3 => ?_) <;> try exact h3.elim)
    (refine XG ?_; ((try (repeat' with_reducible refine And.intro ?_ ?_)); (try any_goals (first | refine zm ?_ | exact CL | fail))))
    refine pr_gd0 (ex := []) hcan (rwH_HL a D) (by simp) (by decide) (by simp) (by (refine XG ?_; ((try (repeat' with_reducible refine And.intro ?_ ?_)); (try any_goals (first | refine zm ?_ | exact CL | fail))))) (rwH_HL a _) (by simp [nmOk, nmAll]) ?_
    rw [gxSt_rw1 (by simp [nmOk, nmAll])]
    generalize armD D x (max d.toNat a) = D2 at *
    generalize offT x D = O at *
    have hOl := tms_len O
    (refine XG ?_; ((try (repeat' with_reducible refine And.intro ?_ ?_)); (try any_goals (first | refine zm ?_ | exact CL | fail))))
    ((first | apply pr_app | apply prD_app | apply pr_bsl | apply prD_bsl | apply pr_s2b | apply prD_s2b); (refine XG ?_; ((try (repeat' with_reducible refine And.intro ?_ ?_)); (try any_goals (first | refine zm ?_ | exact CL | fail)))))
    ((first | apply pr_app | apply prD_app | apply pr_bsl | apply prD_bsl | apply pr_s2b | apply prD_s2b); (have zf1 := @hOl; have zf2 := @hap; refine XG ?_; clear zf1 zf2; ((try (repeat' with_reducible refine And.intro ?_ ?_)); (try any_goals (first | refine zm ?_ | exact CL | fail)))))
    (refine XG ?_; ((try (repeat' with_reducible refine And.intro ?_ ?_)); (try any_goals (first | refine zm ?_ | exact CL | fail))))
    refine ⟨(), To.sub (ρ := [(1, 7)]) rfl ?_⟩
    unfold rwH
    (have zf1 := @hln; refine XG ?_; clear zf1; ((try (repeat' with_reducible refine And.intro ?_ ?_)); (try any_goals (first | refine zm ?_ | exact CL | fail))))
    exact hap
  · (have zf1 := @hlk; have zf2 := @hx; have zf3 := @h400; refine XG ?_; clear zf1 zf2 zf3; ((try (repeat' with_reducible refine And.intro ?_ ?_)); (try any_goals (first | refine zm ?_ | exact CL | fail))))
    (refine xw_ifp (fun h3 => ?_) (fun h3 => ?_) <;> try exact h3.elim)
    (refine XG ?_; ((try (repeat' with_reducible refine And.intro ?_ ?_)); (try any_goals (first | refine zm ?_ | exact CL | fail))))
    refine pr_gd0 (ex := []) hcan (rwH_HL a D) (by simp) (by decide) (by simp) (by (refine XG ?_; ((try (repeat' with_reducible refine And.intro ?_ ?_)); (try any_goals (first | refine zm ?_ | exact CL | fail))))) (rwH_HL a _) (by simp [nmOk, nmAll]) ?_
    rw [gxSt_rw1 (by simp [nmOk, nmAll])]
    generalize armD D x (max d.toNat a) = D2 at *
    generalize offT x D = O at *
    have hOl := tms_len O
    (refine XG ?_; ((try (repeat' with_reducible refine And.intro ?_ ?_)); (try any_goals (first | refine zm ?_ | exact CL | fail))))
    ((first | apply pr_app | apply prD_app | apply pr_bsl | apply prD_bsl | apply pr_s2b | apply prD_s2b); (refine XG ?_; ((try (repeat' with_reducible refine And.intro ?_ ?_)); (try any_goals (first | refine zm ?_ | exact CL | fail)))))
    ((first | apply pr_app | apply prD_app | apply pr_bsl | apply prD_bsl | apply pr_s2b | apply prD_s2b); (have zf1 := @hOl; have zf2 := @hap; refine XG ?_; clear zf1 zf2; ((try (repeat' with_reducible refine And.intro ?_ ?_)); (try any_goals (first | refine zm ?_ | exact CL | fail)))))
    (refine XG ?_; ((try (repeat' with_reducible refine And.intro ?_ ?_)); (try any_goals (first | refine zm ?_ | exact CL | fail))))
    refine ⟨(), To.sub (ρ := [(1, 7)]) rfl ?_⟩
    unfold rwH
    (have zf1 := @hln; refine XG ?_; clear zf1; ((try (repeat' with_reducible refine And.intro ?_ ?_)); (try any_goals (first | refine zm ?_ | exact CL | fail))))
    exact hap
end Go.Proofs.Ytphaicaobepimaa
