/- Timers of a number are taken off a row. No conditions but the ones that stand in each. -/
import Derived.Test.YtphaicaobepimaaVd
namespace Go.Proofs.Ytphaicaobepimaa
set_option linter.all false
set_option linter.unusedSimpArgs false
open Go.RowKit

theorem wOut_gs (gl : Nat → AV) (t : Tm) (x : Int) : GS Try.prog gl 66 [.agg [.int .i64 t.id, .int .i64 t.due], .ptr 0 0] [(0, .cells [.int .i64 x])] 1 (.bool (t.id == x)) [(0, .cells [.int .i64 x])] 1 := by
  refine ft_wOut.gs (of_decide_eq_true rfl) (by simp [Bk.live]) fun c hN hg => ?_
  unfold T_wOut
  obtain ⟨id, due⟩ := t
  (refine XG ?_; ((try (repeat' with_reducible refine And.intro ?_ ?_)); (try any_goals (first | refine zm ?_ | exact CL | fail))))
  refine ⟨[], ?_⟩
  (refine XG ?_; ((try (repeat' with_reducible refine And.intro ?_ ?_)); (try any_goals (first | refine zm ?_ | exact CL | fail))))
def ixT (x : Int) : List Tm → Nat → Int
  | [], _ => -1
  | t :: l, k => if t.id = x then k else ixT x l (k + 1)
set_option maxHeartbeats 1000000 in
theorem ixf_gs (gl : Nat → AV) (l : List Tm) (hl : l.length ≤ 1000000) (x : Int) : GS Try.prog gl 74 [.sl 2 0 0 l.length l.length, .cl 66 [.ptr 1 0]]
    [(0, .cells (tms l)), (1, .cells [.int .i64 x])] 2 (.int .i64 (ixT x l 0)) [(0, .cells (tms l)), (1, .cells [.int .i64 x])] 2 := by
  refine ft_ixfT.gs (of_decide_eq_true rfl) (by simp [Bk.live]) fun c hN hg => ?_
  unfold T_ixfT
  have htl := tms_len l
  (refine XG ?_; ((try (repeat' with_reducible refine And.intro ?_ ?_)); (try any_goals (first | refine zm ?_ | exact CL | fail))))
  refine loop_ruleG (fun k : Nat => k ≤ l.length ∧ ixT x (l.drop k) k = ixT x l 0) (fun k => ⟨[(0, .sl 2 0 0 l.length l.length), (1, .cl 66 [.ptr 1 0]), (6, .sl 2 0 0 l.length l.length), (7, .int .i64 l.length), (8, .int .i64 k)], [(0, .cells (tms l)), (1, .cells [.int .i64 x])], 2⟩) (fun k => l.length - k) ft_ixfT.mixed 2 hN
    ⟨0, ⟨by omega, rfl⟩, [], by (refine XG ?_; ((try (repeat' with_reducible refine And.intro ?_ ?_)); (try any_goals (first | refine zm ?_ | exact CL | fail))))⟩ fun k hk => ?_
  obtain ⟨hk, hik⟩ := hk
  (refine XG ?_; ((try (repeat' with_reducible refine And.intro ?_ ?_)); (try any_goals (first | refine zm ?_ | exact CL | fail))))
  (refine xw_ifp (fun h1 => ?_) (fun h1 => ?_) <;> try exact h1.elim)
  · have hkn : k < l.length := by omega
    have hcut := tms_cut l k hkn
    have hdr : l.drop k = l[k] :: l.drop (k + 1) := List.drop_eq_getElem_cons hkn
    rw [hdr] at hik
    rw [ixT] at hik
    generalize l[k] = t at *
    have hc := wOut_gs c.gl t x
    (have zf1 := @htl; have zf2 := @hcut; refine XG ?_; clear zf1 zf2; ((try (repeat' with_reducible refine And.intro ?_ ?_)); (try any_goals (first | refine zm ?_ | exact CL | fail))))
    ((first | refine pr_gs (ins := [1]) hc ?_ ?_ | refine prD_gs (ins := [1]) hc ?_ ?_ | refine pr_gsv (ins := [1]) hc ?_ ?_ | refine prD_gsv (ins := [1]) hc ?_ ?_) <;> (have zf1 := @htl; have zf2 := @hcut; refine XG ?_; clear zf1 zf2; (try first | exact rfl | exact True.intro); ((try (repeat' with_reducible refine And.intro ?_ ?_)); (try any_goals (first | refine zm ?_ | exact CL | fail)))))
    (refine xw_ifp (fun h2 => ?_) (fun h2 => ?_) <;> try exact h2.elim)
    · rw [if_pos (by simpa using h2)] at hik
      (refine XG ?_; ((try (repeat' with_reducible refine And.intro ?_ ?_)); (try any_goals (first | refine zm ?_ | exact CL | fail))))
      refine ⟨[], ?_⟩
      (have zf1 := @hik; refine XG ?_; clear zf1; ((try (repeat' with_reducible refine And.intro ?_ ?_)); (try any_goals (first | refine zm ?_ | exact CL | fail))))
    · rw [if_neg (by simpa using h2)] at hik
      (refine XG ?_; ((try (repeat' with_reducible refine And.intro ?_ ?_)); (try any_goals (first | refine zm ?_ | exact CL | fail))))
      refine ⟨k + 1, ⟨by omega, hik⟩, ⟨[], ?_⟩, by omega⟩
      (refine XG ?_; ((try (repeat' with_reducible refine And.intro ?_ ?_)); (try any_goals (first | refine zm ?_ | exact CL | fail))))
  · have : k = l.length := by omega
    subst this
    rw [List.drop_length] at hik
    have hik : (-1 : Int) = ixT x l 0 := hik
    (refine XG ?_; ((try (repeat' with_reducible refine And.intro ?_ ?_)); (try any_goals (first | refine zm ?_ | exact CL | fail))))
    refine ⟨[], ?_⟩
    (have zf1 := @hik; refine XG ?_; clear zf1; ((try (repeat' with_reducible refine And.intro ?_ ?_)); (try any_goals (first | refine zm ?_ | exact CL | fail))))
theorem tms_drop (l : List Tm) (k : Nat) (h : k ≤ l.length) : (tms l).drop (k * 2) = tms (l.drop k) := by
  have e : tms l = tms (l.take k) ++ tms (l.drop k) := by rw [← tms_app, List.take_append_drop]
  rw [e, List.drop_append_of_le_length (by rw [tms_len, List.length_take]; omega), List.drop_of_length_le (by rw [tms_len, List.length_take]; omega), List.nil_append]
theorem tms_take (l : List Tm) (k : Nat) (h : k ≤ l.length) : (tms l).take (k * 2) = tms (l.take k) := by
  have e : tms l = tms (l.take k) ++ tms (l.drop k) := by rw [← tms_app, List.take_append_drop]
  rw [e, List.take_append_of_le_length (by rw [tms_len, List.length_take]; omega), List.take_of_length_le (by rw [tms_len, List.length_take]; omega)]
theorem tms_set (l : List Tm) (k : Nat) (h : k < l.length) (t : Tm) : (tms l).take (k * 2) ++ [.int .i64 t.id, .int .i64 t.due] ++ (tms l).drop (k * 2 + 2) = tms (l.set k t) := by
  rw [show k * 2 + 2 = (k + 1) * 2 by omega, tms_take l k (by omega), tms_drop l (k + 1) (by omega), List.set_eq_take_append_cons_drop, if_pos h, tms_app]
  simp [tms]
theorem ixT_none {x : Int} : ∀ (l : List Tm) (k : Nat), ixT x l k = -1 → ∀ t ∈ l, t.id ≠ x
  | [], _, _, t, ht => by cases ht
  | a :: l, k, h, t, ht => by
    unfold ixT at h
    split at h
    · omega
    · rcases List.mem_cons.1 ht with rfl | ht
      · assumption
      · exact ixT_none l (k + 1) h t ht
theorem ixT_some {x : Int} : ∀ (l : List Tm) (k : Nat), ixT x l k ≠ -1 → ∃ i, i < l.length ∧ ixT x l k = ((k + i : Nat) : Int) ∧ (∀ t ∈ l.take i, t.id ≠ x) ∧ ∃ t, l[i]? = some t ∧ t.id = x
  | [], _, h => absurd rfl h
  | a :: l, k, h => by
    unfold ixT at h ⊢
    split at h
    · rename_i e
      rw [if_pos e]
      exact ⟨0, by simp, by simp, by simp, a, rfl, e⟩
    · rename_i e
      rw [if_neg e]
      obtain ⟨i, h1, h2, h3, t, h4, h5⟩ := ixT_some l (k + 1) h
      refine ⟨i + 1, by simpa using h1, by rw [h2]; omega, fun y hy => ?_, t, by simpa using h4, h5⟩
      rw [List.take_succ_cons] at hy
      rcases List.mem_cons.1 hy with rfl | hy
      · exact e
      · exact h3 y hy
theorem clr_tms : clrT Try.prog 105 2 := clrT_of (by kernel_rfl)
/-- Those of other numbers. -/
def offT (x : Int) (l : List Tm) : List Tm := l.filter fun t => !(t.id == x)
set_option maxHeartbeats 2000000 in
theorem delT_gs (gl : Nat → AV) (l : List Tm) (hl : l.length ≤ 1000000) (x : Int) : GS Try.prog gl 67 [.sl 2 0 0 l.length l.length, .cl 66 [.ptr 1 0]]
    [(0, .cells (tms l)), (1, .cells [.int .i64 x])] 2 (.sl 2 0 0 (offT x l).length l.length) [(0, .cells (tms (offT x l))), (1, .cells [.int .i64 x])] 2 := by
  refine ft_delT.gs (of_decide_eq_true rfl) (by simp [Bk.live]) fun c hN hg => ?_
  unfold T_delT
  have htl := tms_len l
  have hi := ixf_gs c.gl l hl x
  (refine XG ?_; ((try (repeat' with_reducible refine And.intro ?_ ?_)); (try any_goals (first | refine zm ?_ | exact CL | fail))))
  ((first | refine pr_gs (ins := [0, 1]) hi ?_ ?_ | refine prD_gs (ins := [0, 1]) hi ?_ ?_ | refine pr_gsv (ins := [0, 1]) hi ?_ ?_ | refine prD_gsv (ins := [0, 1]) hi ?_ ?_) <;> (have zf1 := @htl; refine XG ?_; clear zf1; (try first | exact rfl | exact True.intro); ((try (repeat' with_reducible refine And.intro ?_ ?_)); (try any_goals (first | refine zm ?_ | exact CL | fail)))))
  · decide
  by_cases hno : ixT x l 0 = -1
  · have hoff : offT x l = l := List.filter_eq_self.2 fun t ht => by simpa using ixT_none l 0 hno t ht
    rw [hoff]
    (refine xw_ifp (fun h1 => ?_) (fun h1 => ?_) <;> try exact h1.elim)
    · (refine XG ?_; ((try (repeat' with_reducible refine And.intro ?_ ?_)); (try any_goals (first | refine zm ?_ | exact CL | fail))))
      refine ⟨[], ?_⟩
      (refine XG ?_; ((try (repeat' with_reducible refine And.intro ?_ ?_)); (try any_goals (first | refine zm ?_ | exact CL | fail))))
    · exact absurd hno (by simpa using h1)
  · obtain ⟨i0, q1, q2, q3, t0, q4, q5⟩ := ixT_some l 0 hno
    rw [Nat.zero_add] at q2
    rw [q2]
    (refine xw_ifp (fun h1 => ?_) (fun h1 => ?_) <;> try exact h1.elim)
    · omega
    (refine XG ?_; ((try (repeat' with_reducible refine And.intro ?_ ?_)); (try any_goals (first | refine zm ?_ | exact CL | fail))))
    refine loop_ruleG (fun y : Nat × Nat × List Tm => y.1 < y.2.1 ∧ y.2.1 ≤ l.length ∧ y.2.2.length = l.length ∧ y.2.2.take y.1 = offT x (l.take y.2.1) ∧ y.2.2.drop y.2.1 = l.drop y.2.1)
      (fun y => ⟨[(0, .sl 2 0 0 l.length l.length), (1, .cl 66 [.ptr 1 0]), (5, .int .i64 y.1), (6, .int .i64 y.2.1)], [(0, .cells (tms y.2.2)), (1, .cells [.int .i64 x])], 2⟩) (fun y => l.length - y.2.1) ft_delT.mixed 2 hN
      ⟨(i0, i0 + 1, l), ⟨by simp, by show i0 + 1 ≤ l.length; omega, rfl, ?_, rfl⟩, [], by (refine XG ?_; ((try (repeat' with_reducible refine And.intro ?_ ?_)); (try any_goals (first | refine zm ?_ | exact CL | fail))))⟩ fun y hy => ?_
    · have : l.take (i0 + 1) = l.take i0 ++ [t0] := by rw [List.take_succ, q4]; rfl
      show l.take i0 = offT x (l.take (i0 + 1))
      rw [this]
      unfold offT
      rw [List.filter_append, List.filter_eq_self.2 fun t ht => by simpa using q3 t ht]
      simp [q5]
    obtain ⟨i, j, M⟩ := y
    obtain ⟨hij, hjn, hM, hpre, hsuf⟩ := hy
    dsimp only at hij hjn hM hpre hsuf ⊢
    have htM := tms_len M
    (refine XG ?_; ((try (repeat' with_reducible refine And.intro ?_ ?_)); (try any_goals (first | refine zm ?_ | exact CL | fail))))
    (refine xw_ifp (fun h2 => ?_) (fun h2 => ?_) <;> try exact h2.elim)
    · have hjl : j < l.length := by omega
      have hjM : j < M.length := by omega
      have hcut := tms_cut M j hjM
      have hMj : M[j] = l[j] := by
        have e1 : (M.drop j)[0]? = M[j]? := by simp
        have e2 : (l.drop j)[0]? = l[j]? := by simp
        rw [hsuf, e2] at e1
        simpa [hjl, hjM] using e1.symm
      have htk : offT x (l.take (j + 1)) = if M[j].id = x then offT x (l.take j) else offT x (l.take j) ++ [M[j]] := by
        have : l.take (j + 1) = l.take j ++ [M[j]] := by rw [List.take_succ, hMj]; simp [hjl]
        rw [this]
        unfold offT
        rw [List.filter_append]
        split <;> simp_all
      have hdr : M.drop (j + 1) = l.drop (j + 1) := by
        have := congrArg (List.drop 1) hsuf
        simpa [List.drop_drop, Nat.add_comm] using this
      have hset : splc (tms M) (i * 2) [.int .i64 M[j].id, .int .i64 M[j].due] = tms (M.set i M[j]) := tms_set M i (by omega) M[j]
      have hlen2 : ((M.set i M[j]).take (i + 1)) = M.take i ++ [M[j]] := by
        rw [List.take_succ, List.take_set_of_le (Nat.le_refl i)]
        simp [show i < M.length by omega]
      have hdr2 : (M.set i M[j]).drop (j + 1) = M.drop (j + 1) := by rw [List.drop_set_of_lt (by omega)]
      have hsl : (M.set i M[j]).length = l.length := by simp [hM]
      have htS := tms_len (M.set i M[j])
      generalize M[j] = t at *
      have hc := wOut_gs c.gl t x
      (have zf1 := @htM; have zf2 := @hcut; refine XG ?_; clear zf1 zf2; ((try (repeat' with_reducible refine And.intro ?_ ?_)); (try any_goals (first | refine zm ?_ | exact CL | fail))))
      ((first | refine pr_gs (ins := [1]) hc ?_ ?_ | refine prD_gs (ins := [1]) hc ?_ ?_ | refine pr_gsv (ins := [1]) hc ?_ ?_ | refine prD_gsv (ins := [1]) hc ?_ ?_) <;> (have zf1 := @htM; have zf2 := @hcut; refine XG ?_; clear zf1 zf2; (try first | exact rfl | exact True.intro); ((try (repeat' with_reducible refine And.intro ?_ ?_)); (try any_goals (first | refine zm ?_ | exact CL | fail)))))
      (refine xw_ifp (fun h3 => ?_) (fun h3 => ?_) <;> try exact h3.elim)
      · rw [if_neg h3] at htk
        (have zf1 := @htM; have zf2 := @hset; refine XG ?_; clear zf1 zf2; ((try (repeat' with_reducible refine And.intro ?_ ?_)); (try any_goals (first | refine zm ?_ | exact CL | fail))))
        refine ⟨(i + 1, j + 1, M.set i t), ⟨by dsimp only; omega, by dsimp only; omega, hsl, by rw [hlen2, hpre, htk], by rw [hdr2, hdr]⟩, ⟨[], ?_⟩, by dsimp only; omega⟩
        (refine XG ?_; ((try (repeat' with_reducible refine And.intro ?_ ?_)); (try any_goals (first | refine zm ?_ | exact CL | fail))))
      · rw [if_pos (by simpa using h3)] at htk
        (have zf1 := @htM; refine XG ?_; clear zf1; ((try (repeat' with_reducible refine And.intro ?_ ?_)); (try any_goals (first | refine zm ?_ | exact CL | fail))))
        refine ⟨(i, j + 1, M), ⟨by dsimp only; omega, by dsimp only; omega, hM, by rw [hpre, htk], hdr⟩, ⟨[], ?_⟩, by dsimp only; omega⟩
        (refine XG ?_; ((try (repeat' with_reducible refine And.intro ?_ ?_)); (try any_goals (first | refine zm ?_ | exact CL | fail))))
    · obtain rfl : j = l.length := by omega
      rw [List.take_length] at hpre
      have hlo : (offT x l).length = i := by rw [← hpre, List.length_take]; omega
      have hto := tms_take M i (by omega)
      rw [hpre] at hto
      (refine XG ?_; ((try (repeat' with_reducible refine And.intro ?_ ?_)); (try any_goals (first | refine zm ?_ | exact CL | fail))))
      (refine pr_clr clr_tms ?_; (have zf1 := @hto; refine XG ?_; clear zf1; ((try (repeat' with_reducible refine And.intro ?_ ?_)); (try any_goals (first | refine zm ?_ | exact CL | fail)))))
      (refine XG ?_; ((try (repeat' with_reducible refine And.intro ?_ ?_)); (try any_goals (first | refine zm ?_ | exact CL | fail))))
      refine ⟨[], ?_⟩
      (have zf1 := @hlo; refine XG ?_; clear zf1; ((try (repeat' with_reducible refine And.intro ?_ ?_)); (try any_goals (first | refine zm ?_ | exact CL | fail))))
end Go.Proofs.Ytphaicaobepimaa
