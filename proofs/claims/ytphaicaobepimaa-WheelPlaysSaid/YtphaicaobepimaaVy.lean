/- The document's wheel: Advance. No conditions but the ones that stand in each. -/
import Derived.Test.YtphaicaobepimaaVx
import Derived.Test.YtphaicaobepimaaVm
namespace Go.Proofs.Ytphaicaobepimaa
set_option linter.all false
set_option linter.unusedSimpArgs false
open Go.RowKit

/-- The best so far of those that are due. -/
def BI (D : List Tm) (to k : Nat) (best : Int) : Prop := (best = -1 ∧ ∀ t ∈ D.take k, to < t.due) ∨ ∃ (b : Nat) (t : Tm), best = b ∧ b < k ∧ D[b]? = some t ∧ t.due ≤ to ∧ ∀ u ∈ D.take k, u.due ≤ to → leT t u = true
theorem mem_take1 {D : List Tm} {k : Nat} {u t : Tm} (hk : D[k]? = some t) : u ∈ D.take (k + 1) ↔ u ∈ D.take k ∨ u = t := by
  rw [List.take_succ, List.mem_append, hk]; simp
theorem BI.skip {D : List Tm} {to k : Nat} {best : Int} {t : Tm} (h : BI D to k best) (hk : D[k]? = some t) (ht : to < t.due) : BI D to (k + 1) best := by
  rcases h with ⟨h1, h2⟩ | ⟨b, s, h1, h2, h3, h4, h5⟩
  · refine .inl ⟨h1, fun u hu => ?_⟩
    rcases (mem_take1 hk).1 hu with hu | rfl
    · exact h2 u hu
    · exact ht
  · refine .inr ⟨b, s, h1, by omega, h3, h4, fun u hu hd => ?_⟩
    rcases (mem_take1 hk).1 hu with hu | rfl
    · exact h5 u hu hd
    · omega
theorem BI.first {D : List Tm} {to k : Nat} {t : Tm} (h : ∀ t ∈ D.take k, to < t.due) (hk : D[k]? = some t) (ht : t.due ≤ to) : BI D to (k + 1) k := by
  refine .inr ⟨k, t, rfl, by omega, hk, ht, fun u hu hd => ?_⟩
  rcases (mem_take1 hk).1 hu with hu | rfl
  · have := h u hu; omega
  · rw [leT_iff]; omega
theorem BI.more {D : List Tm} {to k : Nat} {s t : Tm} (h5 : ∀ u ∈ D.take k, u.due ≤ to → leT s u = true) (hk : D[k]? = some t) (ht : t.due ≤ to) (hl : leT t s = true) : BI D to (k + 1) k := by
  refine .inr ⟨k, t, rfl, by omega, hk, ht, fun u hu hd => ?_⟩
  rcases (mem_take1 hk).1 hu with hu | rfl
  · exact leT_trans _ _ _ hl (h5 u hu hd)
  · rw [leT_iff]; omega
theorem BI.keep {D : List Tm} {to k b : Nat} {s t : Tm} (hb : b < k) (h3 : D[b]? = some s) (h4 : s.due ≤ to) (h5 : ∀ u ∈ D.take k, u.due ≤ to → leT s u = true) (hk : D[k]? = some t) (hl : leT s t = true) : BI D to (k + 1) b := by
  refine .inr ⟨b, s, rfl, by omega, h3, h4, fun u hu hd => ?_⟩
  rcases (mem_take1 hk).1 hu with hu | rfl
  · exact h5 u hu hd
  · exact hl
theorem outT_done {D : List Tm} {to : Nat} (h : ∀ t ∈ D, to < t.due) : outT D (to + 1) = [] ∧ (D.filter fun t => decide (to < t.due)) = D := by
  constructor
  · unfold outT
    rw [List.filter_eq_nil_iff.2 fun t ht => by have := h t ht; simp; omega]
    simp [srt]
  · exact List.filter_eq_self.2 fun t ht => by simpa using h t ht
theorem outT_best {D : List Tm} {to b : Nat} {t : Tm} (hb : D[b]? = some t) (ht : t.due ≤ to) (hl : ∀ u ∈ D, u.due ≤ to → leT t u = true) : outT D (to + 1) = t.id :: outT (D.take b ++ D.drop (b + 1)) (to + 1) ∧ ((D.take b ++ D.drop (b + 1)).filter fun t => decide (to < t.due)) = D.filter fun t => decide (to < t.due) := by
  have hlt : b < D.length := (List.getElem?_eq_some_iff.1 hb).1
  have hbe : D[b] = t := (List.getElem?_eq_some_iff.1 hb).2
  have hs : D = D.take b ++ t :: D.drop (b + 1) := by
    conv => lhs; rw [← List.take_append_drop b D, List.drop_eq_getElem_cons hlt, hbe]
  have hm : ∀ u ∈ D.take b ++ D.drop (b + 1), u ∈ D := fun u hu => by
    rw [hs]
    rcases List.mem_append.1 hu with h | h
    · exact List.mem_append_left _ h
    · exact List.mem_append_right _ (List.mem_cons_of_mem _ h)
  constructor
  · unfold outT
    rw [← List.map_cons (f := fun x : Tm => x.id)]
    congr 1
    refine srt_uniq ?_ ?_
    · refine ((srt_perm _).cons t).trans ?_
      conv => rhs; rw [hs]
      rw [List.filter_append, List.filter_append, List.filter_cons, if_pos (by simp; omega)]
      exact List.perm_middle.symm
    · rw [List.pairwise_cons]
      refine ⟨fun u hu => ?_, srt_ord _⟩
      have := (srt_perm _).mem_iff.1 hu
      rw [List.mem_filter] at this
      exact hl u (hm u this.1) (by have := this.2; simp at this; omega)
  · conv => rhs; rw [hs]
    rw [List.filter_append, List.filter_append, List.filter_cons, if_neg (by simp; omega)]
theorem tms_getI (l : List Tm) (i : Nat) (h : i < l.length) : (tms l).getD (i * 2) .any = .int .i64 l[i].id ∧ (tms l).getD (i * 2 + 1) .any = .int .i64 l[i].due := by
  have hc := tms_cut l i h
  have hl := tms_len l
  have e : ∀ j, j < 2 → ((tms l).drop (i * 2)).take 2 = [.int .i64 l[i].id, .int .i64 l[i].due] → (tms l).getD (i * 2 + j) .any = [AV.int .i64 l[i].id, .int .i64 l[i].due].getD j .any := fun j hj hc => by
    rw [← hc]
    simp [List.getD, List.getElem?_take, hj, List.getElem?_drop]
  exact ⟨e 0 (by omega) hc, e 1 (by omega) hc⟩
set_option maxHeartbeats 4000000 in
set_option maxRecDepth 20000 in
theorem rwAdv_gd (gl : Nat → AV) (a : Nat) (D0 : List Tm) (hD0 : D0.length ≤ 400) (ha : a ≤ 1099511627776) (d : Int) : GD Try.prog gl 44 [.ptr 0 0, .int .i64 d] (rwH a D0) 2 [0] (.tup [.isl (advR a D0 d).2.1.length (ints (advR a D0 d).2.1), .int .i64 (advR a D0 d).1]) (rwH (advR a D0 d).2.2.1 (advR a D0 d).2.2.2) := by
  unfold advR
  by_cases h0 : d < a ∨ 1099511627776 < d
  · rw [if_pos h0]
    refine GQ.wk (r := fun _ => .tup [.nils, .int .i64 2]) ?_ fun _ => Wk.tup2 Wk.nils (Wk.refl _)
    refine ft_rwAdv.gq (of_decide_eq_true rfl) (by simp [rwH, Bk.live]) (by simp) fun c hgh hg => ?_
    unfold T_rwAdv rwH
    (refine XG ?_; ((try (repeat' with_reducible refine And.intro ?_ ?_)); (try any_goals (first | refine zm ?_ | exact CL | fail))))
    (refine xw_ifp (fun h1 => ?_) (fun h1 => ?_) <;> try exact h1.elim)
    · (refine XG ?_; ((try (repeat' with_reducible refine And.intro ?_ ?_)); (try any_goals (first | refine zm ?_ | exact CL | fail))))
      refine ⟨(), To.sub (ρ := []) rfl ?_⟩
      (refine XG ?_; ((try (repeat' with_reducible refine And.intro ?_ ?_)); (try any_goals (first | refine zm ?_ | exact CL | fail))))
    · omega
  rw [if_neg h0]
  obtain ⟨to, rfl⟩ : ∃ k : Nat, d = k := ⟨d.toNat, by omega⟩
  rw [show (to : Int).toNat = to by omega]
  dsimp only
  refine ft_rwAdv.gq (of_decide_eq_true rfl) (by simp [rwH, Bk.live]) (by simp) fun c hgh hg => ?_
  unfold T_rwAdv rwH
  (refine XG ?_; ((try (repeat' with_reducible refine And.intro ?_ ?_)); (try any_goals (first | refine zm ?_ | exact CL | fail))))
  (refine xw_ifp (fun h1 => ?_) (fun h1 => ?_) <;> try exact h1.elim)
  · omega
  (refine XG ?_; ((try (repeat' with_reducible refine And.intro ?_ ?_)); (try any_goals (first | refine zm ?_ | exact CL | fail))))
  refine loop_nil 6 1 rfl (by (refine XG ?_; ((try (repeat' with_reducible refine And.intro ?_ ?_)); (try any_goals (first | refine zm ?_ | exact CL | fail))))) ?_
  unfold St.named
  refine loop_ruleS (fun y : List Tm × List Int => y.1.length ≤ 400 ∧ y.2 ++ outT y.1 (to + 1) = outT D0 (to + 1) ∧ (y.1.filter fun t => decide (to < t.due)) = D0.filter fun t => decide (to < t.due))
    (fun y => ⟨[(0, .ptr 0 0), (1, .int .i64 to), (6, .sl 1 2 0 y.2.length y.2.length)], [(0, .cells [.int .i64 to, .sl 2 1 0 y.1.length y.1.length]), (1, .cells (tms y.1)), (2, .cells (ints y.2))], 3⟩) (fun y => y.1.length) ft_rwAdv.mixed [0] hgh
    ⟨(D0, []), ⟨hD0, rfl, rfl⟩, To.sub (ρ := []) rfl (by (refine XG ?_; ((try (repeat' with_reducible refine And.intro ?_ ?_)); (try any_goals (first | refine zm ?_ | exact CL | fail)))))⟩ fun y hy => ?_
  obtain ⟨D, O⟩ := y
  obtain ⟨hD, hout, hflt⟩ := hy
  dsimp only at hD hout hflt ⊢
  have hOl : O.length ≤ 400 := by
    have h1 : (outT D0 (to + 1)).length ≤ 400 := by
      unfold outT
      rw [List.length_map, (srt_perm _).length_eq]
      exact Nat.le_trans (List.length_filter_le _ _) hD0
    rw [← hout, List.length_append] at h1
    omega
  have htl := tms_len D
  (refine XG ?_; ((try (repeat' with_reducible refine And.intro ?_ ?_)); (try any_goals (first | refine zm ?_ | exact CL | fail))))
  refine loop_ruleS (fun y : Nat × Int => y.1 ≤ D.length ∧ BI D to y.1 y.2)
    (fun y => ⟨[(0, .ptr 0 0), (1, .int .i64 to), (6, .sl 1 2 0 O.length O.length), (7, .int .i64 y.2), (27, .sl 2 1 0 D.length D.length), (28, .int .i64 D.length), (29, .int .i64 y.1)], [(0, .cells [.int .i64 to, .sl 2 1 0 D.length D.length]), (1, .cells (tms D)), (2, .cells (ints O))], 3⟩) (fun y => D.length - y.1) ft_rwAdv.mixed [0] hgh
    ⟨(0, -1), ⟨by simp, .inl ⟨rfl, by simp⟩⟩, To.sub (ρ := []) rfl (by (refine XG ?_; ((try (repeat' with_reducible refine And.intro ?_ ?_)); (try any_goals (first | refine zm ?_ | exact CL | fail)))))⟩ fun y hy => ?_
  obtain ⟨k, best⟩ := y
  obtain ⟨hk, hbi⟩ := hy
  dsimp only at hk hbi ⊢
  (refine XG ?_; ((try (repeat' with_reducible refine And.intro ?_ ?_)); (try any_goals (first | refine zm ?_ | exact CL | fail))))
  (refine xw_ifp (fun h2 => ?_) (fun h2 => ?_) <;> try exact h2.elim)
  · have hkn : k < D.length := by omega
    have hcut := tms_cut D k hkn
    have hDk : D[k]? = some D[k] := List.getElem?_eq_getElem hkn
    generalize D[k] = t at *
    have hend : ∀ (s : St) (b2 : Int), BI D to (k + 1) b2 → To [0] s ⟨[(0, .ptr 0 0), (1, .int .i64 to), (6, .sl 1 2 0 O.length O.length), (7, .int .i64 b2), (27, .sl 2 1 0 D.length D.length), (28, .int .i64 D.length), (29, .int .i64 (k + 1 : Nat))], [(0, .cells [.int .i64 to, .sl 2 1 0 D.length D.length]), (1, .cells (tms D)), (2, .cells (ints O))], 3⟩ →
        ∃ y : Nat × Int, (y.1 ≤ D.length ∧ BI D to y.1 y.2) ∧ To [0] s ⟨[(0, .ptr 0 0), (1, .int .i64 to), (6, .sl 1 2 0 O.length O.length), (7, .int .i64 y.2), (27, .sl 2 1 0 D.length D.length), (28, .int .i64 D.length), (29, .int .i64 y.1)], [(0, .cells [.int .i64 to, .sl 2 1 0 D.length D.length]), (1, .cells (tms D)), (2, .cells (ints O))], 3⟩ ∧ D.length - y.1 < D.length - k := fun s b2 h1 h2 => ⟨(k + 1, b2), ⟨by dsimp only; omega, h1⟩, h2, by dsimp only; omega⟩
    (have zf1 := @htl; have zf2 := @hcut; refine XG ?_; clear zf1 zf2; ((try (repeat' with_reducible refine And.intro ?_ ?_)); (try any_goals (first | refine zm ?_ | exact CL | fail))))
    (refine xw_ifp (fun h3 => ?_) (fun h3 => ?_) <;> try exact h3.elim)
    · (refine XG ?_; ((try (repeat' with_reducible refine And.intro ?_ ?_)); (try any_goals (first | refine zm ?_ | exact CL | fail))))
      exact hend _ _ (hbi.skip hDk (by omega)) (To.sub (ρ := []) rfl (by (refine XG ?_; ((try (repeat' with_reducible refine And.intro ?_ ?_)); (try any_goals (first | refine zm ?_ | exact CL | fail))))))
    · rcases hbi with ⟨rfl, hno⟩ | ⟨b, s, rfl, hbk, hDb, hsd, hle⟩
      · have f0 : decide ((-1 : Int) < 0) = true := rfl
        (have zf1 := @f0; refine XG ?_; clear zf1; ((try (repeat' with_reducible refine And.intro ?_ ?_)); (try any_goals (first | refine zm ?_ | exact CL | fail))))
        (refine xw_ifp (fun h4 => ?_) (fun h4 => ?_) <;> try exact h4.elim)
        (refine XG ?_; ((try (repeat' with_reducible refine And.intro ?_ ?_)); (try any_goals (first | refine zm ?_ | exact CL | fail))))
        exact hend _ _ (BI.first hno hDk (by omega)) (To.sub (ρ := []) rfl (by (refine XG ?_; ((try (repeat' with_reducible refine And.intro ?_ ?_)); (try any_goals (first | refine zm ?_ | exact CL | fail))))))
      · have hbn : b < D.length := by omega
        obtain ⟨hg0, hg1⟩ := tms_getI D b hbn
        have hDb2 : D[b] = s := by simpa [hbn] using hDb
        rw [hDb2] at hg0 hg1
        have f0 : decide ((b : Int) < 0) = false := decide_eq_false (by omega)
        by_cases c1 : (t.due : Int) < (s.due : Int)
        · have f1 : decide ((t.due : Int) < (s.due : Int)) = true := decide_eq_true c1
          (have zf1 := @f0; have zf2 := @f1; have zf3 := @hg1; have zf4 := @htl; refine XG ?_; clear zf1 zf2 zf3 zf4; ((try (repeat' with_reducible refine And.intro ?_ ?_)); (try any_goals (first | refine zm ?_ | exact CL | fail))))
          (refine xw_ifp (fun h4 => ?_) (fun h4 => ?_) <;> try exact h4.elim)
          (refine XG ?_; ((try (repeat' with_reducible refine And.intro ?_ ?_)); (try any_goals (first | refine zm ?_ | exact CL | fail))))
          exact hend _ _ (BI.more hle hDk (by omega) (by rw [leT_iff]; omega)) (To.sub (ρ := []) rfl (by (refine XG ?_; ((try (repeat' with_reducible refine And.intro ?_ ?_)); (try any_goals (first | refine zm ?_ | exact CL | fail))))))
        · have f1 : decide ((t.due : Int) < (s.due : Int)) = false := decide_eq_false c1
          by_cases c2 : (t.due : Int) = (s.due : Int)
          · have f2 : ((t.due : Int) == (s.due : Int)) = true := beq_iff_eq.2 c2
            by_cases c3 : t.id < s.id
            · have f3 : decide (t.id < s.id) = true := decide_eq_true c3
              (have zf1 := @f0; have zf2 := @f1; have zf3 := @f2; have zf4 := @f3; have zf5 := @hg0; have zf6 := @hg1; have zf7 := @htl; refine XG ?_; clear zf1 zf2 zf3 zf4 zf5 zf6 zf7; ((try (repeat' with_reducible refine And.intro ?_ ?_)); (try any_goals (first | refine zm ?_ | exact CL | fail))))
              (refine xw_ifp (fun h4 => ?_) (fun h4 => ?_) <;> try exact h4.elim)
              (refine XG ?_; ((try (repeat' with_reducible refine And.intro ?_ ?_)); (try any_goals (first | refine zm ?_ | exact CL | fail))))
              exact hend _ _ (BI.more hle hDk (by omega) (by rw [leT_iff]; omega)) (To.sub (ρ := []) rfl (by (refine XG ?_; ((try (repeat' with_reducible refine And.intro ?_ ?_)); (try any_goals (first | refine zm ?_ | exact CL | fail))))))
            · have f3 : decide (t.id < s.id) = false := decide_eq_false c3
              (have zf1 := @f0; have zf2 := @f1; have zf3 := @f2; have zf4 := @f3; have zf5 := @hg0; have zf6 := @hg1; have zf7 := @htl; refine XG ?_; clear zf1 zf2 zf3 zf4 zf5 zf6 zf7; ((try (repeat' with_reducible refine And.intro ?_ ?_)); (try any_goals (first | refine zm ?_ | exact CL | fail))))
              (refine xw_ifp (fun h4 => ?_) (fun h4 => ?_) <;> try exact h4.elim)
              (refine XG ?_; ((try (repeat' with_reducible refine And.intro ?_ ?_)); (try any_goals (first | refine zm ?_ | exact CL | fail))))
              exact hend _ _ (BI.keep hbk hDb hsd hle hDk (by rw [leT_iff]; omega)) (To.sub (ρ := []) rfl (by (refine XG ?_; ((try (repeat' with_reducible refine And.intro ?_ ?_)); (try any_goals (first | refine zm ?_ | exact CL | fail))))))
          · have f2 : ((t.due : Int) == (s.due : Int)) = false := beq_eq_false_iff_ne.2 c2
            (have zf1 := @f0; have zf2 := @f1; have zf3 := @f2; have zf4 := @hg1; have zf5 := @htl; refine XG ?_; clear zf1 zf2 zf3 zf4 zf5; ((try (repeat' with_reducible refine And.intro ?_ ?_)); (try any_goals (first | refine zm ?_ | exact CL | fail))))
            (refine xw_ifp (fun h4 => ?_) (fun h4 => ?_) <;> try exact h4.elim)
            (refine XG ?_; ((try (repeat' with_reducible refine And.intro ?_ ?_)); (try any_goals (first | refine zm ?_ | exact CL | fail))))
            exact hend _ _ (BI.keep hbk hDb hsd hle hDk (by rw [leT_iff]; omega)) (To.sub (ρ := []) rfl (by (refine XG ?_; ((try (repeat' with_reducible refine And.intro ?_ ?_)); (try any_goals (first | refine zm ?_ | exact CL | fail))))))
  · obtain rfl : k = D.length := by omega
    unfold BI at hbi
    rw [List.take_length] at hbi
    rcases hbi with ⟨rfl, hno⟩ | ⟨b, t, rfl, hbk, hDb, hsd, hle⟩
    · obtain ⟨e1, e2⟩ := outT_done hno
      rw [e1, List.append_nil] at hout
      rw [e2] at hflt
      rw [← hout, ← hflt]
      have f0 : decide ((-1 : Int) < 0) = true := rfl
      (have zf1 := @f0; refine XG ?_; clear zf1; ((try (repeat' with_reducible refine And.intro ?_ ?_)); (try any_goals (first | refine zm ?_ | exact CL | fail))))
      (refine xw_ifp (fun h3 => ?_) (fun h3 => ?_) <;> try exact h3.elim)
      (refine XG ?_; ((try (repeat' with_reducible refine And.intro ?_ ?_)); (try any_goals (first | refine zm ?_ | exact CL | fail))))
      refine ⟨(), (To.frz2 (b := 2) (i := 0) rfl rfl).trans (To.sub (ρ := []) rfl ?_)⟩
      have hcut : ((ints O).drop 0).take (O.length * 1) = ints O := by
        rw [List.drop_zero, List.take_of_length_le (by rw [Nat.mul_one]; simp [ints])]
      rw [hcut]
      have hr := rens_ints (rl [])
      (have zf1 := @ints_nm; have zf2 := @hr; refine XG ?_; clear zf1 zf2; ((try (repeat' with_reducible refine And.intro ?_ ?_)); (try any_goals (first | refine zm ?_ | exact CL | fail))))
    · obtain ⟨hg0, hg1⟩ := tms_getI D b hbk
      have hDb2 : D[b] = t := by simpa [hbk] using hDb
      rw [hDb2] at hg0
      obtain ⟨e1, e2⟩ := outT_best hDb hsd hle
      rw [e1] at hout
      rw [← e2] at hflt
      have f0 : decide ((b : Int) < 0) = false := decide_eq_false (by omega)
      have hil := ints_len O
      have hi2 : ints O ++ [.int .i64 t.id] = ints (O ++ [t.id]) := by unfold ints; rw [List.map_append]; rfl
      have hol : (O ++ [t.id]).length = O.length + 1 := by simp
      have ht1 := tms_take D b (by omega)
      have ht2 := tms_drop D (b + 1) (by omega)
      have ht3 : tms (D.take b) ++ tms (D.drop (b + 1)) = tms (D.take b ++ D.drop (b + 1)) := (tms_app _ _).symm
      have hl3 : (D.take b ++ D.drop (b + 1)).length = D.length - 1 := by rw [List.length_append, List.length_take, List.length_drop]; omega
      (have zf1 := @f0; refine XG ?_; clear zf1; ((try (repeat' with_reducible refine And.intro ?_ ?_)); (try any_goals (first | refine zm ?_ | exact CL | fail))))
      (refine xw_ifp (fun h3 => ?_) (fun h3 => ?_) <;> try exact h3.elim)
      (have zf1 := @hg0; have zf2 := @htl; refine XG ?_; clear zf1 zf2; ((try (repeat' with_reducible refine And.intro ?_ ?_)); (try any_goals (first | refine zm ?_ | exact CL | fail))))
      ((first | apply pr_app | apply prD_app | apply pr_bsl | apply prD_bsl | apply pr_s2b | apply prD_s2b); (refine XG ?_; ((try (repeat' with_reducible refine And.intro ?_ ?_)); (try any_goals (first | refine zm ?_ | exact CL | fail)))))
      ((first | apply pr_app | apply prD_app | apply pr_bsl | apply prD_bsl | apply pr_s2b | apply prD_s2b); (have zf1 := @hil; have zf2 := @hi2; refine XG ?_; clear zf1 zf2; ((try (repeat' with_reducible refine And.intro ?_ ?_)); (try any_goals (first | refine zm ?_ | exact CL | fail)))))
      (refine XG ?_; ((try (repeat' with_reducible refine And.intro ?_ ?_)); (try any_goals (first | refine zm ?_ | exact CL | fail))))
      have hb1 : ((b : Int) + 1).toNat = b + 1 := by omega
      by_cases hlast : (b : Int) + 1 < (D.length : Int)
      · ((first | apply pr_app | apply prD_app | apply pr_bsl | apply prD_bsl | apply pr_s2b | apply prD_s2b); (have zf1 := @htl; have zf2 := @ht1; have zf3 := @Nat.sub_zero; refine XG ?_; clear zf1 zf2 zf3; ((try (repeat' with_reducible refine And.intro ?_ ?_)); (try any_goals (first | refine zm ?_ | exact CL | fail)))))
        have hcut : (tms (D.drop (b + 1))).take ((D.length - (b + 1)) * 2) = tms (D.drop (b + 1)) := List.take_of_length_le (by rw [tms_len, List.length_drop]; omega)
        have hll : (tms (D.take b)).length = b * 2 := by rw [tms_len, List.length_take]; omega
        have hbl : b + (D.length - (b + 1)) = D.length - 1 := by omega
        ((first | apply pr_app | apply prD_app | apply pr_bsl | apply prD_bsl | apply pr_s2b | apply prD_s2b); (have zf1 := @htl; have zf2 := @ht2; have zf3 := @ht3; have zf4 := @Nat.sub_zero; have zf5 := @hb1; have zf6 := @hcut; have zf7 := @hll; have zf8 := @hbl; refine XG ?_; clear zf1 zf2 zf3 zf4 zf5 zf6 zf7 zf8; ((try (repeat' with_reducible refine And.intro ?_ ?_)); (try any_goals (first | refine zm ?_ | exact CL | fail)))))
        (refine XG ?_; ((try (repeat' with_reducible refine And.intro ?_ ?_)); (try any_goals (first | refine zm ?_ | exact CL | fail))))
        refine ⟨(D.take b ++ D.drop (b + 1), O ++ [t.id]), ⟨by rw [hl3]; omega, by rw [List.append_assoc]; exact hout, hflt⟩, To.sub (ρ := [(1, 6), (2, 4)]) rfl ?_, by dsimp only; rw [hl3]; omega⟩
        (have zf1 := @hl3; have zf2 := @hol; refine XG ?_; clear zf1 zf2; ((try (repeat' with_reducible refine And.intro ?_ ?_)); (try any_goals (first | refine zm ?_ | exact CL | fail))))
      · have hdr : D.drop (b + 1) = [] := List.drop_eq_nil_of_le (by omega)
        rw [hdr, List.append_nil] at hl3 hout hflt
        ((first | apply pr_app | apply prD_app | apply pr_bsl | apply prD_bsl | apply pr_s2b | apply prD_s2b); (have zf1 := @htl; have zf2 := @ht1; have zf3 := @Nat.sub_zero; refine XG ?_; clear zf1 zf2 zf3; ((try (repeat' with_reducible refine And.intro ?_ ?_)); (try any_goals (first | refine zm ?_ | exact CL | fail)))))
        have hll : (tms (D.take b)).length = b * 2 := by rw [tms_len, List.length_take]; omega
        have hbl : b = D.length - 1 := by omega
        ((first | apply pr_app | apply prD_app | apply pr_bsl | apply prD_bsl | apply pr_s2b | apply prD_s2b); (have zf1 := @htl; have zf2 := @Nat.sub_zero; have zf3 := @hb1; have zf4 := @hll; refine XG ?_; clear zf1 zf2 zf3 zf4; ((try (repeat' with_reducible refine And.intro ?_ ?_)); (try any_goals (first | refine zm ?_ | exact CL | fail)))))
        (refine XG ?_; ((try (repeat' with_reducible refine And.intro ?_ ?_)); (try any_goals (first | refine zm ?_ | exact CL | fail))))
        refine ⟨(D.take b, O ++ [t.id]), ⟨by rw [hl3]; omega, by rw [List.append_assoc]; exact hout, hflt⟩, To.sub (ρ := [(1, 6), (2, 4)]) rfl ?_, by dsimp only; rw [hl3]; omega⟩
        rw [hl3, ← hbl]
        (have zf1 := @hol; refine XG ?_; clear zf1; ((try (repeat' with_reducible refine And.intro ?_ ?_)); (try any_goals (first | refine zm ?_ | exact CL | fail))))
end Go.Proofs.Ytphaicaobepimaa
