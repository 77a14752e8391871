/- The reference's Owners. No conditions but the ones that stand in each. -/
import Derived.Test.YtglkiaiipkdkbaaDoorRe
namespace Go.Proofs.YtglkiaiipkdkbaaDoor
set_option linter.all false
set_option linter.unusedSimpArgs false
open Go.RowKit

theorem OwnersR_ps (gl : Nat → AV) (l : List Ev) (hll : l.length ≤ 4611686018427387904) : PS Tryd.prog gl 9 [.isl l.length (evs5 l)] (ownR (owners (List.replicate 18 0) l)) := by
  refine ft_OwnersR.ps (of_decide_eq_true rfl) (by simp [nmOk, nmAll, ownR, pz, nm_ints, nm_app]) fun c hN hg => ?_
  unfold T_OwnersR
  have hl := evs5_len l
  (have zf1 := @hl; refine XG ?_; clear zf1; ((try (repeat' with_reducible refine And.intro ?_ ?_)); (try any_goals (first | refine zm ?_ | exact CL | fail))))
  refine loop_rule (fun x : OwnI => x.k ≤ l.length ∧ x.o.length = 18 ∧ owners x.o (l.drop x.k) = owners (List.replicate 18 0) l) (fun x => ⟨[(2, .ptr 0 0), (3, .int .i64 0), (4, .ptr 1 0), (8, .isl l.length (evs5 l)), (9, .int .i64 l.length), (10, .int .i64 x.k)], [(0, .cells (ints (List.replicate 18 0) ++ pz)), (1, .cells (ints x.o ++ pz))], 2⟩) (fun x => l.length - x.k) ft_OwnersR.mixed hN
    ⟨⟨0, List.replicate 18 0⟩, ⟨by simp, by simp, rfl⟩, [], by (have zf1 := eq_true (evs5_nm 2 l); have zf2 := @pz.eq_1; refine XG ?_; clear zf1 zf2; ((try (repeat' with_reducible refine And.intro ?_ ?_)); (try any_goals (first | refine zm ?_ | exact CL | fail)))) <;> rfl⟩ fun ⟨k, o⟩ ⟨hk, ho, he⟩ => ?_
  dsimp only at hk ho he
  (refine XG ?_; ((try (repeat' with_reducible refine And.intro ?_ ?_)); (try any_goals (first | refine zm ?_ | exact CL | fail))))
  (refine xw_ifp (fun h1 => ?_) (fun h1 => ?_) <;> try exact h1.elim)
  · have hkn : k < l.length := by omega
    have hcut := evs5_cut l k hkn
    have hd : l.drop k = l[k] :: l.drop (k + 1) := (List.drop_eq_getElem_cons hkn)
    rw [hd] at he
    generalize l[k] = e at *
    obtain ⟨t, sb, a, b, f⟩ := e
    simp only [Ev.enc] at hcut
    simp only [owners, ownStep] at he
    (have zf1 := @hl; have zf2 := @hcut; refine XG ?_; clear zf1 zf2; ((try (repeat' with_reducible refine And.intro ?_ ?_)); (try any_goals (first | refine zm ?_ | exact CL | fail))))
    ((first | apply pr_psv | apply prD_psv | apply pr_qrunv | apply prD_qrunv) <;> (first | exact (GoodEvent_ps _ _ _ _ _ _) | (have zf1 := @hcut; refine XG ?_; clear zf1; first | exact rfl | exact True.intro | ((try (repeat' with_reducible refine And.intro ?_ ?_)); (try any_goals (first | refine zm ?_ | exact CL | fail))))))
    by_cases hgd : goodE t sb a b = true
    · have he0 : errE t sb a b = 0 := if_pos hgd
      have hb := hgd
      simp [goodE] at hb
      obtain ⟨⟨⟨⟨⟨⟨⟨t0, t1⟩, s0⟩, s1⟩, a0⟩, a1⟩, b0⟩, b1⟩ := hb
      rw [if_neg (by rw [hgd]; simp)] at he
      rw [he0]
      (refine xw_ifp (fun h2 => ?_) (fun h2 => ?_) <;> try exact h2.elim)
      have ei : (a * 6 + b).toNat = a.toNat * 6 + b.toNat := by omega
      rw [ei] at he
      have hi : a.toNat * 6 + b.toNat < o.length := by omega
      generalize hix : a.toNat * 6 + b.toNat = ix at *
      cases f with
      | false =>
        (have zf1 := @pz.eq_1; have zf2 := @hix; refine XG ?_; clear zf1 zf2; ((try (repeat' with_reducible refine And.intro ?_ ?_)); (try any_goals (first | refine zm ?_ | exact CL | fail))))
        (refine xw_ifp (fun h3 => ?_) (fun h3 => ?_) <;> try exact h3.elim)
        · (have zf1 := @pz.eq_1; have zf2 := @List.map_append.{0,0}; refine XG ?_; clear zf1 zf2; ((try (repeat' with_reducible refine And.intro ?_ ?_)); (try any_goals (first | refine zm ?_ | exact CL | fail))))
          rw [if_pos ⟨rfl, h3⟩] at he
          rw [← he]; rfl
        · rw [if_neg (by simp_all), if_neg (by simp)] at he
          (have zf1 := @pz.eq_1; have zf2 := @hix; refine XG ?_; clear zf1 zf2; ((try (repeat' with_reducible refine And.intro ?_ ?_)); (try any_goals (first | refine zm ?_ | exact CL | fail))))
          (refine xw_ifp (fun h4 => ?_) (fun h4 => ?_) <;> try exact h4.elim)
          (have zf1 := @pz.eq_1; have zf2 := @hix; refine XG ?_; clear zf1 zf2; ((try (repeat' with_reducible refine And.intro ?_ ?_)); (try any_goals (first | refine zm ?_ | exact CL | fail))))
          (refine xw_ifp (fun h5 => ?_) (fun h5 => ?_) <;> try exact h5.elim)
          (have zf1 := @pz.eq_1; have zf2 := @hix; refine XG ?_; clear zf1 zf2; ((try (repeat' with_reducible refine And.intro ?_ ?_)); (try any_goals (first | refine zm ?_ | exact CL | fail))))
          refine ⟨⟨k + 1, o.set ix (sb + 1)⟩, ⟨by dsimp only; omega, by simp [ho], ?_⟩, ⟨[], ?_⟩, by dsimp only; omega⟩
          · simpa using he
          · (have zf1 := @pz.eq_1; have zf2 := @hix; have zf3 := eq_true (evs5_nm 2 l); refine XG ?_; clear zf1 zf2 zf3; ((try (repeat' with_reducible refine And.intro ?_ ?_)); (try any_goals (first | refine zm ?_ | exact CL | fail))))
      | true =>
        (have zf1 := @pz.eq_1; have zf2 := @hix; refine XG ?_; clear zf1 zf2; ((try (repeat' with_reducible refine And.intro ?_ ?_)); (try any_goals (first | refine zm ?_ | exact CL | fail))))
        (refine xw_ifp (fun h3 => ?_) (fun h3 => ?_) <;> try exact h3.elim)
        (have zf1 := @pz.eq_1; have zf2 := @hix; refine XG ?_; clear zf1 zf2; ((try (repeat' with_reducible refine And.intro ?_ ?_)); (try any_goals (first | refine zm ?_ | exact CL | fail))))
        (refine xw_ifp (fun h4 => ?_) (fun h4 => ?_) <;> try exact h4.elim)
        · (have zf1 := @pz.eq_1; have zf2 := @List.map_append.{0,0}; refine XG ?_; clear zf1 zf2; ((try (repeat' with_reducible refine And.intro ?_ ?_)); (try any_goals (first | refine zm ?_ | exact CL | fail))))
          rw [if_neg (by simp), if_pos ⟨rfl, h4⟩] at he
          rw [← he]; rfl
        · rw [if_neg (by simp), if_neg (by simp_all)] at he
          (have zf1 := @pz.eq_1; have zf2 := @hix; refine XG ?_; clear zf1 zf2; ((try (repeat' with_reducible refine And.intro ?_ ?_)); (try any_goals (first | refine zm ?_ | exact CL | fail))))
          (refine xw_ifp (fun h5 => ?_) (fun h5 => ?_) <;> try exact h5.elim)
          (have zf1 := @pz.eq_1; have zf2 := @hix; refine XG ?_; clear zf1 zf2; ((try (repeat' with_reducible refine And.intro ?_ ?_)); (try any_goals (first | refine zm ?_ | exact CL | fail))))
          refine ⟨⟨k + 1, o.set ix 0⟩, ⟨by dsimp only; omega, by simp [ho], ?_⟩, ⟨[], ?_⟩, by dsimp only; omega⟩
          · simpa using he
          · (have zf1 := @pz.eq_1; have zf2 := @hix; have zf3 := @List.set_set.{0}; have zf4 := eq_true (evs5_nm 2 l); refine XG ?_; clear zf1 zf2 zf3 zf4; ((try (repeat' with_reducible refine And.intro ?_ ?_)); (try any_goals (first | refine zm ?_ | exact CL | fail))))
    · have he0 : errE t sb a b = 2 := if_neg hgd
      rw [if_pos (by simpa using hgd)] at he
      rw [he0]
      (refine xw_ifp (fun h2 => ?_) (fun h2 => ?_) <;> try exact h2.elim)
      (have zf1 := @pz.eq_1; have zf2 := @List.map_append.{0,0}; refine XG ?_; clear zf1 zf2; ((try (repeat' with_reducible refine And.intro ?_ ?_)); (try any_goals (first | refine zm ?_ | exact CL | fail))))
      rw [← he]; rfl
  · have : k = l.length := by omega
    subst this
    rw [List.drop_length] at he
    (have zf1 := @pz.eq_1; have zf2 := @List.map_append.{0,0}; refine XG ?_; clear zf1 zf2; ((try (repeat' with_reducible refine And.intro ?_ ?_)); (try any_goals (first | refine zm ?_ | exact CL | fail))))
    rw [← he]; rfl
end Go.Proofs.YtglkiaiipkdkbaaDoor
