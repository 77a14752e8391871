/- The walks of the statements RecordOwners and RecordHeld. No conditions but the ones that stand in each. -/
import Derived.Test.YtglkiaiipkdkbaaDoorRf
namespace Go.Proofs.YtglkiaiipkdkbaaDoor
set_option linter.all false
set_option linter.unusedSimpArgs false
open Go.RowKit

theorem owners_len : ∀ (l : List Ev) (o : List Int), o.length = 18 → (owners o l).1.length = 18
  | [], o, h => h
  | e :: l, o, h => by
    simp only [owners]
    split
    · rename_i o' k he
      refine owners_len l o' ?_
      simp only [ownStep] at he
      split at he
      · cases he
      split at he
      · cases he
      split at he
      · cases he
      simp only [Prod.mk.injEq, Option.some.injEq] at he
      rw [← he.1]; simp [h]
    · simp
def poolKs : List SK := List.replicate 18 (.int .i64) ++ List.replicate 3 .bool
theorem eqSh_pool : eqSh Tryd.prog 100 27 = some poolKs := by kernel_rfl
theorem kinds_ints : ∀ (o : List Int), (ints o).map kindA = (List.replicate o.length (SK.int .i64)).map some
  | [] => rfl
  | _ :: o => by
    have := kinds_ints o
    simp only [ints, List.map_cons, List.length_cons, List.replicate_succ] at this ⊢
    rw [this]; rfl
theorem pool_kinds {o : List Int} (h : o.length = 18) : (ints o ++ pz).map kindA = poolKs.map some := by
  rw [List.map_append, kinds_ints, h]; rfl
theorem pool_eq {c : Cx} {ne : Bool} (o : List Int) (h : o.length = 18) : QRun Tryd.prog c (.cA ne 27) [.agg (ints o ++ pz), .agg (ints o ++ pz)] (.bool (ne != true)) :=
  cA_run eqSh_pool (by kernel_rfl) (by kernel_rfl) (pool_kinds h) (pool_kinds h) (by simp)
theorem own_flat (x : List Int × Int) : Flat (ownR x) := by
  refine .tup fun y hy => ?_
  simp only [List.mem_cons, List.not_mem_nil, or_false] at hy
  rcases hy with rfl | rfl
  · refine .agg fun z hz => ?_
    rcases List.mem_append.1 hz with h | h
    · exact Flat.ints _ z h
    · simp [pz] at h; rw [h]; exact .bool _
  · exact .int _ _

set_option maxHeartbeats 1000000 in
theorem RecordOwners_ps (gl : Nat → AV) (h0 : gl 0 = .xp (ints fieldsL) 0) (l : List Ev) (hll : l.length * 40 ≤ 140737488355328) : PS Tryd.prog gl 3 [.isl l.length (evs5 l)] (.bool true) := by
  refine ft_RecordOwners.ps (of_decide_eq_true rfl) (by simp [nmOk]) fun c hN hg => ?_
  unfold T_RecordOwners
  have hl := evs5_len l
  have hx := owners_len l (List.replicate 18 0) (by simp)
  have ha := Owners_ps c.gl l (by omega)
  have hb := OwnersR_ps c.gl l (by omega)
  have hfl := own_flat (owners (List.replicate 18 0) l)
  generalize owners (List.replicate 18 0) l = x at *
  obtain ⟨o, k⟩ := x
  dsimp only at hx
  simp only [ownR] at ha hb hfl
  (have zf1 := @hl; refine XG ?_; clear zf1; ((try (repeat' with_reducible refine And.intro ?_ ?_)); (try any_goals (first | refine zm ?_ | exact CL | fail))))
  ((first | apply pr_app | apply prD_app | apply pr_bsl | apply prD_bsl | apply pr_s2b | apply prD_s2b); (have zf1 := @hl; refine XG ?_; clear zf1; ((try (repeat' with_reducible refine And.intro ?_ ?_)); (try any_goals (first | refine zm ?_ | exact CL | fail)))))
  ((first | apply pr_bor | apply prD_bor) <;> (first | exact ha | (with_reducible exact hfl) | (have zf1 := @hl; have zf2 := @pz.eq_1; refine XG ?_; clear zf1 zf2; first | exact rfl | exact True.intro | ((try (repeat' with_reducible refine And.intro ?_ ?_)); (try any_goals (first | refine zm ?_ | exact CL | fail))))))
  ((first | apply pr_psv | apply prD_psv | apply pr_qrunv | apply prD_qrunv) <;> (first | exact hb | (have zf1 := @hl; have zf2 := @pz.eq_1; refine XG ?_; clear zf1 zf2; first | exact rfl | exact True.intro | ((try (repeat' with_reducible refine And.intro ?_ ?_)); (try any_goals (first | refine zm ?_ | exact CL | fail))))))
  ((first | apply pr_psv | apply prD_psv | apply pr_qrunv | apply prD_qrunv) <;> (first | exact (pool_eq o hx) | (have zf1 := @hl; have zf2 := @pz.eq_1; refine XG ?_; clear zf1 zf2; first | exact rfl | exact True.intro | ((try (repeat' with_reducible refine And.intro ?_ ?_)); (try any_goals (first | refine zm ?_ | exact CL | fail))))))
  ((first | apply pr_psv | apply prD_psv | apply pr_qrunv | apply prD_qrunv) <;> (first | exact (tellsL_ps _ (by rw [hg]; exact h0)) | (have zf1 := @pz.eq_1; refine XG ?_; clear zf1; first | exact rfl | exact True.intro | ((try (repeat' with_reducible refine And.intro ?_ ?_)); (try any_goals (first | refine zm ?_ | exact CL | fail))))))

/-- What the events behind say of a block. -/
def wantF (a k : Int) : Int → List Ev → Int
  | w, [] => w
  | w, e :: l => wantF a k (if e.a = a ∧ e.b = k then (if e.f then 0 else e.s + 1) else w) l
theorem owners_err : ∀ (l : List Ev) (o : List Int), (owners o l).2 ≠ 0 → (owners o l).1 = List.replicate 18 0
  | [], o, h => absurd rfl h
  | e :: l, o, h => by
    simp only [owners] at h ⊢
    split
    · rename_i o' k he
      rw [he] at h
      exact owners_err l o' h
    · rfl
theorem owners_ok : ∀ (l : List Ev) (o : List Int), (owners o l).2 = 0 → o.length = 18 → (∀ e ∈ l, goodE e.t e.s e.a e.b = true) ∧ ∀ a k : Nat, a < 3 → k < 6 → (owners o l).1.getD (a * 6 + k) 0 = wantF a k (o.getD (a * 6 + k) 0) l
  | [], o, _, _ => ⟨fun e he => (by cases he), fun a k _ _ => rfl⟩
  | e :: l, o, h, ho => by
    simp only [owners] at h ⊢
    generalize hst : ownStep o e = st at h ⊢
    obtain ⟨r, kk⟩ := st
    simp only [ownStep] at hst
    split at hst
    · cases hst; simp at h
    rename_i hgd
    have hgd' : goodE e.t e.s e.a e.b = true := by simpa using hgd
    split at hst
    · cases hst; simp at h
    split at hst
    · cases hst; simp at h
    cases hst
    dsimp only at h ⊢
    obtain ⟨h1, h2⟩ := owners_ok l _ h (by simp [ho])
    refine ⟨fun x hx => ?_, fun a k ha hk => ?_⟩
    · rcases List.mem_cons.1 hx with rfl | hx
      · exact hgd'
      · exact h1 x hx
    · rw [h2 a k ha hk]
      simp [goodE] at hgd'
      have hi : (e.a * 6 + e.b).toNat < o.length := by omega
      rw [getD_setD hi]
      simp only [wantF]
      congr 1
      by_cases hc : e.a = a ∧ e.b = k
      · rw [if_pos hc, if_pos (by omega)]
      · rw [if_neg hc, if_neg (by omega)]

structure HeldI where
  j : Nat
  w : Int
set_option maxHeartbeats 2000000 in
theorem RecordHeld_ps (gl : Nat → AV) (h0 : gl 0 = .xp (ints fieldsL) 0) (l : List Ev) (hll : l.length ≤ 4611686018427387904) : PS Tryd.prog gl 4 [.isl l.length (evs5 l)] (.bool true) := by
  refine ft_RecordHeld.ps (of_decide_eq_true rfl) (by simp [nmOk]) fun c hN hg => ?_
  unfold T_RecordHeld
  have hl := evs5_len l
  have hx := owners_len l (List.replicate 18 0) (by simp)
  have hok := owners_ok l (List.replicate 18 0)
  have herr := owners_err l (List.replicate 18 0)
  have ha := Owners_ps c.gl l (by omega)
  have htl := tellsK_ps c.gl (by rw [hg]; exact h0)
  generalize owners (List.replicate 18 0) l = x at *
  obtain ⟨o, k⟩ := x
  dsimp only at hx hok herr
  simp only [ownR] at ha
  (have zf1 := @hl; refine XG ?_; clear zf1; ((try (repeat' with_reducible refine And.intro ?_ ?_)); (try any_goals (first | refine zm ?_ | exact CL | fail))))
  ((first | apply pr_psv | apply prD_psv | apply pr_qrunv | apply prD_qrunv) <;> (first | exact ha | (have zf1 := @hl; have zf2 := @pz.eq_1; refine XG ?_; clear zf1 zf2; first | exact rfl | exact True.intro | ((try (repeat' with_reducible refine And.intro ?_ ?_)); (try any_goals (first | refine zm ?_ | exact CL | fail))))))
  ((first | apply pr_psv | apply prD_psv | apply pr_qrunv | apply prD_qrunv) <;> (first | exact htl | (have zf1 := @pz.eq_1; refine XG ?_; clear zf1; first | exact rfl | exact True.intro | ((try (repeat' with_reducible refine And.intro ?_ ?_)); (try any_goals (first | refine zm ?_ | exact CL | fail))))))
  (refine xw_ifp (fun h1 => ?_) (fun h1 => ?_) <;> try exact h1.elim)
  · obtain rfl := herr h1
    (have zf1 := @pz.eq_1; refine XG ?_; clear zf1; ((try (repeat' with_reducible refine And.intro ?_ ?_)); (try any_goals (first | refine zm ?_ | exact CL | fail))))
    ((first | apply pr_psv | apply prD_psv | apply pr_qrunv | apply prD_qrunv) <;> (first | exact (pool_eq _ (by simp)) | (have zf1 := @pz.eq_1; refine XG ?_; clear zf1; first | exact rfl | exact True.intro | ((try (repeat' with_reducible refine And.intro ?_ ?_)); (try any_goals (first | refine zm ?_ | exact CL | fail))))))
    ((first | apply pr_psv | apply prD_psv | apply pr_qrunv | apply prD_qrunv) <;> (first | exact htl | (have zf1 := @pz.eq_1; refine XG ?_; clear zf1; first | exact rfl | exact True.intro | ((try (repeat' with_reducible refine And.intro ?_ ?_)); (try any_goals (first | refine zm ?_ | exact CL | fail))))))
  · obtain ⟨hgood, hown⟩ := hok h1 (by simp)
    (have zf1 := @pz.eq_1; refine XG ?_; clear zf1; ((try (repeat' with_reducible refine And.intro ?_ ?_)); (try any_goals (first | refine zm ?_ | exact CL | fail))))
    refine loop_rule (fun a : Nat => a ≤ 3) (fun a => ⟨[(0, .isl l.length (evs5 l)), (3, .ptr 0 0), (5, .int .i64 a)], [(0, .cells (ints o ++ pz))], 1⟩) (fun a => 3 - a) ft_RecordHeld.mixed hN ⟨0, by omega, [], by (have zf1 := @pz.eq_1; refine XG ?_; clear zf1; ((try (repeat' with_reducible refine And.intro ?_ ?_)); (try any_goals (first | refine zm ?_ | exact CL | fail))))⟩ fun a ha3 => ?_
    (have zf1 := @pz.eq_1; refine XG ?_; clear zf1; ((try (repeat' with_reducible refine And.intro ?_ ?_)); (try any_goals (first | refine zm ?_ | exact CL | fail))))
    (refine xw_ifp (fun h2 => ?_) (fun h2 => ?_) <;> try exact h2.elim)
    · (have zf1 := @pz.eq_1; refine XG ?_; clear zf1; ((try (repeat' with_reducible refine And.intro ?_ ?_)); (try any_goals (first | refine zm ?_ | exact CL | fail))))
      refine loop_rule (fun k : Nat => k ≤ 6) (fun k => ⟨[(0, .isl l.length (evs5 l)), (3, .ptr 0 0), (5, .int .i64 a), (6, .int .i64 k)], [(0, .cells (ints o ++ pz))], 1⟩) (fun k => 6 - k) ft_RecordHeld.mixed hN ⟨0, by omega, [], by (have zf1 := @pz.eq_1; refine XG ?_; clear zf1; ((try (repeat' with_reducible refine And.intro ?_ ?_)); (try any_goals (first | refine zm ?_ | exact CL | fail))))⟩ fun k hk6 => ?_
      (have zf1 := @pz.eq_1; refine XG ?_; clear zf1; ((try (repeat' with_reducible refine And.intro ?_ ?_)); (try any_goals (first | refine zm ?_ | exact CL | fail))))
      (refine xw_ifp (fun h3 => ?_) (fun h3 => ?_) <;> try exact h3.elim)
      · have hw := hown a k (by omega) (by omega)
        (have zf1 := @hl; refine XG ?_; clear zf1; ((try (repeat' with_reducible refine And.intro ?_ ?_)); (try any_goals (first | refine zm ?_ | exact CL | fail))))
        refine loop_rule (fun x : HeldI => x.j ≤ l.length ∧ wantF a k x.w (l.drop x.j) = o.getD (a * 6 + k) 0) (fun x => ⟨[(0, .isl l.length (evs5 l)), (3, .ptr 0 0), (5, .int .i64 a), (6, .int .i64 k), (7, .int .i64 x.w), (35, .isl l.length (evs5 l)), (36, .int .i64 l.length), (37, .int .i64 x.j)], [(0, .cells (ints o ++ pz))], 1⟩) (fun x => l.length - x.j) ft_RecordHeld.mixed hN
          ⟨⟨0, 0⟩, ⟨by simp, by dsimp only; rw [hw, List.drop_zero]; congr 1; rw [List.getD, List.getElem?_replicate]; split <;> rfl⟩, [], by (have zf1 := @pz.eq_1; refine XG ?_; clear zf1; ((try (repeat' with_reducible refine And.intro ?_ ?_)); (try any_goals (first | refine zm ?_ | exact CL | fail))))⟩ fun ⟨j, w⟩ ⟨hj, hwj⟩ => ?_
        dsimp only at hj hwj
        (have zf1 := @pz.eq_1; refine XG ?_; clear zf1; ((try (repeat' with_reducible refine And.intro ?_ ?_)); (try any_goals (first | refine zm ?_ | exact CL | fail))))
        (refine xw_ifp (fun h4 => ?_) (fun h4 => ?_) <;> try exact h4.elim)
        · have hjn : j < l.length := by omega
          have hcut := evs5_cut l j hjn
          have hd : l.drop j = l[j] :: l.drop (j + 1) := (List.drop_eq_getElem_cons hjn)
          have hge := hgood l[j] (List.getElem_mem _)
          rw [hd] at hwj
          generalize l[j] = e at *
          obtain ⟨t, sb, ea, eb, f⟩ := e
          simp only [Ev.enc] at hcut
          simp only [wantF] at hwj
          simp [goodE] at hge
          (have zf1 := @hl; have zf2 := @hcut; refine XG ?_; clear zf1 zf2; ((try (repeat' with_reducible refine And.intro ?_ ?_)); (try any_goals (first | refine zm ?_ | exact CL | fail))))
          (refine xw_ifp (fun h5 => ?_) (fun h5 => ?_) <;> try exact h5.elim)
          · rw [if_pos (by omega)] at hwj
            (have zf1 := @hl; refine XG ?_; clear zf1; ((try (repeat' with_reducible refine And.intro ?_ ?_)); (try any_goals (first | refine zm ?_ | exact CL | fail))))
            cases f with
            | false =>
              (refine xw_ifp (fun h6 => ?_) (fun h6 => ?_) <;> try exact h6.elim)
              (have zf1 := @hl; refine XG ?_; clear zf1; ((try (repeat' with_reducible refine And.intro ?_ ?_)); (try any_goals (first | refine zm ?_ | exact CL | fail))))
              refine ⟨⟨j + 1, sb + 1⟩, ⟨by dsimp only; omega, by simpa using hwj⟩, ⟨[], ?_⟩, by dsimp only; omega⟩
              (have zf1 := @pz.eq_1; refine XG ?_; clear zf1; ((try (repeat' with_reducible refine And.intro ?_ ?_)); (try any_goals (first | refine zm ?_ | exact CL | fail))))
            | true =>
              (refine xw_ifp (fun h6 => ?_) (fun h6 => ?_) <;> try exact h6.elim)
              (have zf1 := @hl; refine XG ?_; clear zf1; ((try (repeat' with_reducible refine And.intro ?_ ?_)); (try any_goals (first | refine zm ?_ | exact CL | fail))))
              refine ⟨⟨j + 1, 0⟩, ⟨by dsimp only; omega, by simpa using hwj⟩, ⟨[], ?_⟩, by dsimp only; omega⟩
              (have zf1 := @pz.eq_1; refine XG ?_; clear zf1; ((try (repeat' with_reducible refine And.intro ?_ ?_)); (try any_goals (first | refine zm ?_ | exact CL | fail))))
          · rw [if_neg (by omega)] at hwj
            (have zf1 := @hl; refine XG ?_; clear zf1; ((try (repeat' with_reducible refine And.intro ?_ ?_)); (try any_goals (first | refine zm ?_ | exact CL | fail))))
            refine ⟨⟨j + 1, w⟩, ⟨by dsimp only; omega, by simpa using hwj⟩, ⟨[], ?_⟩, by dsimp only; omega⟩
            (have zf1 := @pz.eq_1; refine XG ?_; clear zf1; ((try (repeat' with_reducible refine And.intro ?_ ?_)); (try any_goals (first | refine zm ?_ | exact CL | fail))))
        · have : j = l.length := by omega
          subst this
          rw [List.drop_length] at hwj
          simp only [wantF] at hwj
          subst hwj
          (have zf1 := @pz.eq_1; refine XG ?_; clear zf1; ((try (repeat' with_reducible refine And.intro ?_ ?_)); (try any_goals (first | refine zm ?_ | exact CL | fail))))
          (refine xw_ifp (fun h5 => ?_) (fun h5 => ?_) <;> try exact h5.elim)
          (have zf1 := @pz.eq_1; refine XG ?_; clear zf1; ((try (repeat' with_reducible refine And.intro ?_ ?_)); (try any_goals (first | refine zm ?_ | exact CL | fail))))
          refine ⟨k + 1, by omega, ⟨[], ?_⟩, by omega⟩
          (have zf1 := @pz.eq_1; refine XG ?_; clear zf1; ((try (repeat' with_reducible refine And.intro ?_ ?_)); (try any_goals (first | refine zm ?_ | exact CL | fail))))
      · (have zf1 := @pz.eq_1; refine XG ?_; clear zf1; ((try (repeat' with_reducible refine And.intro ?_ ?_)); (try any_goals (first | refine zm ?_ | exact CL | fail))))
        refine ⟨a + 1, by omega, ⟨[], ?_⟩, by omega⟩
        (have zf1 := @pz.eq_1; refine XG ?_; clear zf1; ((try (repeat' with_reducible refine And.intro ?_ ?_)); (try any_goals (first | refine zm ?_ | exact CL | fail))))
    · (have zf1 := @pz.eq_1; refine XG ?_; clear zf1; ((try (repeat' with_reducible refine And.intro ?_ ?_)); (try any_goals (first | refine zm ?_ | exact CL | fail))))
end Go.Proofs.YtglkiaiipkdkbaaDoor
