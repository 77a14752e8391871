/- Each timer goes off once: the walk. No conditions but the ones that stand in each. -/
import Derived.Test.YtphaicaobepimaaVn
import Derived.Test.YtphaicaobepimaaVq
namespace Go.Proofs.Ytphaicaobepimaa
set_option linter.all false
set_option linter.unusedSimpArgs false
open Go.RowKit

/-- What pick answers. -/
def pickI (x n : Int) : Int := x % n
theorem kpick_ps (gl : Nat → AV) (x n : Int) (hx : -9223372036854775808 ≤ x ∧ x ≤ 9223372036854775807) (hn : 0 < n ∧ n ≤ 1099511627776) : PS Try.prog gl 30 [.int .i64 x, .int .i64 n] (.int .i64 (pickI x n)) := by
  refine ft_kpick.ps (of_decide_eq_true rfl) (by simp [nmOk]) fun c hN hg => ?_
  unfold T_kpick pickI
  have hb : -n < x.tmod n ∧ x.tmod n < n := by
    have h1 := Int.tmod_lt_of_pos x hn.1
    have h2 := Int.lt_tmod_of_pos x hn.1
    omega
  have he : x % n = if x.tmod n < 0 then x.tmod n + n else x.tmod n := by
    have h0 : x % n = (x.tmod n) % n := by
      have h1 := Int.mul_tdiv_add_tmod x n
      conv => lhs; rw [← h1, Int.add_comm, Int.add_mul_emod_self_left]
    rw [h0]
    split
    · rw [← Int.add_emod_right, Int.emod_eq_of_lt (by omega) (by omega)]
    · rw [Int.emod_eq_of_lt (by omega) (by omega)]
  (refine XG ?_; ((try (repeat' with_reducible refine And.intro ?_ ?_)); (try any_goals (first | refine zm ?_ | exact CL | fail))))
  (refine xw_ifp (fun h1 => ?_) (fun h1 => ?_) <;> try exact h1.elim)
  · rw [if_pos h1] at he
    (have zf1 := @he; refine XG ?_; clear zf1; ((try (repeat' with_reducible refine And.intro ?_ ?_)); (try any_goals (first | refine zm ?_ | exact CL | fail))))
  · rw [if_neg h1] at he
    (have zf1 := @he; refine XG ?_; clear zf1; ((try (repeat' with_reducible refine And.intro ?_ ?_)); (try any_goals (first | refine zm ?_ | exact CL | fail))))
theorem pick_bd (x : Int) {n : Int} (h : 0 < n) : 0 ≤ pickI x n ∧ pickI x n < n := ⟨Int.emod_nonneg x (by omega), Int.emod_lt_of_pos x h⟩
def pickN (x n : Int) : Nat := (pickI x n).toNat
theorem pickN_eq (x : Int) {n : Int} (h : 0 < n) : pickI x n = ((pickN x n : Nat) : Int) ∧ (pickN x n : Int) < n := by
  have := pick_bd x h
  unfold pickN
  omega
attribute [go_sem] kvT_keys keyI_ok
theorem kturns_ps (gl : Nat → AV) : PS Try.prog gl 34 [] (.bool true) := by
  refine ft_kturns.ps (of_decide_eq_true rfl) (by simp [nmOk, nmAll]) fun c hN hg => ?_
  unfold T_kturns
  have hW := wNew_gs c.gl 3 (by omega) (by omega)
  have hN := tNow_gs c.gl
  have hA := tArm_gs c.gl
  have hM := tMany_gs c.gl
  have h01 : Nat.beq 0 1 = false := rfl
  have h02 : Nat.beq 0 2 = false := rfl
  have h12 : Nat.beq 1 2 = false := rfl
  unfold whN at hW hN hA
  unfold wh9 map9 at hA hM
  (refine XG ?_; ((try (repeat' with_reducible refine And.intro ?_ ?_)); (try any_goals (first | refine zm ?_ | exact CL | fail))))
  ((first | refine pr_gs (ins := []) hW ?_ ?_ | refine prD_gs (ins := []) hW ?_ ?_ | refine pr_gsv (ins := []) hW ?_ ?_ | refine prD_gsv (ins := []) hW ?_ ?_) <;> (refine XG ?_; (try first | exact rfl | exact True.intro); ((try (repeat' with_reducible refine And.intro ?_ ?_)); (try any_goals (first | refine zm ?_ | exact CL | fail)))))
  ((refine pr_on ?_ ?_ ?_); (focus (refine XG ?_; try first | exact rfl | exact True.intro)); (focus (refine XG ?_; try trivial)))
  ((first | refine pr_gs (ins := [0, 1]) hN ?_ ?_ | refine prD_gs (ins := [0, 1]) hN ?_ ?_ | refine pr_gsv (ins := [0, 1]) hN ?_ ?_ | refine prD_gsv (ins := [0, 1]) hN ?_ ?_) <;> (have zf1 := @h01; refine XG ?_; clear zf1; (try first | exact rfl | exact True.intro); ((try (repeat' with_reducible refine And.intro ?_ ?_)); (try any_goals (first | refine zm ?_ | exact CL | fail)))))
  ((refine pr_on ?_ ?_ ?_); (focus (refine XG ?_; try first | exact rfl | exact True.intro)); (focus (refine XG ?_; try trivial)))
  ((first | refine pr_gs (ins := [0, 1]) hA ?_ ?_ | refine prD_gs (ins := [0, 1]) hA ?_ ?_ | refine pr_gsv (ins := [0, 1]) hA ?_ ?_ | refine prD_gsv (ins := [0, 1]) hA ?_ ?_) <;> (have zf1 := @h01; refine XG ?_; clear zf1; (try first | exact rfl | exact True.intro); ((try (repeat' with_reducible refine And.intro ?_ ?_)); (try any_goals (first | refine zm ?_ | exact CL | fail)))))
  ((refine pr_on ?_ ?_ ?_); (focus (refine XG ?_; try first | exact rfl | exact True.intro)); (focus (refine XG ?_; try trivial)))
  ((first | refine pr_gs (ins := [0, 1, 2]) hM ?_ ?_ | refine prD_gs (ins := [0, 1, 2]) hM ?_ ?_ | refine pr_gsv (ins := [0, 1, 2]) hM ?_ ?_ | refine prD_gsv (ins := [0, 1, 2]) hM ?_ ?_) <;> (have zf1 := @h01; have zf2 := @h02; have zf3 := @h12; refine XG ?_; clear zf1 zf2 zf3; (try first | exact rfl | exact True.intro); ((try (repeat' with_reducible refine And.intro ?_ ?_)); (try any_goals (first | refine zm ?_ | exact CL | fail)))))
def inI (x : Int) : Prop := -9223372036854775808 ≤ x ∧ x ≤ 9223372036854775807
/-- The timers that are armed, one after another. -/
def dlist (a : Nat) (n : Int) (l : List Int) (i : Nat) : List Tm := (List.range i).map fun k : Nat => ⟨(k : Int), a + pickN (l.getD k 0) n⟩
theorem dlist_succ (a : Nat) (n : Int) (l : List Int) (i : Nat) : dlist a n l (i + 1) = dlist a n l i ++ [⟨(i : Int), a + pickN (l.getD i 0) n⟩] := by unfold dlist; rw [List.range_succ, List.map_append]; rfl
theorem dlist_ne (a : Nat) (n : Int) (l : List Int) (i : Nat) : ∀ t ∈ dlist a n l i, t.id ≠ (i : Int) := fun t ht => by
  obtain ⟨k, hk, rfl⟩ := List.mem_map.1 ht
  have := List.mem_range.1 hk
  show (k : Int) ≠ i
  omega
theorem dlist_len (a : Nat) (n : Int) (l : List Int) (i : Nat) : (dlist a n l i).length = i := by simp [dlist]
theorem armD_new {D : List Tm} {x : Int} {d : Nat} (h : ∀ t ∈ D, t.id ≠ x) : armD D x d = D ++ [⟨x, d⟩] := by unfold armD; rw [off_self h]
theorem hasT_none {D : List Tm} {x : Int} (h : ∀ t ∈ D, t.id ≠ x) : hasT D x = false := by
  unfold hasT
  rw [List.any_eq_false]
  intro t ht
  simpa using h t ht
theorem dueT_snoc {D : List Tm} {x : Int} {d : Nat} (h : ∀ t ∈ D, t.id ≠ x) : dueT (D ++ [⟨x, d⟩]) x = d := by
  unfold dueT
  rw [List.find?_append, List.find?_eq_none.2 fun t ht => by simpa using h t ht]
  simp
theorem cArgs_f (f : FuncId) (l : List AV) : cArgs false f l = some (f, l) := rfl
theorem pairE {α : Type} {l : List α} {Q : α → α → Prop} (h : l.Pairwise Q) {i : Nat} (hi : i + 1 < l.length) : Q l[i] l[i + 1] := (List.pairwise_iff_getElem.1 h) i (i + 1) (by omega) hi (by omega)
theorem dueT_mem {D : List Tm} (hd : D.Pairwise fun a b => a.id ≠ b.id) {t : Tm} (ht : t ∈ D) : dueT D t.id = t.due ∧ hasT D t.id = true := by
  have hh : hasT D t.id = true := by unfold hasT; rw [List.any_eq_true]; exact ⟨t, ht, by simp⟩
  refine ⟨?_, hh⟩
  unfold dueT
  cases h : D.find? fun x => x.id == t.id with
  | none => have := List.find?_eq_none.1 h t ht; simp at this
  | some x =>
    have h1 := List.mem_of_find?_eq_some h
    have h2 := List.find?_some h
    have : x = t := pair_inj hd h1 ht (by simpa using h2)
    rw [this]
/-- What goes off, in order. -/
structure Outs (D S : List Tm) (n to : Nat) : Prop where
  mem : ∀ t ∈ S, t ∈ D ∧ t.due ≤ to ∧ n ≤ t.due
  ord : ∀ i (h : i + 1 < S.length), S[i].due < S[i + 1].due ∨ S[i].due = S[i + 1].due ∧ S[i].id < S[i + 1].id
theorem outs {n to : Nat} {rows : List (List Tm)} {D : List Tm} (h : WG n rows D) : Outs D (srt (D.filter fun t => decide (t.due < to + 1))) n to := by
  have hm : ∀ t ∈ srt (D.filter fun t => decide (t.due < to + 1)), t ∈ D ∧ t.due ≤ to ∧ n ≤ t.due := fun t ht => by
    obtain ⟨h1, h2⟩ := List.mem_filter.1 ((srt_perm _).mem_iff.1 ht)
    have := h.lo t h1
    simp at h2
    exact ⟨h1, by omega, this⟩
  refine ⟨hm, fun i hi => ?_⟩
  have hp := pairE (srt_ord (D.filter fun t => decide (t.due < to + 1))) hi
  have hd : (srt (D.filter fun t => decide (t.due < to + 1))).Pairwise fun a b => a.id ≠ b.id := ((srt_perm _).pairwise_iff fun {a b} e h => e h.symm).2 (h.dis.sublist List.filter_sublist)
  have hne := pairE hd hi
  unfold srt at hp hne ⊢
  rw [leT_iff] at hp
  omega
theorem offL_filter {D l : List Tm} {q : Tm → Bool} (hd : D.Pairwise fun a b => a.id ≠ b.id) (hl : l.Perm (D.filter q)) : offL l D = D.filter fun t => !q t := by
  rw [offL_eq]
  refine List.filter_congr fun t ht => ?_
  have hmem : ∀ x, x ∈ l ↔ x ∈ D ∧ q x = true := fun x => by rw [hl.mem_iff, List.mem_filter]
  cases h : q t with
  | true =>
    have hin : t ∈ l := (hmem t).2 ⟨ht, h⟩
    simp only [Bool.not_true]
    rw [← Bool.not_eq_true, List.all_eq_true]
    intro hall
    have := hall t hin
    simp at this
  | false =>
    simp only [Bool.not_false]
    rw [List.all_eq_true]
    intro x hx
    obtain ⟨h1, h2⟩ := (hmem x).1 hx
    have : t.id ≠ x.id := fun e => by
      have := pair_inj hd ht h1 e
      subst this
      rw [h] at h2; cases h2
    simpa using this
theorem mv1_67 {n k b : Nat} (hb : b < 67) (hk : 67 ≤ k) (hn : k < n + 2) : mv1 n b ≠ k := by unfold mv1; split <;> omega
theorem kvT_nmB (n : Nat) (D : List Tm) (dn : Bool) : nmB n (.mapb (kvT D) dn) := kvT_nm n D
theorem kvT_renB (ρ : Nat → Nat) (D : List Tm) (dn : Bool) : renB ρ (.mapb (kvT D) dn) = .mapb (kvT D) dn := renB_same (n := 0) (fun b hb => by omega) (kvT_nm 0 D)
set_option maxHeartbeats 4000000 in
set_option maxRecDepth 20000 in
theorem WheelOnce_ps (gl : Nat → AV) (z : Int) (l m : List Int) (hz : inI z) (hl : ∀ x ∈ l, inI x) (hm : ∀ x ∈ m, inI x) (hll : l.length ≤ 140737488351232) (hml : m.length ≤ 140737488351232) : PS Try.prog gl 9 [.int .i64 z, .isl l.length (ints l), .isl m.length (ints m)] (.bool true) := by
  refine ft_wOnce.ps (of_decide_eq_true rfl) (by simp [nmOk]) fun c hN hg => ?_
  unfold T_wOnce
  obtain ⟨hp1, hp2⟩ := pickN_eq z (n := 1048576) (by omega)
  have hpk := kpick_ps c.gl z 1048576 hz (by omega)
  rw [hp1] at hpk
  generalize pickN z 1048576 = a at *
  have hnew := wNewW_gs c.gl a (by omega)
  have hw0 := emptyT_WI a (by omega)
  have hwf0 := hw0.wf
  (refine XG ?_; ((try (repeat' with_reducible refine And.intro ?_ ?_)); (try any_goals (first | refine zm ?_ | exact CL | fail))))
  ((first | apply pr_psv | apply prD_psv | apply pr_qrunv | apply prD_qrunv) <;> (first | exact hpk | (refine XG ?_; first | exact rfl | exact True.intro | ((try (repeat' with_reducible refine And.intro ?_ ?_)); (try any_goals (first | refine zm ?_ | exact CL | fail))))))
  (refine XG ?_; ((try (repeat' with_reducible refine And.intro ?_ ?_)); (try any_goals (first | refine zm ?_ | exact CL | fail))))
  refine pr_gnew hnew (WT.HLb hwf0) ?_ (by simp) ?_
  · (refine XG ?_; ((try (repeat' with_reducible refine And.intro ?_ ?_)); (try any_goals (first | refine zm ?_ | exact CL | fail))))
  dsimp only [List.nil_append]
  generalize emptyT a (.mapb [] true) = T0 at *
  have hH0 := whHi hwf0 (σ := fun b => 0 + b) (m := 67) fun b hb => by show 0 + b < 67; omega
  have e0 : renH (fun b => 0 + b) T0.hb = renH id T0.hb := renH_congr hwf0 fun b _ => Nat.zero_add b
  rw [e0] at hH0 ⊢
  (refine XG ?_; ((try (repeat' with_reducible refine And.intro ?_ ?_)); (try any_goals (first | refine zm ?_ | exact CL | fail))))
  ((first | apply pr_psv | apply prD_psv | apply pr_qrunv | apply prD_qrunv) <;> (first | exact (kturns_ps c.gl) | (refine XG ?_; first | exact rfl | exact True.intro | ((try (repeat' with_reducible refine And.intro ?_ ?_)); (try any_goals (first | refine zm ?_ | exact CL | fail))))))
  (refine xw_ifp (fun h1 => ?_) (fun h1 => ?_) <;> try exact h1.elim)
  (refine XG ?_; ((try (repeat' with_reducible refine And.intro ?_ ?_)); (try any_goals (first | refine zm ?_ | exact CL | fail))))
  (refine pr_mkm mtD ?_; (have zf1 := @hH0; refine XG ?_; clear zf1; ((try (repeat' with_reducible refine And.intro ?_ ?_)); (try any_goals (first | refine zm ?_ | exact CL | fail)))))
  refine loop_ruleS (fun y : Nat × WT => y.1 ≤ l.length ∧ y.1 ≤ 60 ∧ WI y.2 a (dlist a 262144 l y.1)) (fun y => ⟨[(0, .int .i64 a), (1, .isl l.length (ints l)), (2, .isl m.length (ints m)), (7, .ptr 0 0), (9, .mp 67), (10, .int .i64 y.1)], (67, .mapb (kvT (dlist a 262144 l y.1)) true) :: renH id y.2.hb, 68⟩) (fun y => 60 - y.1) ft_wOnce.mixed [] (by rw [hN]; simp)
    ⟨(0, T0), ⟨by simp, by simp, hw0⟩, To.sel (by (refine XG ?_; ((try (repeat' with_reducible refine And.intro ?_ ?_)); (try any_goals (first | refine zm ?_ | exact CL | fail))))) fun b => rfl⟩ fun y hy => ?_
  obtain ⟨i, T1⟩ := y
  obtain ⟨hil, hi60, hw1⟩ := hy
  dsimp only at hil hi60 hw1 ⊢
  have hwf1 := hw1.wf
  have hH1 := whHi hwf1 (σ := id) (m := 67) fun b hb => hb
  (refine XG ?_; ((try (repeat' with_reducible refine And.intro ?_ ?_)); (try any_goals (first | refine zm ?_ | exact CL | fail))))
  (refine xw_ifp (fun h2 => ?_) (fun h2 => ?_) <;> try exact h2.elim)
  · have hin : i < l.length := by omega
    have hlx := hl l[i] (List.getElem_mem _)
    have hgd : l.getD i 0 = l[i] := by simp [List.getD, hin]
    have hcut : ((ints l).drop i).take 1 = [.int .i64 l[i]] := by
      unfold ints
      rw [← List.map_drop, List.drop_eq_getElem_cons hin]; rfl
    have hds := dlist_succ a 262144 l i
    rw [hgd] at hds
    have hil2 := ints_len l
    have hgi := ints_getL l i hin
    obtain ⟨q1, q2⟩ := pickN_eq l[i] (n := 262144) (by omega)
    have hpk := kpick_ps c.gl l[i] 262144 hlx (by omega)
    rw [q1] at hpk
    have hne := dlist_ne a 262144 l i
    generalize l[i] = x at *
    generalize pickN x 262144 = d at *
    have hks := kvT_keys (dlist a 262144 l i)
    have hki := keyI_ok (i : Int)
    have hup := updA_kvT (D := dlist a 262144 l i) (x := i) hne (a + d)
    rw [← hds] at hup
    have hks2 := kvT_keys (dlist a 262144 l (i + 1))
    have hga : getA (kvT (dlist a 262144 l (i + 1))) (.int .i64 i) (.int .i64 0) = .int .i64 ((a + d : Nat) : Int) := by rw [getA_kvT, hds, dueT_snoc hne]
    have hcast : (a : Int) + (d : Int) = ((a + d : Nat) : Int) := by omega
    have hdl := dlist_len a 262144 l i
    obtain ⟨T2, hw2, harm⟩ := hw1.arm_gd c.gl i (a + d : Nat)
    have hr : armR a (dlist a 262144 l i) i ((a + d : Nat) : Int) = (0, dlist a 262144 l (i + 1)) := by
      unfold armR
      rw [if_neg (by omega), if_neg (by rw [hdl]; omega), armD_new hne, hds, show max ((a + d : Nat) : Int).toNat a = a + d by omega]
    rw [hr] at hw2 harm
    dsimp only at hw2 harm
    (have zf1 := @hcut; have zf2 := @hgi; have zf3 := @hil2; refine XG ?_; clear zf1 zf2 zf3; ((try (repeat' with_reducible refine And.intro ?_ ?_)); (try any_goals (first | refine zm ?_ | exact CL | fail))))
    ((first | apply pr_psv | apply prD_psv | apply pr_qrunv | apply prD_qrunv) <;> (first | exact hpk | (refine XG ?_; first | exact rfl | exact True.intro | ((try (repeat' with_reducible refine And.intro ?_ ?_)); (try any_goals (first | refine zm ?_ | exact CL | fail))))))
    (have zf1 := @hcast; refine XG ?_; clear zf1; ((try (repeat' with_reducible refine And.intro ?_ ?_)); (try any_goals (first | refine zm ?_ | exact CL | fail))))
    ((first | refine pr_upd mtD ?_ | refine prD_upd mtD ?_); (have zf1 := @hks; have zf2 := @hki; have zf3 := @hup; refine XG ?_; clear zf1 zf2 zf3; ((try (repeat' with_reducible refine And.intro ?_ ?_)); (try any_goals (first | refine zm ?_ | exact CL | fail)))))
    ((first | refine pr_lkp mtD ?_ | refine prD_lkp mtD ?_); (have zf1 := @hks2; have zf2 := @hki; have zf3 := @hga; refine XG ?_; clear zf1 zf2 zf3; ((try (repeat' with_reducible refine And.intro ?_ ?_)); (try any_goals (first | refine zm ?_ | exact CL | fail)))))
    refine pr_gd (v := false) (ex := [(67, _), (67, _)]) harm (gx1 hwf1 (by simp) (by omega) (by simp) ?_) rfl (WT.HLb hw2.wf) (by simp [nmOk]) ?_
    · have hca : ∀ l : List AV, cArgs false 35 l = some (35, l) := fun _ => rfl
      (have zf1 := @hca; refine XG ?_; clear zf1; ((try (repeat' with_reducible refine And.intro ?_ ?_)); (try any_goals (first | refine zm ?_ | exact CL | fail))))
    rw [gxSt_1 (by simp [nmOk])]
    (refine XG ?_; ((try (repeat' with_reducible refine And.intro ?_ ?_)); (try any_goals (first | refine zm ?_ | exact CL | fail))))
    (refine xw_ifp (fun h3 => ?_) (fun h3 => ?_) <;> try exact h3.elim)
    (refine XG ?_; ((try (repeat' with_reducible refine And.intro ?_ ?_)); (try any_goals (first | refine zm ?_ | exact CL | fail))))
    refine ⟨(i + 1, T2), ⟨by dsimp only; omega, by dsimp only; omega, hw2⟩, To.wnorm (ex := [(67, _), (67, _)]) (ex' := [(67, _)]) [] hw2.wf (fun b b' h h' e => mv1_inj (by omega) h h' e) (by simp; exact fun b hb => mv1_67 hb (by omega) (by omega)) (by omega) (fun q hq => ?_) (by simp) ?_, by dsimp only; omega⟩
    · obtain rfl := List.mem_singleton.1 hq
      exact ⟨⟨by dsimp only; omega, by dsimp only; omega⟩, ⟨kvT_nmB _ _ _, by dsimp only; rw [kvT_renB]; rfl, rfl⟩, fun b hb => mv1_67 hb (by dsimp only; exact Nat.le_refl 67) (by dsimp only; show 67 < 68 + 2; omega)⟩
    · have h7 : r67 (mv1 68) [] 67 = 67 := rfl
      have h0 : r67 (mv1 68) [] 0 = 0 := rfl
      have hi := fun n l => ints_nm n l
      have hr := rens_ints (r67 (mv1 68) [])
      (have zf1 := @h7; have zf2 := @h0; have zf3 := @hi; have zf4 := @hr; refine XG ?_; clear zf1 zf2 zf3 zf4; ((try (repeat' with_reducible refine And.intro ?_ ?_)); (try any_goals (first | refine zm ?_ | exact CL | fail))))
  · have hcap1 := hw1.cap
    generalize dlist a 262144 l i = D1 at *
    (refine XG ?_; ((try (repeat' with_reducible refine And.intro ?_ ?_)); (try any_goals (first | refine zm ?_ | exact CL | fail))))
    refine loop_ruleS (fun y : Nat × WT × Nat × List Tm × Bool => y.1 ≤ m.length ∧ y.1 ≤ 40 ∧ WI y.2.1 y.2.2.1 y.2.2.2.1 ∧ y.2.2.1 ≤ a + y.1 * 8192) (fun y => ⟨[(2, .isl m.length (ints m)), (7, .ptr 0 0), (9, .mp 67), (11, .int .i64 y.2.2.1), (12, .int .i64 y.1)], (67, .mapb (kvT y.2.2.2.1) y.2.2.2.2) :: renH id y.2.1.hb, 68⟩) (fun y => 40 - y.1) ft_wOnce.mixed [] (by rw [hN]; simp)
      ⟨(0, T1, a, D1, true), ⟨by simp, by simp, hw1, by simp⟩, To.sel (by (refine XG ?_; ((try (repeat' with_reducible refine And.intro ?_ ?_)); (try any_goals (first | refine zm ?_ | exact CL | fail))))) fun b => rfl⟩ fun y hy => ?_
    clear hw1 hwf1 hH1 hcap1 h2
    obtain ⟨i, T1, n, D, dn⟩ := y
    obtain ⟨him, hi40, hw1, hna⟩ := hy
    dsimp only at him hi40 hw1 hna ⊢
    have hwf1 := hw1.wf
    (refine XG ?_; ((try (repeat' with_reducible refine And.intro ?_ ?_)); (try any_goals (first | refine zm ?_ | exact CL | fail))))
    (refine xw_ifp (fun h2 => ?_) (fun h2 => ?_) <;> try exact h2.elim)
    · have hin : i < m.length := by omega
      have hlx := hm m[i] (List.getElem_mem _)
      have hcut : ((ints m).drop i).take 1 = [.int .i64 m[i]] := by
        unfold ints
        rw [← List.map_drop, List.drop_eq_getElem_cons hin]; rfl
      have hil2 := ints_len m
      have hgi := ints_getL m i hin
      obtain ⟨q1, q2⟩ := pickN_eq m[i] (n := 8192) (by omega)
      have hpk := kpick_ps c.gl m[i] 8192 hlx (by omega)
      rw [q1] at hpk
      generalize m[i] = x at *
      generalize pickN x 8192 = d at *
      have hcast : (n : Int) + (d : Int) = ((n + d : Nat) : Int) := by omega
      obtain ⟨T2, hw2, hadv⟩ := hw1.adv_gd c.gl (n + d : Nat)
      have hr : advR n D ((n + d : Nat) : Int) = (0, outT D (n + d + 1), n + d, D.filter fun t => decide (n + d < t.due)) := by
        unfold advR
        rw [if_neg (by omega), show ((n + d : Nat) : Int).toNat = n + d by omega]
      rw [hr] at hw2 hadv
      dsimp only at hw2 hadv
      have houts := outs (to := n + d) hw1.wg
      have hos : outT D (n + d + 1) = (srt (D.filter fun t => decide (t.due < n + d + 1))).map (·.id) := rfl
      rw [hos] at hadv
      have hSoff : offL (srt (D.filter fun t => decide (t.due < n + d + 1))) D = D.filter fun t => decide (n + d < t.due) := by
        rw [offL_filter hw1.wg.dis (srt_perm _)]
        refine List.filter_congr fun t _ => ?_
        rw [Bool.eq_iff_iff]; simp; omega
      have hSl : (srt (D.filter fun t => decide (t.due < n + d + 1))).length ≤ D.length := by rw [(srt_perm _).length_eq]; exact List.length_filter_le _ _
      have hdis := hw1.wg.dis
      have hcap := hw1.cap
      generalize srt (D.filter fun t => decide (t.due < n + d + 1)) = S at *
      rw [List.length_map] at hadv
      (have zf1 := @hcut; have zf2 := @hgi; have zf3 := @hil2; refine XG ?_; clear zf1 zf2 zf3; ((try (repeat' with_reducible refine And.intro ?_ ?_)); (try any_goals (first | refine zm ?_ | exact CL | fail))))
      ((first | apply pr_psv | apply prD_psv | apply pr_qrunv | apply prD_qrunv) <;> (first | exact hpk | (refine XG ?_; first | exact rfl | exact True.intro | ((try (repeat' with_reducible refine And.intro ?_ ?_)); (try any_goals (first | refine zm ?_ | exact CL | fail))))))
      (have zf1 := @hcast; refine XG ?_; clear zf1; ((try (repeat' with_reducible refine And.intro ?_ ?_)); (try any_goals (first | refine zm ?_ | exact CL | fail))))
      have htoN : n + d < n + 8192 := by omega
      generalize n + d = to at *
      refine pr_gd (v := false) (ex := [(67, _)]) hadv (gx1 hwf1 (by simp) (by omega) (by simp) ?_) rfl (WT.HLb hw2.wf) (by simp [nmOk, nmAll, ints_nm]) ?_
      · (have zf1 := @cArgs_f; refine XG ?_; clear zf1; ((try (repeat' with_reducible refine And.intro ?_ ?_)); (try any_goals (first | refine zm ?_ | exact CL | fail))))
      rw [gxSt_1 (by simp [nmOk, nmAll, ints_nm])]
      (refine XG ?_; ((try (repeat' with_reducible refine And.intro ?_ ?_)); (try any_goals (first | refine zm ?_ | exact CL | fail))))
      (refine xw_ifp (fun h3 => ?_) (fun h3 => ?_) <;> try exact h3.elim)
      (refine XG ?_; ((try (repeat' with_reducible refine And.intro ?_ ?_)); (try any_goals (first | refine zm ?_ | exact CL | fail))))
      refine loop_ruleS (fun k : Nat => k ≤ S.length) (fun k => ⟨[(2, .isl m.length (ints m)), (7, .ptr 0 0), (9, .mp 67), (12, .int .i64 i), (13, .int .i64 to), (14, .isl S.length (ints (S.map (·.id)))), (16, .int .i64 (if k = 0 then n else (S.getD (k - 1) default).due : Nat)), (96, .isl S.length (ints (S.map (·.id)))), (97, .int .i64 S.length), (98, .int .i64 k)], (67, .mapb (kvT D) dn) :: renH id T2.hb, 68⟩) (fun k => S.length - k) ft_wOnce.mixed [] (by rw [hN]; simp)
        ⟨0, by omega, To.wnorm (ex := [(67, _)]) (ex' := [(67, _)]) [] hw2.wf (fun b b' h h' e => mv1_inj (by omega) h h' e) (by simp; exact fun b hb => mv1_67 hb (by omega) (by omega)) (by omega) (fun q hq => ?_) (by simp) ?_⟩ fun k hk => ?_
      · obtain rfl := List.mem_singleton.1 hq
        exact ⟨⟨by dsimp only; omega, by dsimp only; omega⟩, ⟨kvT_nmB _ _ _, by dsimp only; rw [kvT_renB]; rfl, rfl⟩, fun b hb => mv1_67 hb (by dsimp only; exact Nat.le_refl 67) (by dsimp only; show 67 < 68 + 2; omega)⟩
      · have h7 : r67 (mv1 68) [] 67 = 67 := rfl
        have h0 : r67 (mv1 68) [] 0 = 0 := rfl
        have hr := rens_ints (r67 (mv1 68) [])
        (have zf1 := @h7; have zf2 := @h0; have zf3 := @ints_nm; have zf4 := @hr; refine XG ?_; clear zf1 zf2 zf3 zf4; ((try (repeat' with_reducible refine And.intro ?_ ?_)); (try any_goals (first | refine zm ?_ | exact CL | fail))))
      have hwf2 := hw2.wf
      have hSid := ints_len (S.map (·.id))
      rw [List.length_map] at hSid
      (refine XG ?_; ((try (repeat' with_reducible refine And.intro ?_ ?_)); (try any_goals (first | refine zm ?_ | exact CL | fail))))
      (refine xw_ifp (fun h4 => ?_) (fun h4 => ?_) <;> try exact h4.elim)
      · have hkS : k < S.length := by omega
        have hcutk : ((ints (S.map (·.id))).drop k).take 1 = [.int .i64 S[k].id] := by
          unfold ints
          rw [← List.map_drop, List.drop_eq_getElem_cons (by simpa using hkS)]; simp
        have hgk : (ints (S.map (·.id))).getD k .any = .int .i64 S[k].id := by simp [ints, List.getD, hkS]
        obtain ⟨hmk1, hmk2, hmk3⟩ := houts.mem S[k] (List.getElem_mem _)
        obtain ⟨hdu, hha⟩ := dueT_mem hdis hmk1
        have hks := kvT_keys D
        have hki := keyI_ok S[k].id
        have hga := getA_kvT D S[k].id
        have hhA := hasA_kvT D S[k].id
        rw [hdu] at hga
        rw [hha] at hhA
        have hlst : ∃ lst : Nat, (if k = 0 then n else (S.getD (k - 1) default).due) = lst ∧ lst ≤ S[k].due ∧ (k = 0 ∨ 0 < k ∧ ∃ b : Int, ((ints (S.map (·.id))).getD ((k : Int) - 1).toNat .any = .int .i64 b ∧ ((ints (S.map (·.id))).drop ((k : Int) - 1).toNat).take 1 = [.int .i64 b] ∧ (lst = S[k].due → b < S[k].id))) := by
          by_cases hk0 : k = 0
          · rw [if_pos hk0]
            exact ⟨n, rfl, hmk3, .inl hk0⟩
          · rw [if_neg hk0]
            have hj : k - 1 < S.length := by omega
            have ej : ((k : Int) - 1).toNat = k - 1 := by omega
            have eg : S.getD (k - 1) default = S[k - 1] := by simp [List.getD, hj]
            have ho := houts.ord (k - 1) (by omega)
            simp only [show k - 1 + 1 = k by omega] at ho
            rw [eg, ej]
            refine ⟨_, rfl, by omega, .inr ⟨by omega, S[k - 1].id, by simp [ints, List.getD, hj], ?_, fun e => by omega⟩⟩
            unfold ints
            rw [← List.map_drop, List.drop_eq_getElem_cons (by simpa using hj)]; simp
        obtain ⟨lst, hle, hlo, hcs⟩ := hlst
        rw [hle]
        clear hle
        have htk : (S.getD (k + 1 - 1) default).due = S[k].due := by simp [List.getD, hkS]
        generalize S[k] = t at *
        have f1 : decide ((to : Int) < (t.due : Int)) = false := decide_eq_false (by omega)
        have f2 : decide ((t.due : Int) < (lst : Int)) = false := decide_eq_false (by omega)
        have hend : ∀ (s : St), To [] s ⟨[(2, .isl m.length (ints m)), (7, .ptr 0 0), (9, .mp 67), (12, .int .i64 i), (13, .int .i64 to), (14, .isl S.length (ints (S.map (·.id)))), (16, .int .i64 (t.due : Nat)), (96, .isl S.length (ints (S.map (·.id)))), (97, .int .i64 S.length), (98, .int .i64 (k + 1 : Nat))], (67, .mapb (kvT D) dn) :: renH id T2.hb, 68⟩ → ∃ y, y ≤ S.length ∧ To [] s ⟨[(2, .isl m.length (ints m)), (7, .ptr 0 0), (9, .mp 67), (12, .int .i64 i), (13, .int .i64 to), (14, .isl S.length (ints (S.map (·.id)))), (16, .int .i64 (if y = 0 then n else (S.getD (y - 1) default).due : Nat)), (96, .isl S.length (ints (S.map (·.id)))), (97, .int .i64 S.length), (98, .int .i64 y)], (67, .mapb (kvT D) dn) :: renH id T2.hb, 68⟩ ∧ S.length - y < S.length - k := fun s h => ⟨k + 1, by omega, by rw [if_neg (by omega), htk]; exact h, by omega⟩
        rcases hcs with hk0 | ⟨hkp, b, hgb, hcb, hbt⟩
        · subst hk0
          (have zf1 := @hcutk; have zf2 := @hSid; have zf3 := @hgk; refine XG ?_; clear zf1 zf2 zf3; ((try (repeat' with_reducible refine And.intro ?_ ?_)); (try any_goals (first | refine zm ?_ | exact CL | fail))))
          ((first | refine pr_lkp mtD ?_ | refine prD_lkp mtD ?_); (have zf1 := @hks; have zf2 := @hki; have zf3 := @hga; have zf4 := @hhA; have zf5 := @f1; have zf6 := @f2; refine XG ?_; clear zf1 zf2 zf3 zf4 zf5 zf6; ((try (repeat' with_reducible refine And.intro ?_ ?_)); (try any_goals (first | refine zm ?_ | exact CL | fail)))))
          ((first | apply pr_skip | apply prD_skip) <;> (have zf1 := @f1; have zf2 := @f2; refine XG ?_; clear zf1 zf2; first | exact rfl | exact True.intro | ((try (repeat' with_reducible refine And.intro ?_ ?_)); (try any_goals (first | refine zm ?_ | exact CL | fail)))))
          (refine xw_ifp (fun h5 => ?_) (fun h5 => ?_) <;> try exact h5.elim)
          (refine XG ?_; ((try (repeat' with_reducible refine And.intro ?_ ?_)); (try any_goals (first | refine zm ?_ | exact CL | fail))))
          exact hend _ (To.sel (by (refine XG ?_; ((try (repeat' with_reducible refine And.intro ?_ ?_)); (try any_goals (first | refine zm ?_ | exact CL | fail))))) fun b => rfl)
        · have f3 : decide ((0 : Int) < (k : Int)) = true := decide_eq_true (by omega)
          have hml : (S.map (·.id)).length = S.length := List.length_map _
          by_cases hdl : (t.due : Int) = (lst : Int)
          · have f4 : ((t.due : Int) == (lst : Int)) = true := beq_iff_eq.2 hdl
            have f5 : decide (t.id ≤ b) = false := decide_eq_false (by have := hbt (by omega); omega)
            (have zf1 := @hcutk; have zf2 := @hSid; have zf3 := @hgk; refine XG ?_; clear zf1 zf2 zf3; ((try (repeat' with_reducible refine And.intro ?_ ?_)); (try any_goals (first | refine zm ?_ | exact CL | fail))))
            ((first | refine pr_lkp mtD ?_ | refine prD_lkp mtD ?_); (have zf1 := @hga; have zf2 := @hhA; have zf3 := @f1; have zf4 := @f2; have zf5 := @hgb; have zf6 := @f5; have zf7 := @f3; have zf8 := @f4; have zf9 := @hml; refine XG ?_; clear zf1 zf2 zf3 zf4 zf5 zf6 zf7 zf8 zf9; ((try (repeat' with_reducible refine And.intro ?_ ?_)); (try any_goals (first | refine zm ?_ | exact CL | fail)))))
            ((first | apply pr_skip | apply prD_skip) <;> (have zf1 := @f1; have zf2 := @f2; have zf3 := @hgb; have zf4 := @f5; have zf5 := @f3; have zf6 := @f4; refine XG ?_; clear zf1 zf2 zf3 zf4 zf5 zf6; first | exact rfl | exact True.intro | ((try (repeat' with_reducible refine And.intro ?_ ?_)); (try any_goals (first | refine zm ?_ | exact CL | fail)))))
            (refine xw_ifp (fun h5 => ?_) (fun h5 => ?_) <;> try exact h5.elim)
            (refine XG ?_; ((try (repeat' with_reducible refine And.intro ?_ ?_)); (try any_goals (first | refine zm ?_ | exact CL | fail))))
            exact hend _ (To.sel (by (refine XG ?_; ((try (repeat' with_reducible refine And.intro ?_ ?_)); (try any_goals (first | refine zm ?_ | exact CL | fail))))) fun b => rfl)
          · have f4 : ((t.due : Int) == (lst : Int)) = false := beq_eq_false_iff_ne.2 hdl
            (have zf1 := @hcutk; have zf2 := @hSid; have zf3 := @hgk; refine XG ?_; clear zf1 zf2 zf3; ((try (repeat' with_reducible refine And.intro ?_ ?_)); (try any_goals (first | refine zm ?_ | exact CL | fail))))
            ((first | refine pr_lkp mtD ?_ | refine prD_lkp mtD ?_); (have zf1 := @hga; have zf2 := @hhA; have zf3 := @f1; have zf4 := @f2; have zf5 := @hgb; have zf6 := @f3; have zf7 := @f4; have zf8 := @hml; refine XG ?_; clear zf1 zf2 zf3 zf4 zf5 zf6 zf7 zf8; ((try (repeat' with_reducible refine And.intro ?_ ?_)); (try any_goals (first | refine zm ?_ | exact CL | fail)))))
            ((first | apply pr_skip | apply prD_skip) <;> (have zf1 := @f1; have zf2 := @f2; have zf3 := @hgb; have zf4 := @f3; have zf5 := @f4; refine XG ?_; clear zf1 zf2 zf3 zf4 zf5; first | exact rfl | exact True.intro | ((try (repeat' with_reducible refine And.intro ?_ ?_)); (try any_goals (first | refine zm ?_ | exact CL | fail)))))
            (refine xw_ifp (fun h5 => ?_) (fun h5 => ?_) <;> try exact h5.elim)
            (refine XG ?_; ((try (repeat' with_reducible refine And.intro ?_ ?_)); (try any_goals (first | refine zm ?_ | exact CL | fail))))
            exact hend _ (To.sel (by (refine XG ?_; ((try (repeat' with_reducible refine And.intro ?_ ?_)); (try any_goals (first | refine zm ?_ | exact CL | fail))))) fun b => rfl)
      · obtain rfl : k = S.length := by omega
        generalize (if S.length = 0 then n else (S.getD (S.length - 1) default).due) = lst
        have hml : (S.map (·.id)).length = S.length := List.length_map _
        (refine XG ?_; ((try (repeat' with_reducible refine And.intro ?_ ?_)); (try any_goals (first | refine zm ?_ | exact CL | fail))))
        refine loop_ruleS (fun k : Nat => k ≤ S.length) (fun k => ⟨[(2, .isl m.length (ints m)), (7, .ptr 0 0), (9, .mp 67), (12, .int .i64 i), (13, .int .i64 to), (152, .isl S.length (ints (S.map (·.id)))), (153, .int .i64 S.length), (154, .int .i64 k)], (67, .mapb (kvT (offL (S.take k) D)) false) :: renH id T2.hb, 68⟩) (fun k => S.length - k) ft_wOnce.mixed [] (by rw [hN]; simp)
          ⟨0, by omega, To.trans (To.noDense (b := 67) (kvs := kvT D) (dn := dn) rfl) (To.sel (by (refine XG ?_; ((try (repeat' with_reducible refine And.intro ?_ ?_)); (try any_goals (first | refine zm ?_ | exact CL | fail))))) fun b => ?_)⟩ fun k hk => ?_
        · show lookb ((67, .mapb (kvT D) false) :: renH id T2.hb) 68 b = lookb ((67, .mapb (kvT D) false) :: (67, .mapb (kvT D) dn) :: renH id T2.hb) 68 b
          rw [lookb_cons, lookb_cons, lookb_cons]
          split <;> rfl
        (refine XG ?_; ((try (repeat' with_reducible refine And.intro ?_ ?_)); (try any_goals (first | refine zm ?_ | exact CL | fail))))
        (refine xw_ifp (fun h5 => ?_) (fun h5 => ?_) <;> try exact h5.elim)
        · have hkS : k < S.length := by omega
          have hcutk : ((ints (S.map (·.id))).drop k).take 1 = [.int .i64 S[k].id] := by
            unfold ints
            rw [← List.map_drop, List.drop_eq_getElem_cons (by simpa using hkS)]; simp
          have hgk : (ints (S.map (·.id))).getD k .any = .int .i64 S[k].id := by simp [ints, List.getD, hkS]
          have hde := delA_kvT (offL (S.take k) D) S[k].id (offL_pair hdis)
          have htk : S.take (k + 1) = S.take k ++ [S[k]] := by rw [List.take_succ]; simp [hkS]
          rw [← offL_snoc, ← htk] at hde
          generalize S[k] = t at *
          (have zf1 := @hcutk; have zf2 := @hSid; have zf3 := @hgk; refine XG ?_; clear zf1 zf2 zf3; ((try (repeat' with_reducible refine And.intro ?_ ?_)); (try any_goals (first | refine zm ?_ | exact CL | fail))))
          ((first | refine pr_del mtD ?_ | refine prD_del mtD ?_); (have zf1 := @hde; refine XG ?_; clear zf1; ((try (repeat' with_reducible refine And.intro ?_ ?_)); (try any_goals (first | refine zm ?_ | exact CL | fail)))))
          refine ⟨k + 1, by omega, To.sel (by (refine XG ?_; ((try (repeat' with_reducible refine And.intro ?_ ?_)); (try any_goals (first | refine zm ?_ | exact CL | fail))))) fun b => ?_, by omega⟩
          rw [lookb_cons, lookb_cons, lookb_cons]
          split <;> rfl
        · obtain rfl : k = S.length := by omega
          rw [List.take_length, hSoff]
          have hcap2 := hw2.cap
          have hlo2 : ∀ t ∈ D.filter (fun t => decide (to < t.due)), to < t.due := fun t ht => by simpa using (List.mem_filter.1 ht).2
          have hkl := kvT_len (D.filter fun t => decide (to < t.due))
          have hH2 := whHi hwf2 (σ := id) (m := 67) fun b hb => hb
          have hmany := hw2.many_gd c.gl
          have hnow := hw2.now_gd c.gl
          generalize D.filter (fun t => decide (to < t.due)) = D2 at *
          (refine XG ?_; ((try (repeat' with_reducible refine And.intro ?_ ?_)); (try any_goals (first | refine zm ?_ | exact CL | fail))))
          refine pr_rng mtD rfl rfl (by (have zf1 := @hH2; refine XG ?_; clear zf1; ((try (repeat' with_reducible refine And.intro ?_ ?_)); (try any_goals (first | refine zm ?_ | exact CL | fail))))) fun bs ck hst => ?_
          rw [kvT_len] at hst
          (refine XG ?_; ((try (repeat' with_reducible refine And.intro ?_ ?_)); (try any_goals (first | refine zm ?_ | exact CL | fail))))
          refine loop_ruleS (fun L : List Nat => L.Nodup ∧ ∀ i ∈ L, i < D2.length) (fun L => ⟨[(2, .isl m.length (ints m)), (7, .ptr 0 0), (9, .mp 67), (11, .int .i64 to), (12, .int .i64 i), (163, .ptr 68 0)], (68, .iter 67 ck (L.map fun i => bs.getD i 0)) :: (67, .mapx (kvT D2) bs ck) :: renH id T2.hb, 69⟩) (fun L => D2.length - L.length) ft_wOnce.mixed [] (by rw [hN]; simp)
            ⟨[], ⟨by simp, by simp⟩, To.sel (by (refine XG ?_; ((try (repeat' with_reducible refine And.intro ?_ ?_)); (try any_goals (first | refine zm ?_ | exact CL | fail))))) fun b => ?_⟩ fun L hy => ?_
          · simp only [List.map_nil, lookb_cons]
            (repeat' split) <;> first | rfl | omega
          obtain ⟨hnd, hSb⟩ := hy
          have hLl := nodup_bound _ L hnd hSb
          (refine XG ?_; ((try (repeat' with_reducible refine And.intro ?_ ?_)); (try any_goals (first | refine zm ?_ | exact CL | fail))))
          refine pr_nxt (bi := 68) (b := 67) (ck := ck) (seen := L.map fun i => bs.getD i 0) (bs := bs) (kvs := kvT D2) rfl (by (refine XG ?_; ((try (repeat' with_reducible refine And.intro ?_ ?_)); (try any_goals (first | refine zm ?_ | exact CL | fail))))) (by (refine XG ?_; ((try (repeat' with_reducible refine And.intro ?_ ?_)); (try any_goals (first | refine zm ?_ | exact CL | fail))))) (fun hall => ?_) (fun j hik hni => ?_)
          · (refine XG ?_; ((try (repeat' with_reducible refine And.intro ?_ ?_)); (try any_goals (first | refine zm ?_ | exact CL | fail))))
            (refine xw_ifp (fun h6 => ?_) (fun h6 => ?_) <;> try exact h6.elim)
            (refine XG ?_; ((try (repeat' with_reducible refine And.intro ?_ ?_)); (try any_goals (first | refine zm ?_ | exact CL | fail))))
            refine pr_to (p := []) (by rw [hN]; simp) (To.ofX (b := 67) rfl) ?_
            refine pr_gd (v := false) (ex := [(67, _), (68, _), (67, _)]) hmany (gx1 hwf2 (fun b hb => List.mem_range.1 hb) (by show 67 ≤ 69; omega) (by simp) ?_) rfl (WT.HLb hwf2) (by simp [nmOk]) ?_
            · (have zf1 := @cArgs_f; refine XG ?_; clear zf1; ((try (repeat' with_reducible refine And.intro ?_ ?_)); (try any_goals (first | refine zm ?_ | exact CL | fail))))
            rw [gxSt_r hwf2 (by simp [nmOk])]
            (have zf1 := @hkl; refine XG ?_; clear zf1; ((try (repeat' with_reducible refine And.intro ?_ ?_)); (try any_goals (first | refine zm ?_ | exact CL | fail))))
            ((refine pr_on ?_ ?_ ?_); (focus (refine XG ?_; try first | exact rfl | exact True.intro)); (focus (refine XG ?_; try trivial)))
            refine pr_gd (v := false) (ex := [(67, _), (68, _), (67, _)]) hnow (gx1 hwf2 (fun b hb => List.mem_range.1 hb) (by show 67 ≤ 136; omega) (by simp) ?_) rfl (WT.HLb hwf2) (by simp [nmOk]) ?_
            · (have zf1 := @cArgs_f; refine XG ?_; clear zf1; ((try (repeat' with_reducible refine And.intro ?_ ?_)); (try any_goals (first | refine zm ?_ | exact CL | fail))))
            rw [gxSt_r hwf2 (by simp [nmOk])]
            (refine XG ?_; ((try (repeat' with_reducible refine And.intro ?_ ?_)); (try any_goals (first | refine zm ?_ | exact CL | fail))))
            (refine xw_ifp (fun h7 => ?_) (fun h7 => ?_) <;> try exact h7.elim)
            (refine XG ?_; ((try (repeat' with_reducible refine And.intro ?_ ?_)); (try any_goals (first | refine zm ?_ | exact CL | fail))))
            refine ⟨(i + 1, T2, to, D2, false), ⟨by dsimp only; omega, by dsimp only; omega, hw2, by dsimp only; omega⟩, To.wnorm (ex := [(67, _), (68, _), (67, _)]) (ex' := [(67, _)]) [] hwf2 (fun b b' _ _ e => e) (fun q hq b hb e => by
              have h1 : 67 ≤ q.1 := by
                simp at hq
                rcases hq with rfl | rfl | rfl <;> simp
              have e : b = q.1 := e
              omega) (by omega) (fun q hq => ?_) (by simp) ?_, by dsimp only; omega⟩
            · obtain rfl := List.mem_singleton.1 hq
              exact ⟨⟨by dsimp only; omega, by dsimp only; omega⟩, ⟨kvT_nmB _ _ _, by dsimp only; rw [kvT_renB]; rfl, rfl⟩, fun b hb e => by have e : b = 67 := e; omega⟩
            · have h7 : r67 id [] 67 = 67 := rfl
              have h0 : r67 id [] 0 = 0 := rfl
              have hr := rens_ints (r67 id [])
              (have zf1 := @h7; have zf2 := @h0; have zf3 := @ints_nm; have zf4 := @hr; refine XG ?_; clear zf1 zf2 zf3 zf4; ((try (repeat' with_reducible refine And.intro ?_ ?_)); (try any_goals (first | refine zm ?_ | exact CL | fail))))
          · rw [kvT_len] at hik
            have hiS : j ∉ L := fun h => hni (List.mem_map.2 ⟨j, h, rfl⟩)
            have hget := kvT_get D2 j hik
            have hDi : D2.getD j default ∈ D2 := by simp [List.getD, hik]
            have hdi := hlo2 _ hDi
            generalize D2.getD j default = u at *
            have hnd' : (L ++ [j]).Nodup := by
              rw [List.nodup_append]
              exact ⟨hnd, by simp, fun a ha b hb e => by
                obtain rfl := List.mem_singleton.1 hb
                exact hiS (e ▸ ha)⟩
            have hSb' : ∀ j' ∈ L ++ [j], j' < D2.length := fun j' hj => by
              rcases List.mem_append.1 hj with h | h
              · exact hSb j' h
              · obtain rfl := List.mem_singleton.1 h; exact hik
            have hSl' := nodup_bound _ _ hnd' hSb'
            rw [List.length_append] at hSl'
            simp only [List.length_cons, List.length_nil] at hSl'
            (have zf1 := @hget; refine XG ?_; clear zf1; ((try (repeat' with_reducible refine And.intro ?_ ?_)); (try any_goals (first | refine zm ?_ | exact CL | fail))))
            (refine xw_ifp (fun h6 => ?_) (fun h6 => ?_) <;> try exact h6.elim)
            (refine XG ?_; ((try (repeat' with_reducible refine And.intro ?_ ?_)); (try any_goals (first | refine zm ?_ | exact CL | fail))))
            refine pr_ent (bi := 68) (b := 67) (ck := ck) (i := j) (seen := L.map fun i => bs.getD i 0) (bs := bs) (kvs := kvT D2) rfl (by (refine XG ?_; ((try (repeat' with_reducible refine And.intro ?_ ?_)); (try any_goals (first | refine zm ?_ | exact CL | fail))))) (by (refine XG ?_; ((try (repeat' with_reducible refine And.intro ?_ ?_)); (try any_goals (first | refine zm ?_ | exact CL | fail))))) (by rw [kvT_len]; exact hik) ?_
            (have zf1 := @hget; refine XG ?_; clear zf1; ((try (repeat' with_reducible refine And.intro ?_ ?_)); (try any_goals (first | refine zm ?_ | exact CL | fail))))
            (refine xw_ifp (fun h7 => ?_) (fun h7 => ?_) <;> try exact h7.elim)
            · omega
            (refine XG ?_; ((try (repeat' with_reducible refine And.intro ?_ ?_)); (try any_goals (first | refine zm ?_ | exact CL | fail))))
            refine ⟨L ++ [j], ⟨hnd', hSb'⟩, To.sel (by (refine XG ?_; ((try (repeat' with_reducible refine And.intro ?_ ?_)); (try any_goals (first | refine zm ?_ | exact CL | fail))))) fun b => ?_, ?_⟩
            · simp only [lookb_cons, List.map_append, List.map_cons, List.map_nil]
              (repeat' split) <;> first | rfl | omega
            · rw [List.length_append]; simp only [List.length_cons, List.length_nil]; omega
    · (refine XG ?_; ((try (repeat' with_reducible refine And.intro ?_ ?_)); (try any_goals (first | refine zm ?_ | exact CL | fail))))
end Go.Proofs.Ytphaicaobepimaa
