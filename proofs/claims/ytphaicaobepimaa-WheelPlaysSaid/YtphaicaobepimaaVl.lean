/- What Arm, Cancel, Due, Now, Many do. No conditions but the ones that stand in each. -/
import Derived.Test.YtphaicaobepimaaVk
namespace Go.Proofs.Ytphaicaobepimaa
set_option linter.all false
set_option linter.unusedSimpArgs false
open Go.RowKit

set_option maxHeartbeats 2000000 in
theorem wCancel_none (gl : Nat → AV) (T : WT) (D : List Tm) (dn : Bool) (hlen : T.rows.length = 65) (hmb : T.mb = .mapb (kvT D) dn) (x : Int) (hx : hasT D x = false) :
    GQ Try.prog gl 40 [.ptr 0 0, .int .i64 x] T.h 67 [0, 1] (fun _ : Unit => True) (fun _ => .int .i64 7) (fun _ => T.h) := by
  have hT := kvT_mapb hlen hmb
  refine ft_wCancel.gq (of_decide_eq_true rfl) (fun q hq => live_of_nmB (((WT.HL hT).mem q hq).2)) (by simp) fun c hgh hg => ?_
  unfold T_wCancel
  have hHi := WT.hHi hT
  have hL0 := WT.l0 T
  have hL1 := WT.l1 T
  rw [hmb] at hL1
  have h66 := WT.get66 hT
  have hcl := WT.len hT
  have hks := kvT_keys D
  have hki := keyI_ok x
  have hha := hasA_kvT D x
  have hga := getA_kvT D x
  (have zf1 := @hHi; refine XG ?_; clear zf1; ((try (repeat' with_reducible refine And.intro ?_ ?_)); (try any_goals (first | refine zm ?_ | exact CL | fail))))
  (refine xw_ifp (fun h1 => ?_) (fun h1 => ?_) <;> try exact h1.elim)
  (have zf1 := @hHi; have zf2 := @hL0; have zf3 := @h66; refine XG ?_; clear zf1 zf2 zf3; ((try (repeat' with_reducible refine And.intro ?_ ?_)); (try any_goals (first | refine zm ?_ | exact CL | fail))))
  ((first | refine pr_lkp mtD ?_ | refine prD_lkp mtD ?_); (have zf1 := @hHi; have zf2 := @hL1; have zf3 := @hks; have zf4 := @hki; have zf5 := @hga; have zf6 := @hha; have zf7 := @hx; refine XG ?_; clear zf1 zf2 zf3 zf4 zf5 zf6 zf7; ((try (repeat' with_reducible refine And.intro ?_ ?_)); (try any_goals (first | refine zm ?_ | exact CL | fail)))))
  (refine xw_ifp (fun h2 => ?_) (fun h2 => ?_) <;> try exact h2.elim)
  (refine XG ?_; ((try (repeat' with_reducible refine And.intro ?_ ?_)); (try any_goals (first | refine zm ?_ | exact CL | fail))))
  refine ⟨(), To.wdrop (ex := [(67, .cells [.int .i64 x])]) hT (by simp) (by simp) (by simp [subT, nmOk, look, ren])⟩
set_option maxHeartbeats 1000000 in
theorem wNow_gq (gl : Nat → AV) (T : WT) (hT : T.wf) : GQ Try.prog gl 38 [.ptr 0 0] T.h 67 (List.range 67) (fun _ : Unit => True) (fun _ => .int .i64 T.now) (fun _ => T.h) := by
  refine ft_wNow.gq (of_decide_eq_true rfl) (fun q hq => live_of_nmB (((WT.HL hT).mem q hq).2)) (fun b hb => List.mem_range.1 hb) fun c hgh hg => ?_
  unfold T_wNow
  have hL0 := WT.l0 T
  have g0 := WT.get0 T
  have hcl := WT.len hT
  (refine XG ?_; ((try (repeat' with_reducible refine And.intro ?_ ?_)); (try any_goals (first | refine zm ?_ | exact CL | fail))))
  (refine xw_ifp (fun h1 => ?_) (fun h1 => ?_) <;> try exact h1.elim)
  (have zf1 := @hL0; have zf2 := @g0; refine XG ?_; clear zf1 zf2; ((try (repeat' with_reducible refine And.intro ?_ ?_)); (try any_goals (first | refine zm ?_ | exact CL | fail))))
  exact ⟨(), To.wdrop (ex := []) hT (fun b hb => List.mem_range.1 hb) (by simp) (by simp [subT, nmOk, look, ren])⟩
set_option maxHeartbeats 1000000 in
theorem wMany_gq (gl : Nat → AV) (T : WT) (D : List Tm) (dn : Bool) (hlen : T.rows.length = 65) (hmb : T.mb = .mapb (kvT D) dn) : GQ Try.prog gl 37 [.ptr 0 0] T.h 67 (List.range 67) (fun _ : Unit => True) (fun _ => .int .i64 D.length) (fun _ => T.h) := by
  have hT := kvT_mapb hlen hmb
  refine ft_wMany.gq (of_decide_eq_true rfl) (fun q hq => live_of_nmB (((WT.HL hT).mem q hq).2)) (fun b hb => List.mem_range.1 hb) fun c hgh hg => ?_
  unfold T_wMany
  have hL0 := WT.l0 T
  have hL1 := WT.l1 T
  rw [hmb] at hL1
  have h66 := WT.get66 hT
  have hcl := WT.len hT
  have hkl := kvT_len D
  (refine XG ?_; ((try (repeat' with_reducible refine And.intro ?_ ?_)); (try any_goals (first | refine zm ?_ | exact CL | fail))))
  (refine xw_ifp (fun h1 => ?_) (fun h1 => ?_) <;> try exact h1.elim)
  (have zf1 := @hL0; have zf2 := @h66; have zf3 := @hL1; have zf4 := @hkl; refine XG ?_; clear zf1 zf2 zf3 zf4; ((try (repeat' with_reducible refine And.intro ?_ ?_)); (try any_goals (first | refine zm ?_ | exact CL | fail))))
  exact ⟨(), To.wdrop (ex := []) hT (fun b hb => List.mem_range.1 hb) (by simp) (by simp [subT, nmOk, look, ren])⟩
set_option maxHeartbeats 1000000 in
theorem wDue_gq (gl : Nat → AV) (T : WT) (D : List Tm) (dn : Bool) (hlen : T.rows.length = 65) (hmb : T.mb = .mapb (kvT D) dn) (x : Int) : GQ Try.prog gl 39 [.ptr 0 0, .int .i64 x] T.h 67 (List.range 67) (fun _ : Unit => True) (fun _ => .tup [.int .i64 (dueT D x), .bool (hasT D x)]) (fun _ => T.h) := by
  have hT := kvT_mapb hlen hmb
  refine ft_wDue.gq (of_decide_eq_true rfl) (fun q hq => live_of_nmB (((WT.HL hT).mem q hq).2)) (fun b hb => List.mem_range.1 hb) fun c hgh hg => ?_
  unfold T_wDue
  have hL0 := WT.l0 T
  have hL1 := WT.l1 T
  rw [hmb] at hL1
  have h66 := WT.get66 hT
  have hcl := WT.len hT
  have hks := kvT_keys D
  have hki := keyI_ok x
  have hha := hasA_kvT D x
  have hga := getA_kvT D x
  (refine XG ?_; ((try (repeat' with_reducible refine And.intro ?_ ?_)); (try any_goals (first | refine zm ?_ | exact CL | fail))))
  (refine xw_ifp (fun h1 => ?_) (fun h1 => ?_) <;> try exact h1.elim)
  (have zf1 := @hL0; have zf2 := @h66; refine XG ?_; clear zf1 zf2; ((try (repeat' with_reducible refine And.intro ?_ ?_)); (try any_goals (first | refine zm ?_ | exact CL | fail))))
  ((first | refine pr_lkp mtD ?_ | refine prD_lkp mtD ?_); (have zf1 := @hL1; have zf2 := @hks; have zf3 := @hki; have zf4 := @hga; have zf5 := @hha; refine XG ?_; clear zf1 zf2 zf3 zf4 zf5; ((try (repeat' with_reducible refine And.intro ?_ ?_)); (try any_goals (first | refine zm ?_ | exact CL | fail)))))
  exact ⟨(), To.wdrop (ex := []) hT (fun b hb => List.mem_range.1 hb) (by simp) (by simp [subT, nmOk, nmAll, look, ren, rens])⟩
/-- A timer that is armed. -/
def armD (D : List Tm) (x : Int) (d : Nat) : List Tm := offT x D ++ [⟨x, d⟩]
def WT.arm (T : WT) (D : List Tm) (x : Int) (d : Nat) : WT := { T with rows := layR T.now (T.rows.map (offT x)) ⟨x, d⟩, mb := .mapb (kvT (armD D x d)) false }
theorem hasT_false {D : List Tm} {x : Int} (h : hasT D x = false) : ∀ t ∈ D, t.id ≠ x := fun t ht e => by
  unfold hasT at h
  rw [List.any_eq_false] at h
  exact h t ht (by simpa using e)
theorem offT_ne {D : List Tm} {x : Int} : ∀ t ∈ offT x D, t.id ≠ x := fun t ht => by simpa using (List.mem_filter.1 ht).2
theorem map_off_none {rows : List (List Tm)} {x : Int} (h : ∀ t ∈ rows.flatten, t.id ≠ x) : rows.map (offT x) = rows := by
  refine (List.map_congr_left fun r hr => ?_).trans (List.map_id rows)
  exact off_self fun t ht => h t (List.mem_flatten.2 ⟨r, hr, ht⟩)
def WT.cnl (T : WT) (D : List Tm) (dn : Bool) (x : Int) : WT := { T with rows := T.rows.map (offT x), mb := .mapb (kvT (offT x D)) (!hasT D x && dn) }
def cnlE (D : List Tm) (x : Int) : Int := bif hasT D x then 0 else 7
theorem wCancel_any (gl : Nat → AV) (T : WT) (D : List Tm) (dn : Bool) (hlen : T.rows.length = 65) (hmb : T.mb = .mapb (kvT D) dn) (hd : D.Pairwise fun a b => a.id ≠ b.id) (hp : T.rows.flatten.Perm D) (hrl : ∀ i, (T.row i).length ≤ 1000000) (x : Int) :
    GQ Try.prog gl 40 [.ptr 0 0, .int .i64 x] T.h 67 [0, 1] (fun _ : Unit => True) (fun _ => .int .i64 (cnlE D x)) (fun _ => (T.cnl D dn x).h) := by
  cases hx : hasT D x with
  | true =>
    have := wCancel_gq gl T D dn hlen hmb hd hrl x hx
    unfold WT.cnl cnlE
    rw [hx]; exact this
  | false =>
    have := wCancel_none gl T D dn hlen hmb x hx
    have hno := hasT_false hx
    have e : T.cnl D dn x = T := by
      unfold WT.cnl
      rw [hx, map_off_none fun t ht => hno t (hp.mem_iff.1 ht), off_self hno]
      show ({ T with mb := .mapb (kvT D) dn } : WT) = T
      rw [← hmb]
    rw [e]
    unfold cnlE
    rw [hx]; exact this
set_option maxHeartbeats 2000000 in
theorem wArm_gq (gl : Nat → AV) (T : WT) (D : List Tm) (dn : Bool) (hlen : T.rows.length = 65) (hmb : T.mb = .mapb (kvT D) dn) (hd : D.Pairwise fun a b => a.id ≠ b.id) (hp : T.rows.flatten.Perm D) (hD : D.length ≤ 100000) (hn : T.now ≤ 1099511627776) (x : Int) (d : Nat) (hdm : d ≤ 1099511627776) (hfull : hasT D x = true ∨ D.length < 400) :
    GQ Try.prog gl 35 [.ptr 0 0, .int .i64 x, .int .i64 d] T.h 67 [0, 1] (fun _ : Unit => True) (fun _ => .int .i64 0) (fun _ => (T.arm D x (max d T.now)).h) := by
  have hT := kvT_mapb hlen hmb
  refine ft_wArm.gq (of_decide_eq_true rfl) (fun q hq => live_of_nmB (((WT.HL hT).mem q hq).2)) (by simp) fun c hgh hg => ?_
  unfold T_wArm
  have hHi := WT.hHi hT
  have hL0 := WT.l0 T
  have hL1 := WT.l1 T
  rw [hmb] at hL1
  have h66 := WT.get66 hT
  have hcl := WT.len hT
  have hks := kvT_keys D
  have hki := keyI_ok x
  have hha := hasA_kvT D x
  have hga := getA_kvT D x
  have hkl := kvT_len D
  have hri : RI (fun _ _ => True) T.rows D := RI.T hlen hp
  have hrl : ∀ i, (T.row i).length ≤ 1000000 := fun i => by
    by_cases hi : i < 65
    · exact Nat.le_trans (hri.row_le hi) (by omega)
    · have : T.row i = [] := by unfold WT.row; simp [List.getD, hlen, show 65 ≤ i by omega]
      rw [this]; simp
  (refine XG ?_; ((try (repeat' with_reducible refine And.intro ?_ ?_)); (try any_goals (first | refine zm ?_ | exact CL | fail))))
  (refine xw_ifp (fun h1 => ?_) (fun h1 => ?_) <;> try exact h1.elim)
  (refine XG ?_; ((try (repeat' with_reducible refine And.intro ?_ ?_)); (try any_goals (first | refine zm ?_ | exact CL | fail))))
  (refine xw_ifp (fun h2 => ?_) (fun h2 => ?_) <;> try exact h2.elim)
  · omega
  (have zf1 := @hL0; have zf2 := @h66; refine XG ?_; clear zf1 zf2; ((try (repeat' with_reducible refine And.intro ?_ ?_)); (try any_goals (first | refine zm ?_ | exact CL | fail))))
  ((first | refine pr_lkp mtD ?_ | refine prD_lkp mtD ?_); (have zf1 := @hL1; have zf2 := @hks; have zf3 := @hki; have zf4 := @hga; have zf5 := @hha; have zf6 := @hL0; have zf7 := @h66; have zf8 := @hkl; refine XG ?_; clear zf1 zf2 zf3 zf4 zf5 zf6 zf7 zf8; ((try (repeat' with_reducible refine And.intro ?_ ?_)); (try any_goals (first | refine zm ?_ | exact CL | fail)))))
  (refine xw_ifp (fun h3 => ?_) (fun h3 => ?_) <;> try exact h3.elim)
  · rcases hfull with h | h
    · rw [h] at h3; simp at h3
    · omega
  (refine XG ?_; ((try (repeat' with_reducible refine And.intro ?_ ?_)); (try any_goals (first | refine zm ?_ | exact CL | fail))))
  have hcn := wCancel_any c.gl T D dn hlen hmb hd hp hrl x
  have hw1 : (T.cnl D dn x).wf := ⟨by simp [WT.cnl, hlen], kvT_nm 2 _⟩
  have hm1 : (T.cnl D dn x).mb = .mapb (kvT (offT x D)) (!hasT D x && dn) := rfl
  have hn1 : (T.cnl D dn x).now = T.now := rfl
  have hri1 := hri.filter fun t => !(t.id == x)
  have hrl1 : ∀ i, i < 65 → ((T.cnl D dn x).row i).length ≤ 1000000 := fun i hi => by
    have := hri1.row_le hi
    have h2 := List.length_filter_le (fun t : Tm => !(t.id == x)) D
    exact Nat.le_trans this (by omega)
  have harm : ∀ m, WT.lay { T.cnl D dn x with mb := .mapb (kvT (armD D x m)) false } ⟨x, m⟩ = T.arm D x m := fun m => rfl
  refine pr_wh (W := fun _ : Unit => T.cnl D dn x) hcn hT (fun _ _ => hw1) hgh (by simp [okN]) [(36, .ptr 0 0), (37, .int .i64 x), (0, .ptr 0 0), (1, .int .i64 x), (2, .int .i64 d)] [] 67 (To.sel (by (refine XG ?_; ((try (repeat' with_reducible refine And.intro ?_ ?_)); (try any_goals (first | refine zm ?_ | exact CL | fail))))) fun b => rfl) (by simp) ?_ (by simp [nmOk]) fun _ _ => ?_
  · (refine XG ?_; ((try (repeat' with_reducible refine And.intro ?_ ?_)); (try any_goals (first | refine zm ?_ | exact CL | fail))))
  generalize hT1 : T.cnl D dn x = T1 at *
  have hL01 := WT.l0 T1
  have hL11 := WT.l1 T1
  rw [hm1] at hL11
  have g01 := WT.get0 T1
  rw [hn1] at g01
  have g661 := WT.get66 hw1
  have hcl1 := WT.len hw1
  have hks1 := kvT_keys (offT x D)
  obtain ⟨M, hM, hMv, hgt⟩ : ∃ M, max d T.now = M ∧ M ≤ 1099511627776 ∧ ((((T.now : Int) > (d : Int)) = True ∧ M = T.now) ∨ (((T.now : Int) > (d : Int)) = False ∧ M = d)) := ⟨_, rfl, by omega, by
    by_cases h : d < T.now
    · left; exact ⟨eq_true (by omega), by omega⟩
    · right; exact ⟨eq_false (by omega), by omega⟩⟩
  rw [hM]
  have hup := updA_kvT (offT_ne (D := D) (x := x)) M
  have hmaxle := hMv
  rcases hgt with ⟨hgt, hMe⟩ | ⟨hgt, hMe⟩
  · have g01 : T1.cells.getD 0 .any = .int .i64 (M : Int) := by rw [g01, hMe]
    rw [← hMe] at hgt
    (have zf1 := @hL01; have zf2 := @g01; have zf3 := @g661; have zf4 := @hgt; refine XG ?_; clear zf1 zf2 zf3 zf4; ((try (repeat' with_reducible refine And.intro ?_ ?_)); (try any_goals (first | refine zm ?_ | exact CL | fail))))
    ((first | refine pr_upd mtD ?_ | refine prD_upd mtD ?_); (have zf1 := @hL11; have zf2 := @hks1; have zf3 := @hki; have zf4 := @hup; refine XG ?_; clear zf1 zf2 zf3 zf4; ((try (repeat' with_reducible refine And.intro ?_ ?_)); (try any_goals (first | refine zm ?_ | exact CL | fail)))))
    have hw2 : WT.wf { T1 with mb := .mapb (kvT (armD D x M)) false } := ⟨hw1.len, kvT_nm 2 _⟩
    have hlay := wLay_gq c.gl { T1 with mb := .mapb (kvT (armD D x M)) false } hw2 ⟨x, M⟩ (by show T1.now ≤ _; omega) hmaxle (hrl1 _ (slotOf_lt _ _))
    rw [harm] at hlay
    have hwa : (T.arm D x M).wf := ⟨by simp [WT.arm, layR, hlen], kvT_nm 2 _⟩
    refine pr_wh (W := fun _ : Unit => T.arm D x M) hlay hw2 (fun _ _ => hwa) hgh (by simp [okN]) [(51, .ptr 0 0), (54, .agg [.int .i64 x, .int .i64 (M : Int)])] [] 67 (To.trans (To.noDense (b := 1) (kvs := kvT (armD D x M)) (dn := !hasT D x && dn) rfl) (To.sel (by (refine XG ?_; ((try (repeat' with_reducible refine And.intro ?_ ?_)); (try any_goals (first | refine zm ?_ | exact CL | fail))))) fun b => ?_)) (by simp) ?_ (by simp [nmOk, nmAll]) fun _ _ => ?_
    · have hce : WT.cells { T1 with mb := .mapb (kvT (armD D x M)) false } = T1.cells := rfl
      show lookb (WT.h { T1 with mb := .mapb (kvT (armD D x M)) false }) 67 b = lookb ((1, .mapb (kvT (armD D x M)) false) :: (1, _) :: T1.h) 67 b
      simp only [lookb_cons, WT.lookh, hce]
      (repeat' split) <;> first | rfl | omega
    · (refine XG ?_; ((try (repeat' with_reducible refine And.intro ?_ ?_)); (try any_goals (first | refine zm ?_ | exact CL | fail))))
    (refine XG ?_; ((try (repeat' with_reducible refine And.intro ?_ ?_)); (try any_goals (first | refine zm ?_ | exact CL | fail))))
    exact ⟨(), To.wdrop (ex := []) hwa (by simp) (by simp) (by simp [subT, nmOk, look, ren])⟩
  · subst hMe
    (have zf1 := @hL01; have zf2 := @g01; have zf3 := @g661; have zf4 := @hgt; refine XG ?_; clear zf1 zf2 zf3 zf4; ((try (repeat' with_reducible refine And.intro ?_ ?_)); (try any_goals (first | refine zm ?_ | exact CL | fail))))
    ((first | refine pr_upd mtD ?_ | refine prD_upd mtD ?_); (have zf1 := @hL11; have zf2 := @hks1; have zf3 := @hki; have zf4 := @hup; refine XG ?_; clear zf1 zf2 zf3 zf4; ((try (repeat' with_reducible refine And.intro ?_ ?_)); (try any_goals (first | refine zm ?_ | exact CL | fail)))))
    have hw2 : WT.wf { T1 with mb := .mapb (kvT (armD D x M)) false } := ⟨hw1.len, kvT_nm 2 _⟩
    have hlay := wLay_gq c.gl { T1 with mb := .mapb (kvT (armD D x M)) false } hw2 ⟨x, M⟩ (by show T1.now ≤ _; omega) hmaxle (hrl1 _ (slotOf_lt _ _))
    rw [harm] at hlay
    have hwa : (T.arm D x M).wf := ⟨by simp [WT.arm, layR, hlen], kvT_nm 2 _⟩
    refine pr_wh (W := fun _ : Unit => T.arm D x M) hlay hw2 (fun _ _ => hwa) hgh (by simp [okN]) [(51, .ptr 0 0), (54, .agg [.int .i64 x, .int .i64 (M : Int)])] [] 67 (To.trans (To.noDense (b := 1) (kvs := kvT (armD D x M)) (dn := !hasT D x && dn) rfl) (To.sel (by (refine XG ?_; ((try (repeat' with_reducible refine And.intro ?_ ?_)); (try any_goals (first | refine zm ?_ | exact CL | fail))))) fun b => ?_)) (by simp) ?_ (by simp [nmOk, nmAll]) fun _ _ => ?_
    · have hce : WT.cells { T1 with mb := .mapb (kvT (armD D x M)) false } = T1.cells := rfl
      show lookb (WT.h { T1 with mb := .mapb (kvT (armD D x M)) false }) 67 b = lookb ((1, .mapb (kvT (armD D x M)) false) :: (1, _) :: T1.h) 67 b
      simp only [lookb_cons, WT.lookh, hce]
      (repeat' split) <;> first | rfl | omega
    · (refine XG ?_; ((try (repeat' with_reducible refine And.intro ?_ ?_)); (try any_goals (first | refine zm ?_ | exact CL | fail))))
    (refine XG ?_; ((try (repeat' with_reducible refine And.intro ?_ ?_)); (try any_goals (first | refine zm ?_ | exact CL | fail))))
    exact ⟨(), To.wdrop (ex := []) hwa (by simp) (by simp) (by simp [subT, nmOk, look, ren])⟩
set_option maxHeartbeats 1000000 in
theorem wArm_range (gl : Nat → AV) (T : WT) (hT : T.wf) (x d : Int) (hd : d < 0 ∨ 1099511627776 < d) : GQ Try.prog gl 35 [.ptr 0 0, .int .i64 x, .int .i64 d] T.h 67 [0, 1] (fun _ : Unit => True) (fun _ => .int .i64 2) (fun _ => T.h) := by
  refine ft_wArm.gq (of_decide_eq_true rfl) (fun q hq => live_of_nmB (((WT.HL hT).mem q hq).2)) (by simp) fun c hgh hg => ?_
  unfold T_wArm
  (refine XG ?_; ((try (repeat' with_reducible refine And.intro ?_ ?_)); (try any_goals (first | refine zm ?_ | exact CL | fail))))
  (refine xw_ifp (fun h1 => ?_) (fun h1 => ?_) <;> try exact h1.elim)
  (refine XG ?_; ((try (repeat' with_reducible refine And.intro ?_ ?_)); (try any_goals (first | refine zm ?_ | exact CL | fail))))
  (refine xw_ifp (fun h2 => ?_) (fun h2 => ?_) <;> try exact h2.elim)
  · (refine XG ?_; ((try (repeat' with_reducible refine And.intro ?_ ?_)); (try any_goals (first | refine zm ?_ | exact CL | fail))))
    exact ⟨(), To.wdrop (ex := []) hT (by simp) (by simp) (by simp [subT, nmOk, look, ren])⟩
  · omega
set_option maxHeartbeats 1000000 in
theorem wArm_full (gl : Nat → AV) (T : WT) (D : List Tm) (dn : Bool) (hlen : T.rows.length = 65) (hmb : T.mb = .mapb (kvT D) dn) (x d : Int) (hd : 0 ≤ d) (hdm : d ≤ 1099511627776) (hx : hasT D x = false) (hD : 400 ≤ D.length) : GQ Try.prog gl 35 [.ptr 0 0, .int .i64 x, .int .i64 d] T.h 67 [0, 1] (fun _ : Unit => True) (fun _ => .int .i64 6) (fun _ => T.h) := by
  have hT := kvT_mapb hlen hmb
  refine ft_wArm.gq (of_decide_eq_true rfl) (fun q hq => live_of_nmB (((WT.HL hT).mem q hq).2)) (by simp) fun c hgh hg => ?_
  unfold T_wArm
  have hL0 := WT.l0 T
  have hL1 := WT.l1 T
  rw [hmb] at hL1
  have h66 := WT.get66 hT
  have hcl := WT.len hT
  have hks := kvT_keys D
  have hki := keyI_ok x
  have hha := hasA_kvT D x
  have hga := getA_kvT D x
  have hkl := kvT_len D
  (refine XG ?_; ((try (repeat' with_reducible refine And.intro ?_ ?_)); (try any_goals (first | refine zm ?_ | exact CL | fail))))
  (refine xw_ifp (fun h1 => ?_) (fun h1 => ?_) <;> try exact h1.elim)
  (refine XG ?_; ((try (repeat' with_reducible refine And.intro ?_ ?_)); (try any_goals (first | refine zm ?_ | exact CL | fail))))
  (refine xw_ifp (fun h2 => ?_) (fun h2 => ?_) <;> try exact h2.elim)
  · omega
  (have zf1 := @hL0; have zf2 := @h66; refine XG ?_; clear zf1 zf2; ((try (repeat' with_reducible refine And.intro ?_ ?_)); (try any_goals (first | refine zm ?_ | exact CL | fail))))
  ((first | refine pr_lkp mtD ?_ | refine prD_lkp mtD ?_); (have zf1 := @hL1; have zf2 := @hks; have zf3 := @hki; have zf4 := @hga; have zf5 := @hha; have zf6 := @hL0; have zf7 := @h66; have zf8 := @hkl; refine XG ?_; clear zf1 zf2 zf3 zf4 zf5 zf6 zf7 zf8; ((try (repeat' with_reducible refine And.intro ?_ ?_)); (try any_goals (first | refine zm ?_ | exact CL | fail)))))
  (refine xw_ifp (fun h3 => ?_) (fun h3 => ?_) <;> try exact h3.elim)
  · (refine XG ?_; ((try (repeat' with_reducible refine And.intro ?_ ?_)); (try any_goals (first | refine zm ?_ | exact CL | fail))))
    exact ⟨(), To.wdrop (ex := []) hT (by simp) (by simp) (by simp [subT, nmOk, look, ren])⟩
  · rw [hx] at h3; simp at h3; omega
set_option maxHeartbeats 1000000 in
theorem wAdv_range (gl : Nat → AV) (T : WT) (hT : T.wf) (d : Int) (hd : d < T.now ∨ 1099511627776 < d) : GQ Try.prog gl 36 [.ptr 0 0, .int .i64 d] T.h 67 [0, 1] (fun _ : Unit => True) (fun _ => .tup [.nils, .int .i64 2]) (fun _ => T.h) := by
  refine ft_wAdv.gq (of_decide_eq_true rfl) (fun q hq => live_of_nmB (((WT.HL hT).mem q hq).2)) (by simp) fun c hgh hg => ?_
  unfold T_wAdv
  have hL0 := WT.l0 T
  have g0 := WT.get0 T
  have hcl := WT.len hT
  (refine XG ?_; ((try (repeat' with_reducible refine And.intro ?_ ?_)); (try any_goals (first | refine zm ?_ | exact CL | fail))))
  (refine xw_ifp (fun h1 => ?_) (fun h1 => ?_) <;> try exact h1.elim)
  (have zf1 := @hL0; have zf2 := @g0; refine XG ?_; clear zf1 zf2; ((try (repeat' with_reducible refine And.intro ?_ ?_)); (try any_goals (first | refine zm ?_ | exact CL | fail))))
  (refine xw_ifp (fun h2 => ?_) (fun h2 => ?_) <;> try exact h2.elim)
  · (refine XG ?_; ((try (repeat' with_reducible refine And.intro ?_ ?_)); (try any_goals (first | refine zm ?_ | exact CL | fail))))
    exact ⟨(), To.wdrop (ex := []) hT (by simp) (by simp) (by simp [subT, nmOk, nmAll, look, ren, rens])⟩
  · omega
end Go.Proofs.Ytphaicaobepimaa
