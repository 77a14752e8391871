/- The map of a wheel; what Cancel does. No conditions but the ones that stand in each. -/
import Derived.Test.YtphaicaobepimaaVf
import Derived.Test.YtphaicaobepimaaVe
namespace Go.Proofs.Ytphaicaobepimaa
set_option linter.all false
set_option linter.unusedSimpArgs false
open Go.RowKit

def kvT (D : List Tm) : List (AV × AV) := D.map fun t => (.int .i64 t.id, .int .i64 t.due)
theorem kvT_len (D : List Tm) : (kvT D).length = D.length := by simp [kvT]
theorem kvT_keys (D : List Tm) : KeysOk false [.int .i64] (kvT D) := fun q hq => by
  obtain ⟨t, _, rfl⟩ := List.mem_map.1 hq
  rfl
theorem keyI_ok (x : Int) : KeyOk false [.int .i64] (.int .i64 x) := rfl
theorem fIx_kvT (D : List Tm) (x : Int) : fIx (kvT D) (.int .i64 x) = D.findIdx? fun t => t.id == x := by
  unfold fIx kvT
  induction D with
  | nil => rfl
  | cons t D ih =>
    simp only [List.map_cons, List.findIdx?_cons]
    rw [ih]
    by_cases h : t.id = x
    · simp [h]
    · simp [h]
def hasT (D : List Tm) (x : Int) : Bool := D.any fun t => t.id == x
def dueT (D : List Tm) (x : Int) : Nat := match D.find? (fun t => t.id == x) with
  | some t => t.due
  | none => 0
theorem hasA_kvT (D : List Tm) (x : Int) : hasA (kvT D) (.int .i64 x) = hasT D x := by
  unfold hasA hasT
  rw [fIx_kvT]
  induction D with
  | nil => rfl
  | cons t D ih =>
    rw [List.findIdx?_cons, List.any_cons]
    cases h : t.id == x with
    | true => simp
    | false => simpa using ih
theorem getA_kvT (D : List Tm) (x : Int) : getA (kvT D) (.int .i64 x) (.int .i64 0) = .int .i64 (dueT D x) := by
  unfold getA dueT
  rw [fIx_kvT]
  induction D with
  | nil => rfl
  | cons t D ih =>
    rw [List.findIdx?_cons, List.find?_cons]
    cases h : t.id == x with
    | true => simp [kvT]
    | false =>
      simp only [cond_false, Bool.false_eq_true, if_false]
      rw [← ih]
      cases D.findIdx? fun t => t.id == x with
      | none => rfl
      | some i => simp [kvT]
theorem off_self {D : List Tm} {x : Int} (h : ∀ t ∈ D, t.id ≠ x) : offT x D = D := List.filter_eq_self.2 fun t ht => by simpa using h t ht
theorem delA_kvT : ∀ (D : List Tm) (x : Int), D.Pairwise (fun a b => a.id ≠ b.id) → delA (kvT D) (.int .i64 x) = kvT (offT x D) := fun D x hd => by
  have key : ∀ D : List Tm, D.Pairwise (fun a b => a.id ≠ b.id) → (match D.findIdx? (fun t => t.id == x) with | some i => D.eraseIdx i | none => D) = offT x D := fun D => by
    induction D with
    | nil => intro _; rfl
    | cons t D ih =>
      intro hd
      have h2 := ih (List.Pairwise.of_cons hd)
      rw [List.findIdx?_cons]
      unfold offT
      rw [List.filter_cons]
      cases h : t.id == x with
      | true =>
        have hx : t.id = x := by simpa using h
        have := off_self (x := x) fun y hy e => List.rel_of_pairwise_cons hd hy (hx.trans e.symm)
        unfold offT at this
        simp [this]
      | false =>
        unfold offT at h2
        simp only [Bool.not_false, if_true, Bool.false_eq_true, if_false]
        rw [← h2]
        cases D.findIdx? fun t => t.id == x <;> simp
  rw [← key D hd]
  unfold delA
  rw [fIx_kvT]
  cases D.findIdx? fun t => t.id == x with
  | none => rfl
  | some i =>
    have em : ∀ (l : List Tm) (i : Nat), (kvT l).eraseIdx i = kvT (l.eraseIdx i) := fun l => by
      induction l with
      | nil => intro i; rfl
      | cons t l ih =>
        intro i
        cases i with
        | zero => rfl
        | succ i =>
          have := ih i
          simp only [kvT, List.map_cons, List.eraseIdx_cons_succ] at this ⊢
          rw [this]
    exact em D i
theorem updA_kvT {D : List Tm} {x : Int} (h : ∀ t ∈ D, t.id ≠ x) (n : Nat) : updA (kvT D) (.int .i64 x) (.int .i64 n) = kvT (D ++ [⟨x, n⟩]) := by
  unfold updA
  rw [fIx_kvT, List.findIdx?_eq_none_iff.2 fun t ht => by simpa using h t ht]
  simp [kvT]
theorem kvT_nm (n : Nat) (D : List Tm) : ∀ q ∈ kvT D, nmOk n q.1 ∧ nmOk n q.2 := fun q hq => by
  obtain ⟨t, _, rfl⟩ := List.mem_map.1 hq
  simp [nmOk]
theorem kvT_mapb {T : WT} {D : List Tm} {dn : Bool} (hl : T.rows.length = 65) (h : T.mb = .mapb (kvT D) dn) : T.wf := ⟨hl, by rw [h]; exact kvT_nm 2 D⟩
/-- The rows up to one without a number's timers. -/
def WT.upto (T : WT) (x : Int) (n : Nat) : WT := { T with rows := (T.rows.take n).map (offT x) ++ T.rows.drop n }
theorem WT.upto_wf {T : WT} (h : T.wf) (x : Int) (n : Nat) : (T.upto x n).wf := ⟨by
  have := h.len
  simp [WT.upto]; omega, h.mb⟩
theorem WT.upto_row {T : WT} (x : Int) (n i : Nat) : (T.upto x n).row i = if i < n then offT x (T.row i) else T.row i := by
  unfold WT.row WT.upto
  simp only [List.getD, List.getElem?_append, List.length_map, List.length_take]
  by_cases h1 : i < n
  · rw [if_pos h1]
    by_cases h2 : i < T.rows.length
    · rw [if_pos (by omega), List.getElem?_map, List.getElem?_take_of_lt h1, List.getElem?_eq_getElem h2]; rfl
    · rw [if_neg (by omega), List.getElem?_drop, List.getElem?_eq_none (by omega), List.getElem?_eq_none (by omega)]; rfl
  · rw [if_neg h1]
    by_cases h2 : i < T.rows.length
    · rw [if_neg (by omega), List.getElem?_drop]; congr 2; omega
    · rw [if_neg (by omega), List.getElem?_drop, List.getElem?_eq_none (by omega), List.getElem?_eq_none (by omega)]
theorem rows_ext {l l' : List (List Tm)} (hl : l.length = l'.length) (h : ∀ j, l.getD j [] = l'.getD j []) : l = l' := by
  refine List.ext_getElem hl fun j h1 h2 => ?_
  have := h j
  simpa [List.getD, h1, h2] using this
theorem WT.upto_step {T : WT} (h : T.wf) (x : Int) {n : Nat} (hn : n < 65) : T.upto x (n + 1) = (T.upto x n).put n (offT x (T.row n)) := by
  have hl := h.len
  have e : (T.upto x (n + 1)).rows = ((T.upto x n).put n (offT x (T.row n))).rows := by
    refine rows_ext (by simp [WT.upto, WT.put]; omega) fun j => ?_
    have h1 := WT.upto_row (T := T) x (n + 1) j
    have h2 := WT.row_put (WT.upto_wf h x n) hn (offT x (T.row n)) j
    rw [WT.upto_row] at h2
    unfold WT.row at h1 h2 ⊢
    rw [h1, h2]
    by_cases e : j = n
    · subst e; rw [if_pos (by omega), if_pos rfl]
    · rw [if_neg e]
      by_cases e2 : j < n
      · rw [if_pos e2, if_pos (by omega)]
      · rw [if_neg e2, if_neg (by omega)]
  show ({ T with rows := (T.upto x (n + 1)).rows } : WT) = { T with rows := ((T.upto x n).put n (offT x (T.row n))).rows }
  rw [e]
theorem WT.upto_all {T : WT} (h : T.wf) (x : Int) : T.upto x 65 = { T with rows := T.rows.map (offT x) } := by
  have hl := h.len
  unfold WT.upto
  rw [List.take_of_length_le (by omega), List.drop_of_length_le (by omega), List.append_nil]
theorem WT.look_put {T : WT} (h : T.wf) {i : Nat} (hi : i < 65) (l : List Tm) (n b : Nat) : lookb (T.put i l).h n b = if 0 = b then .cells (T.cells.set (i + 1) (.sl 2 (2 + i) 0 l.length l.length)) else if 2 + i = b then .cells (tms l) else lookb T.h n b := by
  have hl := h.len
  rw [WT.lookh, WT.lookh, WT.setI h hi]
  by_cases h0 : 0 = b
  · rw [if_pos h0, if_pos h0]
  rw [if_neg h0, if_neg h0]
  by_cases h1 : 1 = b
  · rw [if_pos h1, if_neg (by omega), if_neg h0, if_pos h1]; rfl
  rw [if_neg h1]
  have hlen : (T.put i l).rows.length = T.rows.length := by simp [WT.put]
  rw [hlen]
  by_cases h2 : 2 + i = b
  · rw [if_pos h2, if_pos (by omega), WT.row_put h hi, if_pos (by omega)]
  · rw [if_neg h2, if_neg h0, if_neg h1]
    by_cases h3 : 2 ≤ b ∧ b < 2 + T.rows.length
    · rw [if_pos h3, if_pos h3, WT.row_put h hi, if_neg (by omega)]
    · rw [if_neg h3, if_neg h3]
set_option maxHeartbeats 4000000 in
set_option maxRecDepth 20000 in
theorem wCancel_gq (gl : Nat → AV) (T : WT) (D : List Tm) (dn : Bool) (hlen : T.rows.length = 65) (hmb : T.mb = .mapb (kvT D) dn) (hd : D.Pairwise fun a b => a.id ≠ b.id) (hrl : ∀ i, (T.row i).length ≤ 1000000) (x : Int) (hx : hasT D x = true) :
    GQ Try.prog gl 40 [.ptr 0 0, .int .i64 x] T.h 67 [0, 1] (fun _ : Unit => True) (fun _ => .int .i64 0) (fun _ => { T with rows := T.rows.map (offT x), mb := .mapb (kvT (offT x D)) false }.h) := by
  have hT := kvT_mapb hlen hmb
  refine ft_wCancel.gq (of_decide_eq_true rfl) (fun q hq => live_of_nmB (((WT.HL hT).mem q hq).2)) (by simp) fun c hgh hg => ?_
  unfold T_wCancel
  have hHi := fun n b hb => WT.rowHi hT n (b := b) hb
  have h0 := WT.get0 T
  have h66 := WT.get66 hT
  have hl := WT.len hT
  have hTh : T.h = (0, .cells T.cells) :: (1, .mapb (kvT D) dn) :: rowH T.rows 0 := by rw [← hmb]; rfl
  have hks := kvT_keys D
  have hki := keyI_ok x
  have hha := hasA_kvT D x
  have hga := getA_kvT D x
  have hde := delA_kvT D x hd
  rw [hTh]
  (have zf1 := @hHi; refine XG ?_; clear zf1; ((try (repeat' with_reducible refine And.intro ?_ ?_)); (try any_goals (first | refine zm ?_ | exact CL | fail))))
  (refine xw_ifp (fun h1 => ?_) (fun h1 => ?_) <;> try exact h1.elim)
  (have zf1 := @hHi; have zf2 := @h66; refine XG ?_; clear zf1 zf2; ((try (repeat' with_reducible refine And.intro ?_ ?_)); (try any_goals (first | refine zm ?_ | exact CL | fail))))
  ((first | refine pr_lkp mtD ?_ | refine prD_lkp mtD ?_); (have zf1 := @hHi; have zf2 := @hks; have zf3 := @hki; have zf4 := @hga; have zf5 := @hha; have zf6 := @hx; refine XG ?_; clear zf1 zf2 zf3 zf4 zf5 zf6; ((try (repeat' with_reducible refine And.intro ?_ ?_)); (try any_goals (first | refine zm ?_ | exact CL | fail)))))
  (refine xw_ifp (fun h2 => ?_) (fun h2 => ?_) <;> try exact h2.elim)
  (have zf1 := @hHi; have zf2 := @h66; refine XG ?_; clear zf1 zf2; ((try (repeat' with_reducible refine And.intro ?_ ?_)); (try any_goals (first | refine zm ?_ | exact CL | fail))))
  ((first | refine pr_del mtD ?_ | refine prD_del mtD ?_); (have zf1 := @hHi; have zf2 := @hks; have zf3 := @hki; have zf4 := @hde; refine XG ?_; clear zf1 zf2 zf3 zf4; ((try (repeat' with_reducible refine And.intro ?_ ?_)); (try any_goals (first | refine zm ?_ | exact CL | fail)))))
  (refine XG ?_; ((try (repeat' with_reducible refine And.intro ?_ ?_)); (try any_goals (first | refine zm ?_ | exact CL | fail))))
  have hT1 : WT.wf { T with mb := .mapb (kvT (offT x D)) false } := ⟨hlen, kvT_nm 2 _⟩
  have hrl1 : ∀ i, (WT.row { T with mb := .mapb (kvT (offT x D)) false } i).length ≤ 1000000 := hrl
  generalize hT1e : ({ T with mb := .mapb (kvT (offT x D)) false } : WT) = T1 at hT1 hrl1
  refine loop_ruleS (fun i : Nat => i ≤ 4) (fun i => ⟨[(0, .ptr 0 0), (7, .cl 66 [.ptr 67 0]), (29, .int .i64 i)], (67, .cells [.int .i64 x]) :: (T1.upto x (16 * i)).h, 68⟩) (fun i => 4 - i) ft_wCancel.mixed [0, 1] hgh
    ⟨0, by omega, To.sel (by (refine XG ?_; ((try (repeat' with_reducible refine And.intro ?_ ?_)); (try any_goals (first | refine zm ?_ | exact CL | fail))))) fun b => ?_⟩ fun i hi => ?_
  · have e : T1.upto x (16 * 0) = T1 := by simp [WT.upto]
    show lookb ((67, .cells [.int .i64 x]) :: (T1.upto x (16 * 0)).h) 68 b = _
    rw [e, ← hT1e]
    show lookb ((67, .cells [.int .i64 x]) :: (0, .cells T.cells) :: (1, .mapb (kvT (offT x D)) false) :: rowH T.rows 0) 68 b = _
    simp only [lookb_cons]
    (repeat' split) <;> first | rfl | omega
  (refine XG ?_; ((try (repeat' with_reducible refine And.intro ?_ ?_)); (try any_goals (first | refine zm ?_ | exact CL | fail))))
  (refine xw_ifp (fun h3 => ?_) (fun h3 => ?_) <;> try exact h3.elim)
  · (refine XG ?_; ((try (repeat' with_reducible refine And.intro ?_ ?_)); (try any_goals (first | refine zm ?_ | exact CL | fail))))
    refine loop_ruleS (fun k : Nat => k ≤ 16) (fun k => ⟨[(0, .ptr 0 0), (7, .cl 66 [.ptr 67 0]), (8, .int .i64 i), (29, .int .i64 i), (32, .int .i64 k)], (67, .cells [.int .i64 x]) :: (T1.upto x (16 * i + k)).h, 68⟩) (fun k => 16 - k) ft_wCancel.mixed [0, 1] hgh
      ⟨0, by omega, To.sel (by (refine XG ?_; ((try (repeat' with_reducible refine And.intro ?_ ?_)); (try any_goals (first | refine zm ?_ | exact CL | fail))))) fun b => rfl⟩ fun k hk => ?_
    (refine XG ?_; ((try (repeat' with_reducible refine And.intro ?_ ?_)); (try any_goals (first | refine zm ?_ | exact CL | fail))))
    (refine xw_ifp (fun h4 => ?_) (fun h4 => ?_) <;> try exact h4.elim)
    · have hi65 : 16 * i + k < 65 := by omega
      have hTn := WT.upto_wf hT1 x (16 * i + k)
      have hst := WT.upto_step hT1 x hi65
      have hrow1 := WT.upto_row (T := T1) x (16 * i + k) (16 * i + k)
      rw [if_neg (by omega)] at hrow1
      have hgs := (delT_gs c.gl (T1.row (16 * i + k)) (hrl1 _) x).wk (Wk.cap _ _ _ _ _)
      have htl := tms_len (T1.row (16 * i + k))
      generalize hTe : T1.upto x (16 * i + k) = Tn at *
      have hget := WT.getI hTn hi65
      have hrow := fun n => WT.rowI hTn hi65 n
      rw [hrow1] at hget hrow
      have hHn := fun n b hb => WT.rowHi hTn n (b := b) hb
      have hl2 := WT.len hTn
      have hTh2 : Tn.h = (0, .cells Tn.cells) :: (1, Tn.mb) :: rowH Tn.rows 0 := rfl
      generalize hre : T1.row (16 * i + k) = r at *
      rw [hTh2]
      rw [show 16 * i + k + 1 = 1 + i * 16 + k by omega] at hget
      generalize hnm : 2 + (16 * i + k) = nm at hget hrow
      have hb1 : (67 == nm) = false := beq_eq_false_iff_ne.2 (by omega)
      have hb2 : (0 == nm) = false := beq_eq_false_iff_ne.2 (by omega)
      have hb3 : (1 == nm) = false := beq_eq_false_iff_ne.2 (by omega)
      have hb4 : (nm == 67) = false := beq_eq_false_iff_ne.2 (by omega)
      have hb5 : (nm == 0) = false := beq_eq_false_iff_ne.2 (by omega)
      (have zf1 := @hHn; have zf2 := @hget; refine XG ?_; clear zf1 zf2; ((try (repeat' with_reducible refine And.intro ?_ ?_)); (try any_goals (first | refine zm ?_ | exact CL | fail))))
      ((first | refine pr_gs (ins := [nm, 67]) hgs ?_ ?_ | refine prD_gs (ins := [nm, 67]) hgs ?_ ?_ | refine pr_gsv (ins := [nm, 67]) hgs ?_ ?_ | refine prD_gsv (ins := [nm, 67]) hgs ?_ ?_) <;> (have zf1 := @hHn; have zf2 := @hrow; have zf3 := @hb1; have zf4 := @hb2; have zf5 := @hb3; have zf6 := @hb4; have zf7 := @hb5; refine XG ?_; clear zf1 zf2 zf3 zf4 zf5 zf6 zf7; (try first | exact rfl | exact True.intro); ((try (repeat' with_reducible refine And.intro ?_ ?_)); (try any_goals (first | refine zm ?_ | exact CL | fail)))))
      · have : Nat.beq nm 67 = false := by
          cases h : Nat.beq nm 67 with
          | false => rfl
          | true => exact absurd (Nat.eq_of_beq_eq_true h) (by omega)
        rw [this]; rfl
      · simp [drawOk, clashAll, clash, hb1, hb2, hb3, hb4, hb5]
        (repeat' refine And.intro ?_ ?_) <;> first | decide | (left; omega) | omega
      · refine ⟨k + 1, by omega, To.sel (by (refine XG ?_; ((try (repeat' with_reducible refine And.intro ?_ ?_)); (try any_goals (first | refine zm ?_ | exact CL | fail))))) fun b => ?_, by omega⟩
        rw [show 16 * i + (k + 1) = 16 * i + k + 1 by omega, hst, ← hTh2]
        simp only [lookb_cons, WT.look_put hTn hi65, hnm, show 16 * i + k + 1 = 1 + i * 16 + k by omega]
        (repeat' split) <;> first | rfl | omega
    · obtain rfl : k = 16 := by omega
      (refine XG ?_; ((try (repeat' with_reducible refine And.intro ?_ ?_)); (try any_goals (first | refine zm ?_ | exact CL | fail))))
      refine ⟨i + 1, by omega, To.sel (by (refine XG ?_; ((try (repeat' with_reducible refine And.intro ?_ ?_)); (try any_goals (first | refine zm ?_ | exact CL | fail))))) fun b => ?_, by omega⟩
      rw [show 16 * (i + 1) = 16 * i + 16 by omega]
  · obtain rfl : i = 4 := by omega
    have hTn := WT.upto_wf hT1 x (16 * 4)
    have hst := WT.upto_step hT1 x (n := 64) (by omega)
    have hall := WT.upto_all hT1 x
    have hrow1 := WT.upto_row (T := T1) x (16 * 4) 64
    rw [if_neg (by omega)] at hrow1
    have hgs := (delT_gs c.gl (T1.row 64) (hrl1 _) x).wk (Wk.cap _ _ _ _ _)
    have htl := tms_len (T1.row 64)
    have hfin : ({ T with rows := T.rows.map (offT x), mb := .mapb (kvT (offT x D)) false } : WT) = T1.upto x 65 := by rw [hall, ← hT1e]
    rw [hfin, hst]
    generalize hTe : T1.upto x (16 * 4) = Tn at *
    have hget := WT.getI hTn (i := 64) (by omega)
    have hrow := fun n => WT.rowI hTn (i := 64) (by omega) n
    rw [hrow1] at hget hrow
    have hHn := fun n b hb => WT.rowHi hTn n (b := b) hb
    have hl2 := WT.len hTn
    have hTh2 : Tn.h = (0, .cells Tn.cells) :: (1, Tn.mb) :: rowH Tn.rows 0 := rfl
    generalize hre : T1.row 64 = r at *
    simp only [Nat.reduceAdd] at hget hrow
    rw [hTh2]
    (have zf1 := @hHn; have zf2 := @hget; refine XG ?_; clear zf1 zf2; ((try (repeat' with_reducible refine And.intro ?_ ?_)); (try any_goals (first | refine zm ?_ | exact CL | fail))))
    ((first | refine pr_gs (ins := [66, 67]) hgs ?_ ?_ | refine prD_gs (ins := [66, 67]) hgs ?_ ?_ | refine pr_gsv (ins := [66, 67]) hgs ?_ ?_ | refine prD_gsv (ins := [66, 67]) hgs ?_ ?_) <;> (have zf1 := @hHn; have zf2 := @hrow; refine XG ?_; clear zf1 zf2; (try first | exact rfl | exact True.intro); ((try (repeat' with_reducible refine And.intro ?_ ?_)); (try any_goals (first | refine zm ?_ | exact CL | fail)))))
    · decide
    refine ⟨(), To.trans (To.sel (t' := [(0, .int .i64 0)]) (h' := (67, .cells [.int .i64 x]) :: (Tn.put 64 (offT x r)).h) (n' := 68) (by (refine XG ?_; ((try (repeat' with_reducible refine And.intro ?_ ?_)); (try any_goals (first | refine zm ?_ | exact CL | fail))))) fun b => ?_) ?_⟩
    · rw [← hTh2]
      simp only [lookb_cons, WT.look_put hTn (i := 64) (by omega)]
      (repeat' split) <;> first | rfl | omega
    · exact To.wdrop (ex := [(67, .cells [.int .i64 x])]) (WT.put_wf hTn _ _) (by simp) (by simp) (by simp [subT, nmOk, look, ren])
end Go.Proofs.Ytphaicaobepimaa
