/- What lay does. No conditions but the ones that stand in each. -/
import Derived.Test.YtphaicaobepimaaVd
namespace Go.Proofs.Ytphaicaobepimaa
set_option linter.all false
set_option linter.unusedSimpArgs false
open Go.RowKit

def WT.lay (T : WT) (t : Tm) : WT := T.put (slotOf T.now t.due) (T.row (slotOf T.now t.due) ++ [t])
theorem WT.lay_wf {T : WT} (h : T.wf) (t : Tm) : (T.lay t).wf := WT.put_wf h _ _
theorem slotOf_step {now due k : Nat} (h : slotOf now due = slotF now due (4 - k) k) (hk : k < 4) : slotOf now due = if due / 16 ^ k < now / 16 ^ k + 16 then k * 16 + due / 16 ^ k % 16 else slotF now due (4 - (k + 1)) (k + 1) := by
  rw [h, show 4 - k = (4 - (k + 1)) + 1 by omega]; rfl
theorem tdivN (a b : Nat) : Int.tdiv (a : Int) (b : Int) = ((a / b : Nat) : Int) := by rw [Int.tdiv_eq_ediv_of_nonneg (by omega)]; rfl
theorem tmodN (a b : Nat) : Int.tmod (a : Int) (b : Int) = ((a % b : Nat) : Int) := by rw [Int.tmod_eq_emod_of_nonneg (by omega)]; rfl
set_option maxHeartbeats 4000000 in
set_option maxRecDepth 20000 in
theorem wLay_gq (gl : Nat → AV) (T : WT) (hT : T.wf) (t : Tm) (hn : T.now ≤ 1099511627776) (hd : t.due ≤ 1099511627776) (hlen : (T.row (slotOf T.now t.due)).length ≤ 1000000) :
    GQ Try.prog gl 62 [.ptr 0 0, .agg [.int .i64 t.id, .int .i64 t.due]] T.h 67 [0, 1] (fun _ : Unit => True) (fun _ => .tup []) (fun _ => (T.lay t).h) := by
  refine ft_wLay.gq (of_decide_eq_true rfl) (fun q hq => live_of_nmB (((WT.HL hT).mem q hq).2)) (by simp) fun c hgh hg => ?_
  unfold T_wLay
  have hHi := fun n b hb => WT.rowHi hT n (b := b) hb
  have h0 := WT.get0 T
  have hl := WT.len hT
  obtain ⟨id, due⟩ := t
  dsimp only at hd hlen ⊢
  have hTh : T.h = (0, .cells T.cells) :: (1, T.mb) :: rowH T.rows 0 := rfl
  rw [hTh]
  (have zf1 := @hHi; refine XG ?_; clear zf1; ((try (repeat' with_reducible refine And.intro ?_ ?_)); (try any_goals (first | refine zm ?_ | exact CL | fail))))
  refine loop_ruleS (fun k : Nat => k ≤ 4 ∧ slotOf T.now due = slotF T.now due (4 - k) k) (fun k => ⟨[(0, .ptr 0 0), (3, .ptr 67 0), (4, .int .i64 ((16 ^ k : Nat) : Int)), (7, .int .i64 k)], (67, .cells [.int .i64 id, .int .i64 due]) :: T.h, 68⟩) (fun k => 4 - k) ft_wLay.mixed [0, 1] hgh
    ⟨0, ⟨by omega, rfl⟩, To.sel (by (refine XG ?_; ((try (repeat' with_reducible refine And.intro ?_ ?_)); (try any_goals (first | refine zm ?_ | exact CL | fail))))) fun _ => rfl⟩ fun k hk => ?_
  obtain ⟨hk4, hsl⟩ := hk
  obtain rfl | rfl | rfl | rfl | rfl : k = 0 ∨ k = 1 ∨ k = 2 ∨ k = 3 ∨ k = 4 := by omega
  · have hq1 : Int.tdiv (due : Int) 1 = ((due / 1 : Nat) : Int) := tdivN due 1
    have hq2 : Int.tdiv (T.now : Int) 1 = ((T.now / 1 : Nat) : Int) := tdivN T.now 1
    have hp : ((16 ^ 0 : Nat) : Int) = 1 := rfl
    have hp2 : ((16 ^ 1 : Nat) : Int) = 16 := rfl
    have hm : Int.tmod ((due / 1 : Nat) : Int) 16 = ((due / 1 % 16 : Nat) : Int) := tmodN _ 16
    rw [hTh, hp]
    (have zf1 := @hHi; have zf2 := @h0; refine XG ?_; clear zf1 zf2; ((try (repeat' with_reducible refine And.intro ?_ ?_)); (try any_goals (first | refine zm ?_ | exact CL | fail))))
    (refine xw_ifp (fun h1 => ?_) (fun h1 => ?_) <;> try exact h1.elim)
    (have zf1 := @hHi; have zf2 := @h0; have zf3 := @hq1; have zf4 := @hq2; refine XG ?_; clear zf1 zf2 zf3 zf4; ((try (repeat' with_reducible refine And.intro ?_ ?_)); (try any_goals (first | refine zm ?_ | exact CL | fail))))
    (refine xw_ifp (fun h2 => ?_) (fun h2 => ?_) <;> try exact h2.elim)
    · (have zf1 := @hHi; have zf2 := @h0; have zf3 := @hq1; have zf4 := @hm; refine XG ?_; clear zf1 zf2 zf3 zf4; ((try (repeat' with_reducible refine And.intro ?_ ?_)); (try any_goals (first | refine zm ?_ | exact CL | fail))))
      have hs1 : slotOf T.now due = due / 1 % 16 := by rw [slotOf_step hsl (by omega), if_pos (by simp only [Nat.reducePow]; omega)]; simp only [Nat.zero_mul, Nat.zero_add, Nat.reducePow]
      have hsp : due / 1 % 16 < 16 := Nat.mod_lt _ (by omega)
      rw [hs1] at hlen
      have hlay : T.lay ⟨id, due⟩ = T.put (due / 1 % 16) (T.row (due / 1 % 16) ++ [⟨id, due⟩]) := by unfold WT.lay; rw [hs1]
      rw [hlay]
      generalize due / 1 % 16 = sp at *
      have hget := WT.getI hT (i := sp) (by omega)
      have hrow := fun n => WT.rowI hT (i := sp) (by omega) n
      rw [show sp + 1 = 1 + sp by omega] at hget
      have htl := tms_len (T.row (sp))
      have hb1 : ((68 : Nat) == 2 + sp) = false := beq_eq_false_iff_ne.2 (by omega)
      have hb2 : ((67 : Nat) == 2 + sp) = false := beq_eq_false_iff_ne.2 (by omega)
      have hb3 : ((0 : Nat) == 2 + sp) = false := beq_eq_false_iff_ne.2 (by omega)
      have hb4 : ((1 : Nat) == 2 + sp) = false := beq_eq_false_iff_ne.2 (by omega)
      have hb5 : ((2 + sp : Nat) == 0) = false := beq_eq_false_iff_ne.2 (by omega)
      ((first | apply pr_app | apply prD_app | apply pr_bsl | apply prD_bsl | apply pr_s2b | apply prD_s2b); (have zf1 := @hHi; have zf2 := @hget; refine XG ?_; clear zf1 zf2; ((try (repeat' with_reducible refine And.intro ?_ ?_)); (try any_goals (first | refine zm ?_ | exact CL | fail)))))
      ((first | apply pr_app | apply prD_app | apply pr_bsl | apply prD_bsl | apply pr_s2b | apply prD_s2b); (have zf1 := @hHi; have zf2 := @hget; have zf3 := @hb1; have zf4 := @hb2; have zf5 := @hb3; have zf6 := @hb4; have zf7 := @hrow; have zf8 := @htl; have zf9 := @hb5; refine XG ?_; clear zf1 zf2 zf3 zf4 zf5 zf6 zf7 zf8 zf9; ((try (repeat' with_reducible refine And.intro ?_ ?_)); (try any_goals (first | refine zm ?_ | exact CL | fail)))))
      · simp [drawOk, clashAll, clash, hb1, hb2, hb3, hb4, hb5]
        (repeat' refine And.intro ?_ ?_) <;> first | decide | (left; omega)
      · (refine XG ?_; ((try (repeat' with_reducible refine And.intro ?_ ?_)); (try any_goals (first | refine zm ?_ | exact CL | fail))))
        refine ⟨(), To.put (ex := []) hT (i := sp) (N := 69) (by omega) (by omega) (by omega) (fun b hb => ?_) (by omega) ?_ ?_ ?_ (fun j hj hne => ?_) ?_ trivial (fun q hq => by cases hq)⟩
        · simp at hb; omega
        · rw [lookb_cons, if_pos rfl, show sp + 1 = 1 + sp by omega]; simp
        · (repeat rw [lookb_cons, if_neg (by omega)]); rw [lookb_cons, if_pos rfl]
        · rw [lookb_cons, if_neg (by omega), lookb_cons, if_pos rfl, tms_app]; rfl
        · (repeat rw [lookb_cons, if_neg (by omega)]); exact WT.rowI hT hj 70
        · simp [subT, nmOk, nmAll, look, ren, rens]
    · (have zf1 := @hHi; have zf2 := @h0; refine XM ?_; clear zf1 zf2; ((try (repeat' with_reducible refine And.intro ?_ ?_)); (try any_goals (first | refine zm ?_ | exact CL | fail))))
      refine ⟨1, ⟨by omega, ?_⟩, To.sel (by (have zf1 := @hp2; refine XG ?_; clear zf1; ((try (repeat' with_reducible refine And.intro ?_ ?_)); (try any_goals (first | refine zm ?_ | exact CL | fail))))) fun _ => rfl, by omega⟩
      rw [slotOf_step hsl (by omega), if_neg (by simp only [Nat.reducePow]; omega)]
  · have hq1 : Int.tdiv (due : Int) 16 = ((due / 16 : Nat) : Int) := tdivN due 16
    have hq2 : Int.tdiv (T.now : Int) 16 = ((T.now / 16 : Nat) : Int) := tdivN T.now 16
    have hp : ((16 ^ 1 : Nat) : Int) = 16 := rfl
    have hp2 : ((16 ^ 2 : Nat) : Int) = 256 := rfl
    have hm : Int.tmod ((due / 16 : Nat) : Int) 16 = ((due / 16 % 16 : Nat) : Int) := tmodN _ 16
    rw [hTh, hp]
    (have zf1 := @hHi; have zf2 := @h0; refine XG ?_; clear zf1 zf2; ((try (repeat' with_reducible refine And.intro ?_ ?_)); (try any_goals (first | refine zm ?_ | exact CL | fail))))
    (refine xw_ifp (fun h1 => ?_) (fun h1 => ?_) <;> try exact h1.elim)
    (have zf1 := @hHi; have zf2 := @h0; have zf3 := @hq1; have zf4 := @hq2; refine XG ?_; clear zf1 zf2 zf3 zf4; ((try (repeat' with_reducible refine And.intro ?_ ?_)); (try any_goals (first | refine zm ?_ | exact CL | fail))))
    (refine xw_ifp (fun h2 => ?_) (fun h2 => ?_) <;> try exact h2.elim)
    · (have zf1 := @hHi; have zf2 := @h0; have zf3 := @hq1; have zf4 := @hm; refine XG ?_; clear zf1 zf2 zf3 zf4; ((try (repeat' with_reducible refine And.intro ?_ ?_)); (try any_goals (first | refine zm ?_ | exact CL | fail))))
      have hs1 : slotOf T.now due = 16 + due / 16 % 16 := by rw [slotOf_step hsl (by omega), if_pos (by simp only [Nat.reducePow]; omega)]
      have hsp : due / 16 % 16 < 16 := Nat.mod_lt _ (by omega)
      rw [hs1] at hlen
      have hlay : T.lay ⟨id, due⟩ = T.put (16 + due / 16 % 16) (T.row (16 + due / 16 % 16) ++ [⟨id, due⟩]) := by unfold WT.lay; rw [hs1]
      rw [hlay]
      generalize due / 16 % 16 = sp at *
      have hget := WT.getI hT (i := 16 + sp) (by omega)
      have hrow := fun n => WT.rowI hT (i := 16 + sp) (by omega) n
      rw [show 16 + sp + 1 = 17 + sp by omega, show 2 + (16 + sp) = 18 + sp by omega] at hget
      simp only [show 2 + (16 + sp) = 18 + sp by omega] at hrow
      have htl := tms_len (T.row (16 + sp))
      have hb1 : ((68 : Nat) == 18 + sp) = false := beq_eq_false_iff_ne.2 (by omega)
      have hb2 : ((67 : Nat) == 18 + sp) = false := beq_eq_false_iff_ne.2 (by omega)
      have hb3 : ((0 : Nat) == 18 + sp) = false := beq_eq_false_iff_ne.2 (by omega)
      have hb4 : ((1 : Nat) == 18 + sp) = false := beq_eq_false_iff_ne.2 (by omega)
      have hb5 : ((18 + sp : Nat) == 0) = false := beq_eq_false_iff_ne.2 (by omega)
      ((first | apply pr_app | apply prD_app | apply pr_bsl | apply prD_bsl | apply pr_s2b | apply prD_s2b); (have zf1 := @hHi; have zf2 := @hget; refine XG ?_; clear zf1 zf2; ((try (repeat' with_reducible refine And.intro ?_ ?_)); (try any_goals (first | refine zm ?_ | exact CL | fail)))))
      ((first | apply pr_app | apply prD_app | apply pr_bsl | apply prD_bsl | apply pr_s2b | apply prD_s2b); (have zf1 := @hHi; have zf2 := @hget; have zf3 := @hb1; have zf4 := @hb2; have zf5 := @hb3; have zf6 := @hb4; have zf7 := @hrow; have zf8 := @htl; have zf9 := @hb5; refine XG ?_; clear zf1 zf2 zf3 zf4 zf5 zf6 zf7 zf8 zf9; ((try (repeat' with_reducible refine And.intro ?_ ?_)); (try any_goals (first | refine zm ?_ | exact CL | fail)))))
      · simp [drawOk, clashAll, clash, hb1, hb2, hb3, hb4, hb5]
        (repeat' refine And.intro ?_ ?_) <;> first | decide | (left; omega)
      · (refine XG ?_; ((try (repeat' with_reducible refine And.intro ?_ ?_)); (try any_goals (first | refine zm ?_ | exact CL | fail))))
        refine ⟨(), To.put (ex := []) hT (i := 16 + sp) (N := 69) (by omega) (by omega) (by omega) (fun b hb => ?_) (by omega) ?_ ?_ ?_ (fun j hj hne => ?_) ?_ trivial (fun q hq => by cases hq)⟩
        · simp at hb; omega
        · rw [lookb_cons, if_pos rfl, show 16 + sp + 1 = 17 + sp by omega]; simp
        · (repeat rw [lookb_cons, if_neg (by omega)]); rw [lookb_cons, if_pos rfl]
        · rw [lookb_cons, if_neg (by omega), lookb_cons, if_pos rfl, tms_app]; rfl
        · (repeat rw [lookb_cons, if_neg (by omega)]); exact WT.rowI hT hj 70
        · simp [subT, nmOk, nmAll, look, ren, rens]
    · (have zf1 := @hHi; have zf2 := @h0; refine XM ?_; clear zf1 zf2; ((try (repeat' with_reducible refine And.intro ?_ ?_)); (try any_goals (first | refine zm ?_ | exact CL | fail))))
      refine ⟨2, ⟨by omega, ?_⟩, To.sel (by (have zf1 := @hp2; refine XG ?_; clear zf1; ((try (repeat' with_reducible refine And.intro ?_ ?_)); (try any_goals (first | refine zm ?_ | exact CL | fail))))) fun _ => rfl, by omega⟩
      rw [slotOf_step hsl (by omega), if_neg (by simp only [Nat.reducePow]; omega)]
  · have hq1 : Int.tdiv (due : Int) 256 = ((due / 256 : Nat) : Int) := tdivN due 256
    have hq2 : Int.tdiv (T.now : Int) 256 = ((T.now / 256 : Nat) : Int) := tdivN T.now 256
    have hp : ((16 ^ 2 : Nat) : Int) = 256 := rfl
    have hp2 : ((16 ^ 3 : Nat) : Int) = 4096 := rfl
    have hm : Int.tmod ((due / 256 : Nat) : Int) 16 = ((due / 256 % 16 : Nat) : Int) := tmodN _ 16
    rw [hTh, hp]
    (have zf1 := @hHi; have zf2 := @h0; refine XG ?_; clear zf1 zf2; ((try (repeat' with_reducible refine And.intro ?_ ?_)); (try any_goals (first | refine zm ?_ | exact CL | fail))))
    (refine xw_ifp (fun h1 => ?_) (fun h1 => ?_) <;> try exact h1.elim)
    (have zf1 := @hHi; have zf2 := @h0; have zf3 := @hq1; have zf4 := @hq2; refine XG ?_; clear zf1 zf2 zf3 zf4; ((try (repeat' with_reducible refine And.intro ?_ ?_)); (try any_goals (first | refine zm ?_ | exact CL | fail))))
    (refine xw_ifp (fun h2 => ?_) (fun h2 => ?_) <;> try exact h2.elim)
    · (have zf1 := @hHi; have zf2 := @h0; have zf3 := @hq1; have zf4 := @hm; refine XG ?_; clear zf1 zf2 zf3 zf4; ((try (repeat' with_reducible refine And.intro ?_ ?_)); (try any_goals (first | refine zm ?_ | exact CL | fail))))
      have hs1 : slotOf T.now due = 32 + due / 256 % 16 := by rw [slotOf_step hsl (by omega), if_pos (by simp only [Nat.reducePow]; omega)]
      have hsp : due / 256 % 16 < 16 := Nat.mod_lt _ (by omega)
      rw [hs1] at hlen
      have hlay : T.lay ⟨id, due⟩ = T.put (32 + due / 256 % 16) (T.row (32 + due / 256 % 16) ++ [⟨id, due⟩]) := by unfold WT.lay; rw [hs1]
      rw [hlay]
      generalize due / 256 % 16 = sp at *
      have hget := WT.getI hT (i := 32 + sp) (by omega)
      have hrow := fun n => WT.rowI hT (i := 32 + sp) (by omega) n
      rw [show 32 + sp + 1 = 33 + sp by omega, show 2 + (32 + sp) = 34 + sp by omega] at hget
      simp only [show 2 + (32 + sp) = 34 + sp by omega] at hrow
      have htl := tms_len (T.row (32 + sp))
      have hb1 : ((68 : Nat) == 34 + sp) = false := beq_eq_false_iff_ne.2 (by omega)
      have hb2 : ((67 : Nat) == 34 + sp) = false := beq_eq_false_iff_ne.2 (by omega)
      have hb3 : ((0 : Nat) == 34 + sp) = false := beq_eq_false_iff_ne.2 (by omega)
      have hb4 : ((1 : Nat) == 34 + sp) = false := beq_eq_false_iff_ne.2 (by omega)
      have hb5 : ((34 + sp : Nat) == 0) = false := beq_eq_false_iff_ne.2 (by omega)
      ((first | apply pr_app | apply prD_app | apply pr_bsl | apply prD_bsl | apply pr_s2b | apply prD_s2b); (have zf1 := @hHi; have zf2 := @hget; refine XG ?_; clear zf1 zf2; ((try (repeat' with_reducible refine And.intro ?_ ?_)); (try any_goals (first | refine zm ?_ | exact CL | fail)))))
      ((first | apply pr_app | apply prD_app | apply pr_bsl | apply prD_bsl | apply pr_s2b | apply prD_s2b); (have zf1 := @hHi; have zf2 := @hget; have zf3 := @hb1; have zf4 := @hb2; have zf5 := @hb3; have zf6 := @hb4; have zf7 := @hrow; have zf8 := @htl; have zf9 := @hb5; refine XG ?_; clear zf1 zf2 zf3 zf4 zf5 zf6 zf7 zf8 zf9; ((try (repeat' with_reducible refine And.intro ?_ ?_)); (try any_goals (first | refine zm ?_ | exact CL | fail)))))
      · simp [drawOk, clashAll, clash, hb1, hb2, hb3, hb4, hb5]
        (repeat' refine And.intro ?_ ?_) <;> first | decide | (left; omega)
      · (refine XG ?_; ((try (repeat' with_reducible refine And.intro ?_ ?_)); (try any_goals (first | refine zm ?_ | exact CL | fail))))
        refine ⟨(), To.put (ex := []) hT (i := 32 + sp) (N := 69) (by omega) (by omega) (by omega) (fun b hb => ?_) (by omega) ?_ ?_ ?_ (fun j hj hne => ?_) ?_ trivial (fun q hq => by cases hq)⟩
        · simp at hb; omega
        · rw [lookb_cons, if_pos rfl, show 32 + sp + 1 = 33 + sp by omega]; simp
        · (repeat rw [lookb_cons, if_neg (by omega)]); rw [lookb_cons, if_pos rfl]
        · rw [lookb_cons, if_neg (by omega), lookb_cons, if_pos rfl, tms_app]; rfl
        · (repeat rw [lookb_cons, if_neg (by omega)]); exact WT.rowI hT hj 70
        · simp [subT, nmOk, nmAll, look, ren, rens]
    · (have zf1 := @hHi; have zf2 := @h0; refine XM ?_; clear zf1 zf2; ((try (repeat' with_reducible refine And.intro ?_ ?_)); (try any_goals (first | refine zm ?_ | exact CL | fail))))
      refine ⟨3, ⟨by omega, ?_⟩, To.sel (by (have zf1 := @hp2; refine XG ?_; clear zf1; ((try (repeat' with_reducible refine And.intro ?_ ?_)); (try any_goals (first | refine zm ?_ | exact CL | fail))))) fun _ => rfl, by omega⟩
      rw [slotOf_step hsl (by omega), if_neg (by simp only [Nat.reducePow]; omega)]
  · have hq1 : Int.tdiv (due : Int) 4096 = ((due / 4096 : Nat) : Int) := tdivN due 4096
    have hq2 : Int.tdiv (T.now : Int) 4096 = ((T.now / 4096 : Nat) : Int) := tdivN T.now 4096
    have hp : ((16 ^ 3 : Nat) : Int) = 4096 := rfl
    have hp2 : ((16 ^ 4 : Nat) : Int) = 65536 := rfl
    have hm : Int.tmod ((due / 4096 : Nat) : Int) 16 = ((due / 4096 % 16 : Nat) : Int) := tmodN _ 16
    rw [hTh, hp]
    (have zf1 := @hHi; have zf2 := @h0; refine XG ?_; clear zf1 zf2; ((try (repeat' with_reducible refine And.intro ?_ ?_)); (try any_goals (first | refine zm ?_ | exact CL | fail))))
    (refine xw_ifp (fun h1 => ?_) (fun h1 => ?_) <;> try exact h1.elim)
    (have zf1 := @hHi; have zf2 := @h0; have zf3 := @hq1; have zf4 := @hq2; refine XG ?_; clear zf1 zf2 zf3 zf4; ((try (repeat' with_reducible refine And.intro ?_ ?_)); (try any_goals (first | refine zm ?_ | exact CL | fail))))
    (refine xw_ifp (fun h2 => ?_) (fun h2 => ?_) <;> try exact h2.elim)
    · (have zf1 := @hHi; have zf2 := @h0; have zf3 := @hq1; have zf4 := @hm; refine XG ?_; clear zf1 zf2 zf3 zf4; ((try (repeat' with_reducible refine And.intro ?_ ?_)); (try any_goals (first | refine zm ?_ | exact CL | fail))))
      have hs1 : slotOf T.now due = 48 + due / 4096 % 16 := by rw [slotOf_step hsl (by omega), if_pos (by simp only [Nat.reducePow]; omega)]
      have hsp : due / 4096 % 16 < 16 := Nat.mod_lt _ (by omega)
      rw [hs1] at hlen
      have hlay : T.lay ⟨id, due⟩ = T.put (48 + due / 4096 % 16) (T.row (48 + due / 4096 % 16) ++ [⟨id, due⟩]) := by unfold WT.lay; rw [hs1]
      rw [hlay]
      generalize due / 4096 % 16 = sp at *
      have hget := WT.getI hT (i := 48 + sp) (by omega)
      have hrow := fun n => WT.rowI hT (i := 48 + sp) (by omega) n
      rw [show 48 + sp + 1 = 49 + sp by omega, show 2 + (48 + sp) = 50 + sp by omega] at hget
      simp only [show 2 + (48 + sp) = 50 + sp by omega] at hrow
      have htl := tms_len (T.row (48 + sp))
      have hb1 : ((68 : Nat) == 50 + sp) = false := beq_eq_false_iff_ne.2 (by omega)
      have hb2 : ((67 : Nat) == 50 + sp) = false := beq_eq_false_iff_ne.2 (by omega)
      have hb3 : ((0 : Nat) == 50 + sp) = false := beq_eq_false_iff_ne.2 (by omega)
      have hb4 : ((1 : Nat) == 50 + sp) = false := beq_eq_false_iff_ne.2 (by omega)
      have hb5 : ((50 + sp : Nat) == 0) = false := beq_eq_false_iff_ne.2 (by omega)
      ((first | apply pr_app | apply prD_app | apply pr_bsl | apply prD_bsl | apply pr_s2b | apply prD_s2b); (have zf1 := @hHi; have zf2 := @hget; refine XG ?_; clear zf1 zf2; ((try (repeat' with_reducible refine And.intro ?_ ?_)); (try any_goals (first | refine zm ?_ | exact CL | fail)))))
      ((first | apply pr_app | apply prD_app | apply pr_bsl | apply prD_bsl | apply pr_s2b | apply prD_s2b); (have zf1 := @hHi; have zf2 := @hget; have zf3 := @hb1; have zf4 := @hb2; have zf5 := @hb3; have zf6 := @hb4; have zf7 := @hrow; have zf8 := @htl; have zf9 := @hb5; refine XG ?_; clear zf1 zf2 zf3 zf4 zf5 zf6 zf7 zf8 zf9; ((try (repeat' with_reducible refine And.intro ?_ ?_)); (try any_goals (first | refine zm ?_ | exact CL | fail)))))
      · simp [drawOk, clashAll, clash, hb1, hb2, hb3, hb4, hb5]
        (repeat' refine And.intro ?_ ?_) <;> first | decide | (left; omega)
      · (refine XG ?_; ((try (repeat' with_reducible refine And.intro ?_ ?_)); (try any_goals (first | refine zm ?_ | exact CL | fail))))
        refine ⟨(), To.put (ex := []) hT (i := 48 + sp) (N := 69) (by omega) (by omega) (by omega) (fun b hb => ?_) (by omega) ?_ ?_ ?_ (fun j hj hne => ?_) ?_ trivial (fun q hq => by cases hq)⟩
        · simp at hb; omega
        · rw [lookb_cons, if_pos rfl, show 48 + sp + 1 = 49 + sp by omega]; simp
        · (repeat rw [lookb_cons, if_neg (by omega)]); rw [lookb_cons, if_pos rfl]
        · rw [lookb_cons, if_neg (by omega), lookb_cons, if_pos rfl, tms_app]; rfl
        · (repeat rw [lookb_cons, if_neg (by omega)]); exact WT.rowI hT hj 70
        · simp [subT, nmOk, nmAll, look, ren, rens]
    · (have zf1 := @hHi; have zf2 := @h0; refine XM ?_; clear zf1 zf2; ((try (repeat' with_reducible refine And.intro ?_ ?_)); (try any_goals (first | refine zm ?_ | exact CL | fail))))
      refine ⟨4, ⟨by omega, ?_⟩, To.sel (by (have zf1 := @hp2; refine XG ?_; clear zf1; ((try (repeat' with_reducible refine And.intro ?_ ?_)); (try any_goals (first | refine zm ?_ | exact CL | fail))))) fun _ => rfl, by omega⟩
      rw [slotOf_step hsl (by omega), if_neg (by simp only [Nat.reducePow]; omega)]
  · rw [hTh]
    (have zf1 := @hHi; have zf2 := @h0; refine XG ?_; clear zf1 zf2; ((try (repeat' with_reducible refine And.intro ?_ ?_)); (try any_goals (first | refine zm ?_ | exact CL | fail))))
    (refine xw_ifp (fun h1 => ?_) (fun h1 => ?_) <;> try exact h1.elim)
    have hs1 : slotOf T.now due = 64 := by rw [hsl]; rfl
    rw [hs1] at hlen
    have hlay : T.lay ⟨id, due⟩ = T.put 64 (T.row 64 ++ [⟨id, due⟩]) := by unfold WT.lay; rw [hs1]
    rw [hlay]
    have hget := WT.getI hT (i := 64) (by omega)
    have hrow := fun n => WT.rowI hT (i := 64) (by omega) n
    simp only [Nat.reduceAdd] at hget hrow
    have htl := tms_len (T.row 64)
    (have zf1 := @hHi; have zf2 := @hget; refine XG ?_; clear zf1 zf2; ((try (repeat' with_reducible refine And.intro ?_ ?_)); (try any_goals (first | refine zm ?_ | exact CL | fail))))
    ((first | apply pr_app | apply prD_app | apply pr_bsl | apply prD_bsl | apply pr_s2b | apply prD_s2b); (have zf1 := @hHi; have zf2 := @hget; refine XG ?_; clear zf1 zf2; ((try (repeat' with_reducible refine And.intro ?_ ?_)); (try any_goals (first | refine zm ?_ | exact CL | fail)))))
    ((first | apply pr_app | apply prD_app | apply pr_bsl | apply prD_bsl | apply pr_s2b | apply prD_s2b); (have zf1 := @hHi; have zf2 := @hget; have zf3 := @hrow; have zf4 := @htl; refine XG ?_; clear zf1 zf2 zf3 zf4; ((try (repeat' with_reducible refine And.intro ?_ ?_)); (try any_goals (first | refine zm ?_ | exact CL | fail)))))
    refine ⟨(), To.put (ex := []) hT (i := 64) (N := 69) (by omega) (by omega) (by omega) (fun b hb => ?_) (by omega) ?_ ?_ ?_ (fun j hj hne => ?_) ?_ trivial (fun q hq => by cases hq)⟩
    · simp at hb; omega
    · rw [lookb_cons, if_pos rfl]; simp
    · (repeat rw [lookb_cons, if_neg (by omega)]); rw [lookb_cons, if_pos rfl]
    · rw [lookb_cons, if_neg (by omega), lookb_cons, if_pos rfl, tms_app]; rfl
    · (repeat rw [lookb_cons, if_neg (by omega)]); exact WT.rowI hT hj 70
    · simp [subT, nmOk, nmAll, look, ren, rens]
end Go.Proofs.Ytphaicaobepimaa
